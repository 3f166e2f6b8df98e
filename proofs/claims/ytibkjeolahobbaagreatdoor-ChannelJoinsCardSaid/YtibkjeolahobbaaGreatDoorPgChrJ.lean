/- A part of the proof. -/
import Derived.Test.YtibkjeolahobbaaGreatDoorChrI
set_option linter.all false
open Go Go.Pw Go.Proofs
namespace Go.Pw
set_option maxRecDepth 100000
set_option maxHeartbeats 3200000
section
theorem iz (S:List F) (i n:Nat) (h:i<n) (hS:S.length=n):(S.take i++List.replicate (n-i) (0:F))[i]?.getD 0=0:=by
 rw[List.getElem?_append_right (by simp;omega)]
 simp only[List.length_take,List.getElem?_replicate]
 split<;>rfl
theorem iy (S:List F) (i n:Nat) (h:i<n) (hS:S.length=n):(S.take i++List.replicate (n-i) (0:F)).set i (S[i]?.getD 0)=S.take (i+1)++List.replicate (n-(i+1)) 0:=by
 have h1:(S.take i).length=i:=by simp;omega
 rw[List.set_append_right _ _ (by omega),h1,Nat.sub_self,show n-i=(n-(i+1))+1 by omega,List.replicate_succ,List.set_cons_zero,←Az S 0 i (by omega),List.append_assoc]
 rfl
theorem eE (l:List F) (i:Nat) (h:i<l.length):l.set i (l[i]?.getD 0)=l:=by
 rw[List.getElem?_eq_getElem h];simp
theorem j7 (l:List F) (i:Nat) (x:F) (h:i<l.length):(l.set i x)[i]?.getD 0=x:=by simp[h]
def BX:List F->List Nat->List F->List F
 |w,j::js,x::xs=>BX (w.set j x) js xs
 |w,_,_=>w
theorem D8:∀(at_:List Nat) (w xs:List F),(BX w at_ xs).length=w.length
 |[],w,xs=>by cases xs<;>rfl
 |j::js,w,[]=>rfl
 |j::js,w,x::xs=>by show (BX (w.set j x) js xs).length=_;rw[D8];simp
theorem MR (j:Nat) (y:F):∀(at_:List Nat) (w xs:List F),at_.length=xs.length->BX w (at_++[j]) (xs++[y])=(BX w at_ xs).set j y
 |[],w,[],_=>rfl
 |k::js,w,z::xs,h=>by
  show BX (w.set k z) (js++[j]) (xs++[y])=_
  rw[MR j y js (w.set k z) xs (by simpa using h)];rfl
theorem OO (w xs:List F):BX w [] xs=w:=by cases xs<;>rfl
theorem Fc:∀(at_:List Nat) (w xs:List F) (j:Nat),j∉at_->(BX w at_ xs)[j]?.getD 0=w[j]?.getD 0
 |[],w,xs,j,_=>by rw[OO]
 |k::js,w,[],j,_=>rfl
 |k::js,w,x::xs,j,h=>by
  show (BX (w.set k x) js xs)[j]?.getD 0=_
  rw[Fc js _ xs j (fun e=>h (by simp[e])),List.getElem?_set_ne (fun e=>h (by simp[e]))]
theorem PI {α β:Type}(a:List α) (b:List β) (i:Nat) (h:a.length=b.length):(a.take i).length=(b.take i).length:=by simp[h]
attribute [local irreducible] IntKind.wrap Ai Option.getD and or
theorem O_ (L P:Nat) (n1:Bool) (w:List F) (hL:L<=15) (hL1:1<=L) (hP:1<=P) (hP2:P<=15) (hw:w.length=L):BR E0 GY [QC L P,.list n1 (us w)] (.list false (us (Fg L P w))):=by
 obtain⟨S,hS⟩:∃S,Fg L P w=S:=⟨_,rfl⟩
 have hSl:S.length=P:=by rw[←hS];exact Qo L P w
 rw[hS]
 refine AM J5 Af (by simp) fun hwf=>?_
 rw[AQ];unfold Fx
 (try (simp -implicitDefEqProofs only[go_sem,A4,List.length_replicate]));repeat' first|(with_reducible first|exact tI|refine aI ?_ ?_|intro _|refine AJ ?_ ?_<;>intro _<;>try simp -implicitDefEqProofs only[go_sem,A4,List.length_replicate])|simp (disch:=omega) only[Ad]|((with_reducible first|apply Ae|apply Ab);exact rfl)
 all_goals first|omega|(simp<;>omega)|skip
 refine AU (α:=Nat) (l0:=?l1) (m0:=?m1) (fun x=>[(15,.d (.int .i64 (x:Int)))]) (fun x=>[(12,.row 135 1 false (us (S.take x++List.replicate (P-x) 0)))]) (fun x=>x<=P) (fun x=>P-x) 0 ?h01 ?he1 ?he21 ?hI1 ?step1
 case h01=>(simp -implicitDefEqProofs only[go_sem];rfl)
 case he1=>rfl
 case he21=>rfl
 case' step1=>(rintro i hI;try dsimp only at hI)
 case' hI1=>try dsimp only
 ·exact Nat.zero_le _
 ·have hbl:(S.take i++List.replicate (P-i) (0:F)).length=P:=by simp;omega
  by_cases h:i<P
  ·have h':(i:Int)<(P:Int):=by omega
   have hwi:IntKind.i64.wrap ((i:Int)+1)=((i+1:Nat):Int):=by rw[AZ _ (by omega)];omega
   have hbg:=iz S i P h hSl
   have hbs:=iy S i P h hSl
   obtain⟨B,hB⟩:∃B,S.take i++List.replicate (P-i) (0:F)=B:=⟨_,rfl⟩
   rw[hB] at hbl hbg hbs ⊢
   have hB0:B.set i 0=B:=by have:=eE B i (by omega);rwa [hbg] at this
   have hUR:us B=us (B.set i 0):=by rw[hB0]
   (try (simp -implicitDefEqProofs only[go_sem,h',A4,hbl,List.length_replicate]));repeat' first|(with_reducible first|exact tI|refine aI ?_ ?_|intro _|refine AJ ?_ ?_<;>intro _<;>try simp -implicitDefEqProofs only[go_sem,h',A4,hbl,List.length_replicate])|simp (disch:=omega) only[Ad]|((with_reducible first|apply Ae|apply Ab);exact rfl)
   all_goals first|omega|(simp<;>omega)|skip
   rw[hUR]
   refine AU (α:=Nat×F) (l0:=?l2) (m0:=?m2) (fun x=>[(20,.d (.int .i64 (x.1:Int)))]) (fun x=>[(12,.row 135 1 false (us (B.set i x.2)))]) (fun x=>x.1<=L/\x.2=Eb (w.take x.1) ((QV L i).take x.1)) (fun x=>L-x.1) (0,0) ?h02 ?he2 ?he22 ?hI2 ?step2
   case h02=>(simp -implicitDefEqProofs only[go_sem];rfl)
   case he2=>rfl
   case he22=>rfl
   case' step2=>(rintro⟨j,acc⟩ hI2;try dsimp only at hI2)
   case' hI2=>try dsimp only
   ·exact⟨by omega,rfl⟩
   ·obtain⟨q1,q2⟩:=hI2
    by_cases hj:j<L
    ·have hj':(j:Int)<(w.length:Int):=by omega
     have hwj:IntKind.i64.wrap ((j:Int)+1)=((j+1:Nat):Int):=by rw[AZ _ (by omega)];omega
     have c1:=G6 L P i j (by omega) (by omega) hj
     have c2:=C2 (w[j]?.getD 0) (gp (i*(L-1-j)))
     have hk:fa acc (fm (w[j]?.getD 0) (gp (i*(L-1-j))))=Eb (w.take (j+1)) ((QV L i).take (j+1)):=by
      rw[q2,←Wq w (QV L i) j (by omega) (by rw[La];omega),QU L i j hj];rfl
     have hsg:(B.set i acc)[i]?.getD 0=acc:=j7 B i acc (by omega)
     have hss:∀y,(B.set i acc).set i y=B.set i y:=fun y=>List.set_set ..
     rw[A4] at c1
     (try (simp -implicitDefEqProofs only[go_sem,hj',hwj,hsg,hss,List.length_set,hbl,h]));repeat' first|(with_reducible first|exact tI|refine aI ?_ ?_|intro _)|((first|with_reducible refine AJ ?_ ?_<;>intro _|(with_reducible refine isCall ?_);first|refine AE c1 ?_|refine AE c2 ?_)<;>try (simp -implicitDefEqProofs only[go_sem,hj',hwj,hsg,hss,List.length_set,hbl,h]))|simp (disch:=omega) only[Ad]|((with_reducible first|apply Ae|apply Ab);exact rfl)
     all_goals first|omega|(simp<;>omega)|skip
     all_goals first|exact hk|(simp at *;done)|(simp at *;omega)|skip
    ·have hj':¬(j:Int)<(w.length:Int):=by omega
     have hje:j=L:=by omega
     have hacc:acc=S[i]?.getD 0:=by
      rw[q2,hje,←hS,H_ L P w i h,List.take_of_length_le (by omega),List.take_of_length_le (by rw[La];omega)]
     rw[hacc]
     (try (simp -implicitDefEqProofs only[go_sem,hj',hwi,hbs]));repeat' first|(with_reducible first|exact tI|refine aI ?_ ?_|intro _|refine AJ ?_ ?_<;>intro _<;>try simp -implicitDefEqProofs only[go_sem,hj',hwi,hbs])|simp (disch:=omega) only[Ad]|((with_reducible first|apply Ae|apply Ab);exact rfl)
     all_goals first|omega|(simp<;>omega)|skip
     all_goals first|rfl|omega|skip
  ·have h':¬(i:Int)<(P:Int):=by omega
   have hie:i=P:=by omega
   subst hie
   have hfin:S.take i++List.replicate (i-i) (0:F)=S:=by rw[List.take_of_length_le (by omega)];simp
   rw[hfin]
   (try (simp -implicitDefEqProofs only[go_sem,h',List.length_replicate,hSl]));repeat' first|(with_reducible first|exact tI|refine aI ?_ ?_|intro _|refine AJ ?_ ?_<;>intro _<;>try simp -implicitDefEqProofs only[go_sem,h',List.length_replicate,hSl])|simp (disch:=omega) only[Ad]|((with_reducible first|apply Ae|apply Ab);exact rfl)
   all_goals first|omega|(simp<;>omega)|skip
   all_goals first|rfl|skip
theorem KH (n1 n2 n3:Bool) (w:List F) (at_:List Nat) (xs:List F) (hw:w.length<=1000) (hw1:1<=w.length) (hl:at_.length=xs.length) (hlt:∀j,j∈at_->j<w.length) :
  BR E0 OE [.list n1 (Aa (iv w)),.list n2 (Aa (ni at_)),.list n3 (Aa (iv xs))] (.list false (Aa (iv (BX w at_ xs)))):=by
 refine AM Rs Af (by simp) fun hwf=>?_
 simp only[CU,Bu,Bt,Bq,Cd,Cc,Dt,Cb,A2,A9,A_,Bz,BG,List.length_map,BH,true_and,and_true,Gx,GG] at hwf
 rw[AQ];unfold L0
 have hne:¬iv w=[]:=by
  intro e
  have h0:(iv w).length=0:=by rw[e];rfl
  rw[Gx] at h0;omega
 (try (simp -implicitDefEqProofs only[go_sem,hne,List.nil_append]));repeat' first|(with_reducible first|exact tI|refine aI ?_ ?_|intro _|refine AJ ?_ ?_<;>intro _<;>try simp -implicitDefEqProofs only[go_sem,hne,List.nil_append])|simp (disch:=omega) only[Ad]|((with_reducible apply Ab);exact rfl)
 all_goals first|omega|(simp<;>omega)|skip
 refine AU (α:=Nat) (l0:=?l3) (m0:=?m3) (fun x=>[(8,.d (.int .i64 (x:Int)))]) (fun x=>[(11,.row 3 1 false (Aa (iv (BX w (at_.take x) (xs.take x)))))]) (fun x=>x<=at_.length) (fun x=>at_.length-x) 0 ?h03 ?he3 ?he23 ?hI3 ?step3
 case h03=>(simp -implicitDefEqProofs only[go_sem];rfl)
 case he3=>rfl
 case he23=>rfl
 case' step3=>(rintro i hI;try dsimp only at hI)
 case' hI3=>try dsimp only
 ·exact Nat.zero_le _
 ·have hW:=D8 (at_.take i) w (xs.take i)
  by_cases h:i<at_.length
  ·have h':(i:Int)<(at_.length:Int):=by omega
   have hwi:IntKind.i64.wrap ((i:Int)+1)=((i+1:Nat):Int):=by rw[AZ _ (by omega)];omega
   have hj:=hlt (at_[i]?.getD 0) (by rw[RV _ _ h];exact List.getElem_mem h)
   have hk:(BX w (at_.take i) (xs.take i)).set (at_[i]?.getD 0) (xs[i]?.getD 0)=BX w (at_.take (i+1)) (xs.take (i+1)):=by
    rw[←MR _ _ _ _ _ (PI at_ xs i hl),Az at_ 0 i h,Az xs 0 i (by omega)]
   have hi2:i<xs.length:=by omega
   (try (simp -implicitDefEqProofs only[go_sem,h',hwi,hW,hj,hk]));repeat' first|(with_reducible first|exact tI|refine aI ?_ ?_|intro _|refine AJ ?_ ?_<;>intro _<;>try simp -implicitDefEqProofs only[go_sem,h',hwi,hW,hj,hk])|simp (disch:=omega) only[Ad]|((with_reducible apply Ab);exact rfl)
   all_goals first|omega|(simp<;>omega)|skip
   all_goals first|rfl|skip
  ·have h':¬(i:Int)<(at_.length:Int):=by omega
   have hie:i=at_.length:=by omega
   have hfin:BX w (at_.take i) (xs.take i)=BX w at_ xs:=by rw[List.take_of_length_le (by omega),List.take_of_length_le (by omega)]
   rw[hfin]
   (try (simp -implicitDefEqProofs only[go_sem,h']));repeat' first|(with_reducible first|exact tI|refine aI ?_ ?_|intro _|refine AJ ?_ ?_<;>intro _<;>try simp -implicitDefEqProofs only[go_sem,h'])|simp (disch:=omega) only[Ad]|((with_reducible apply Ab);exact rfl)
   all_goals first|omega|(simp<;>omega)|skip
   all_goals first|rfl|skip
end
section
def vv (b:Bool) (o:List F) (fnd:Bool):List (Nat×Nat×Ah):=[(900004,0,.cells [.d (.list b (us o))]),(901004,0,.cells [.d (.bool fnd)])]
def vh (b:Bool) (o:List F) (fnd:Bool) (r:Option (List F)):List (Nat×Nat×Ah):=match r with|some z=>vv false z true|none=>vv b o fnd
theorem I8 (b:Bool) (o:List F) (fnd:Bool) (z:List F):vh b o fnd (some z)=vv false z true:=rfl
theorem I9 (b:Bool) (o:List F) (fnd:Bool):vh b o fnd none=vv b o fnd:=rfl
def FS (w:List F) (at_:List Nat) (v:List F):List F:=List.zipWith (fun j x=>fa (w[j]?.getD 0) x) at_ v
theorem F9 (w:List F) (at_:List Nat) (v:List F) (h:at_.length=v.length):(FS w at_ v).length=at_.length:=by simp[FS,h]
theorem XP (w:List F) (at_:List Nat) (v:List F) (i:Nat) (h:i<at_.length) (hl:at_.length=v.length):(FS w at_ v)[i]?.getD 0=fa (w[at_[i]?.getD 0]?.getD 0) (v[i]?.getD 0):=by
 unfold FS
 rw[List.getElem?_zipWith,List.getElem?_eq_getElem h,List.getElem?_eq_getElem (by omega)];rfl
noncomputable def hit (L P:Nat) (w:List F) (mk:List Nat) (l:List Nat):Option (List F) :=
 (Gl L P (mk++l) (Fg L P w)).map fun v=>BX w (mk++l) (FS w (mk++l) v)
theorem YD (l:List Nat) (i:Nat) (h:i<l.length) (hn:l.Nodup):l[i]?.getD 0∉l.take i:=by
 intro hm
 rw[RV _ _ h] at hm
 obtain⟨j,hj,he⟩:=List.getElem_of_mem hm
 have hj2:j<i:=by simp at hj;omega
 rw[List.getElem_take] at he
 have:=(List.getElem_inj hn).1 he
 omega
attribute [local irreducible] IntKind.wrap Ai Option.getD and or
theorem Us (L P:Nat) (n1 n2 n3 b fnd:Bool) (o w:List F) (mk l:List Nat) (hL:L<=15) (hL1:1<=L) (hP:1<=P) (hP2:P<=15) (hw:w.length=L) (hp:ZG L (mk++l)) (hm:(mk++l).length<=P) (hn3:n3=false) :
  Hk E0 CO (vv b o fnd) [.d (.list n1 (Aa (ni l))),.d (.ptr [.list n2 (Aa (ni mk))]),.d (.ptr [.int .i64 L,.int .i64 P]),.d (.ptr [.list false (us (Fg L P w))]),.d (.ptr [.list n3 (us w)]),.ptr 900004 0 0,.ptr 901004 0 0]
   (vh b o fnd (hit L P w mk l)) (.d (.bool (hit L P w mk l).isNone)):=by
 subst hn3
 obtain⟨S,hS⟩:∃S,Fg L P w=S:=⟨_,rfl⟩
 have hSl:S.length=P:=by rw[←hS];exact Qo L P w
 have c1:=SV n2 n1 (ni mk) (ni l) (by rw[GG];simp at hm;omega) (by rw[GG];simp at hm;omega)
 rw[fO] at c1
 obtain⟨A,hA⟩:∃A,mk++l=A:=⟨_,rfl⟩
 have c2:=fun nl=>Nx L P false nl S A hL hP hP2 hSl (by rw[←hA];exact hp) (by rw[←hA];exact hm)
 rw[hA] at c1 hp hm
 unfold hit
 rw[hS,hA]
 unfold vh vv
 refine C3 HO Af (by simp) (by cases Gl L P A S<;>simp[Pu,E9,D7,Ah.isHist]) (by cases Gl L P A S<;>simp[J4]) fun hwf hwo=>?_
 rw[De];unfold EP
 cases hs:Gl L P A S with
 |none =>
  rw[hs,OT,A4] at c2
  simp only[Option.map_none,Option.isNone_none]
  (try (simp -implicitDefEqProofs only[go_sem]));repeat' first|(with_reducible first|exact tI|refine aI ?_ ?_|intro _)|((first|with_reducible refine AJ ?_ ?_<;>intro _|(with_reducible refine isCall ?_);first|refine AE c1 ?_|refine AE (c2 _) ?_)<;>try (simp -implicitDefEqProofs only[go_sem]))|simp (disch:=omega) only[Ad]|((with_reducible apply Ab);exact rfl)
  all_goals first|omega|(simp<;>omega)|skip
  all_goals first|rfl|skip
 |some v =>
  rw[hs,OS,A4] at c2
  simp only[Option.map_some,Option.isNone_some]
  have hvl:=(IA hs).1
  have c3:=H7 false w (by omega) (by omega) rfl
  (try (simp -implicitDefEqProofs only[go_sem]));repeat' first|(with_reducible first|exact tI|refine aI ?_ ?_|intro _)|((first|with_reducible refine AJ ?_ ?_<;>intro _|(with_reducible refine isCall ?_);first|refine AE c1 ?_|refine AE (c2 _) ?_|(refine EM ([]) ([((7,1),(27,1))]) (c3) ?_))<;>try (simp -implicitDefEqProofs only[go_sem]))|simp (disch:=omega) only[Ad]|((with_reducible apply Ab);exact rfl)
  all_goals first|omega|(simp<;>omega)|skip
  refine AU (α:=Nat) (l0:=?l1) (m0:=?m1) (fun x=>[(30,.d (.int .i64 (x:Int)))]) (fun x=>[(27,.row 135 1 false (us (BX w (A.take x) ((FS w A v).take x))))]) (fun x=>x<=A.length) (fun x=>A.length-x) 0 ?h01 ?he1 ?he21 ?hI1 ?step1
  case h01=>(simp -implicitDefEqProofs only[go_sem];rfl)
  case he1=>rfl
  case he21=>rfl
  case' step1=>(rintro i hI;try dsimp only at hI)
  case' hI1=>try dsimp only
  ·exact Nat.zero_le _
  ·have hW:=D8 (A.take i) w ((FS w A v).take i)
   have hYl:=F9 w A v hvl.symm
   by_cases h:i<A.length
   ·have h':(i:Int)<(A.length:Int):=by omega
    have hwi:IntKind.i64.wrap ((i:Int)+1)=((i+1:Nat):Int):=by rw[AZ _ (by omega)];omega
    have hj:=hp.lt (A[i]?.getD 0) (by rw[RV _ _ h];exact List.getElem_mem h)
    have hg:(BX w (A.take i) ((FS w A v).take i))[A[i]?.getD 0]?.getD 0=w[A[i]?.getD 0]?.getD 0:=Fc _ _ _ _ (YD A i h hp.nd)
    have hk:(BX w (A.take i) ((FS w A v).take i)).set (A[i]?.getD 0) (fa (w[A[i]?.getD 0]?.getD 0) (v[i]?.getD 0))=BX w (A.take (i+1)) ((FS w A v).take (i+1)):=by
     rw[←XP w A v i h hvl.symm,←MR _ _ _ _ _ (PI A _ i hYl.symm),Az A 0 i h,Az _ 0 i (by omega)]
    have hi2:i<v.length:=by omega
    have hj2:A[i]?.getD 0<w.length:=by omega
    (try (simp -implicitDefEqProofs only[go_sem,h',hwi,hW,hj2,hg,hk,hi2]));repeat' first|(with_reducible first|exact tI|refine aI ?_ ?_|intro _|refine AJ ?_ ?_<;>intro _<;>try simp -implicitDefEqProofs only[go_sem,h',hwi,hW,hj2,hg,hk,hi2])|simp (disch:=omega) only[Ad]|((with_reducible apply Ab);exact rfl)
    all_goals first|omega|(simp<;>omega)|skip
    all_goals first|rfl|skip
   ·have h':¬(i:Int)<(A.length:Int):=by omega
    have hie:i=A.length:=by omega
    have hfin:BX w (A.take i) ((FS w A v).take i)=BX w A (FS w A v):=by rw[List.take_of_length_le (by omega),List.take_of_length_le (by omega)]
    rw[hfin]
    (try (simp -implicitDefEqProofs only[go_sem,h']));repeat' first|(with_reducible first|exact tI|refine aI ?_ ?_|intro _|refine AJ ?_ ?_<;>intro _<;>try simp -implicitDefEqProofs only[go_sem,h'])|simp (disch:=omega) only[Ad]|((with_reducible apply Ab);exact rfl)
    all_goals first|omega|(simp<;>omega)|skip
    all_goals first|rfl|skip
end
theorem Un (x:F):∀(w c:List F) (j:Nat),j<w.length->w.length<=c.length->Eb (w.set j x) c=fa (Eb w c) (fm (fa (w[j]?.getD 0) x) (c[j]?.getD 0))
 |a::w,b::c,0,_,_=>by
  show fa (fm x b) (Eb w c)=fa (fa (fm a b) (Eb w c)) (fm (fa a x) b)
  rw[nW,Nf (fm a b) (Eb w c),DV,←DV (fm a b),FA,HQ,Nf]
 |a::w,b::c,j+1,h,hl=>by
  have ih:=Un x w c j (by simpa using h) (by simpa using hl)
  show fa (fm a b) (Eb (w.set j x) c)=fa (fa (fm a b) (Eb w c)) (fm (fa (w[j]?.getD 0) x) (c[j]?.getD 0))
  rw[ih,DV]
theorem XO (w:List F) (j:Nat) (x:F):∀(js:List Nat) (xs:List F),j∉js->FS (w.set j x) js xs=FS w js xs
 |[],xs,_=>rfl
 |k::js,[],_=>rfl
 |k::js,y::xs,h=>by
  have ih:=XO w j x js xs fun e=>h (by simp[e])
  show fa ((w.set j x)[k]?.getD 0) y::FS (w.set j x) js xs=fa (w[k]?.getD 0) y::FS w js xs
  rw[ih,List.getElem?_set_ne fun e=>h (by simp[e])]
theorem TQ (c:List F):∀(at_:List Nat) (xs w:List F),at_.Nodup->at_.length=xs.length->(∀j,j∈at_->j<w.length)->w.length<=c.length ->
  Eb (BX w at_ xs) c=fa (Eb w c) (Eb (at_.map fun j=>c[j]?.getD 0) (FS w at_ xs))
 |[],xs,w,_,_,_,_=>by rw[OO];simp[LY,CM]
 |j::js,x::xs,w,hn,hl,hlt,hc=>by
  rw[List.nodup_cons] at hn
  have hj:=hlt j (by simp)
  have ih:=TQ c js xs (w.set j x) hn.2 (by simpa using hl) (fun k hk=>by simpa using hlt k (by simp[hk])) (by simpa using hc)
  show Eb (BX (w.set j x) js xs) c=fa (Eb w c) (fa (fm (c[j]?.getD 0) (fa (w[j]?.getD 0) x)) (Eb (js.map fun j=>c[j]?.getD 0) (FS w js xs)))
  rw[ih,Un x w c j hj hc,XO _ _ _ _ _ hn.1,DV,Ck (c[j]?.getD 0)]
theorem kp (L i:Nat) (at_:List Nat) (h:∀j,j∈at_->j<L):(at_.map fun j=>(QV L i)[j]?.getD 0)=at_.map fun j=>VC L i j :=
 List.map_congr_left fun j hj=>QU L i j (h j hj)
theorem Ff {L P:Nat}{w xs:List F}{at_:List Nat}(hw:w.length=L) (hp:ZG L at_) (hl:at_.length=xs.length) (i:Nat) (h:i<P) :
  Di (Fg L P (BX w at_ xs)) i=fa (Di (Fg L P w) i) (Eb (at_.map fun j=>VC L i j) (FS w at_ xs)):=by
 show (Fg L P (BX w at_ xs))[i]?.getD 0=fa ((Fg L P w)[i]?.getD 0) _
 rw[H_ _ _ _ _ h,H_ _ _ _ _ h,TQ (QV L i) at_ xs w hp.nd hl (fun j hj=>by rw[hw];exact hp.lt j hj) (by rw[La];omega),kp L i at_ hp.lt]
theorem QI {L P:Nat}{at_:List Nat}{s v:List F}(hv:v.length=at_.length):QD 1 (J' L P at_ s) v↔∀i,i<P->fa (Di s i) (Eb (at_.map fun j=>VC L i j) v)=0:=by
 have hl:=(LX L P at_ s).len
 constructor
 ·intro h i hi
  have:=h i (by omega)
  rwa [Uo _ _ _ _ _ _ hv i hi,JF,Nf] at this
 ·intro h i hi
  rw[Uo _ _ _ _ _ _ hv i (by omega),JF,Nf];exact h i (by omega)
def nk (L P:Nat) (w:List F):Prop:=∀i,i<P->Di (Fg L P w) i=0
theorem It (w:List F):∀(at_:List Nat) (v:List F),at_.length=v.length->FS w at_ (FS w at_ v)=v
 |[],[],_=>rfl
 |j::js,x::v,h=>by
  have ih:=It w js v (by simpa using h)
  show fa (w[j]?.getD 0) (fa (w[j]?.getD 0) x)::FS w js (FS w js v)=x::v
  rw[ih,←DV,FA,HQ]
theorem f_ {L P:Nat}{w r:List F}{mk l:List Nat}(hw:w.length=L) (hp:ZG L (mk++l)) (h:hit L P w mk l=some r):nk L P r/\r.length=L/\∀j,j∉mk++l->r[j]?.getD 0=w[j]?.getD 0:=by
 unfold hit at h
 rw[Option.map_eq_some_iff] at h
 obtain⟨v,hv,rfl⟩:=h
 obtain⟨h1,h2⟩:=IA hv
 refine⟨fun i hi=>?_,by rw[D8];exact hw,fun j hj=>Fc _ _ _ _ hj⟩
 rw[Ff hw hp (by rw[F9 _ _ _ h1.symm]) i hi,It _ _ _ h1.symm]
 exact(QI h1).1 h2 i hi
theorem VF:∀(at_:List Nat) (w c:List F),at_.Nodup->c.length=w.length->(∀j,j∈at_->j<w.length)->(∀j,j∉at_->c[j]?.getD 0=w[j]?.getD 0)->BX w at_ (at_.map fun j=>c[j]?.getD 0)=c
 |[],w,c,_,hl,_,h=>by
  rw[OO]
  exact(Wb hl fun j _=>h j (by simp)).symm
 |j::js,w,c,hn,hl,hlt,h=>by
  rw[List.nodup_cons] at hn
  show BX (w.set j (c[j]?.getD 0)) js (js.map fun j=>c[j]?.getD 0)=c
  refine VF js _ c hn.2 (by simpa using hl) (fun k hk=>by simpa using hlt k (by simp[hk])) fun k hk=>?_
  by_cases hkj:k=j
  ·subst hkj
   have:=hlt k (by simp)
   rw[List.getElem?_set_self this];rfl
  ·rw[List.getElem?_set_ne (fun e=>hkj e.symm)]
   exact h k (by simp[hk,hkj])
theorem YT {L P:Nat}(hL:L<=15) {w c:List F}{mk l:List Nat}(hw:w.length=L) (hc:c.length=L) (hp:ZG L (mk++l)) (hm:(mk++l).length<=P) (hcode:nk L P c) (h:∀j,j∉mk++l->c[j]?.getD 0=w[j]?.getD 0):hit L P w mk l=some c:=by
 obtain⟨A,hA⟩:∃A,mk++l=A:=⟨_,rfl⟩
 unfold hit
 rw[hA] at hp hm h ⊢
 obtain⟨ys,hys⟩:∃ys,(A.map fun j=>c[j]?.getD 0)=ys:=⟨_,rfl⟩
 have hyl:A.length=ys.length:=by rw[←hys];simp
 have hc2:BX w A ys=c:=by
  rw[←hys];exact VF A w c hp.nd (by omega) (fun j hj=>by rw[hw];exact hp.lt j hj) h
 have hal:=F9 w A ys hyl
 have hs:Gl L P A (Fg L P w)=some (FS w A ys):=by
  refine LP hL hp hm hal ((QI hal).2 fun i hi=>?_)
  rw[←Ff hw hp hyl i hi,hc2]
  exact hcode i hi
 rw[hs,Option.map_some,It _ _ _ hyl,hc2]
theorem dA {L P:Nat}(hL:L<=15) {c d:List F}{at_:List Nat}(hc:c.length=L) (hd:d.length=L) (hp:ZG L at_) (hm:at_.length<=P) (h1:nk L P c) (h2:nk L P d) (h:∀j,j∉at_->c[j]?.getD 0=d[j]?.getD 0):c=d:=by
 have e1:hit L P d [] at_=some c:=YT hL hd hc (by simpa using hp) (by simpa using hm) h1 (by simpa using h)
 have e2:hit L P d [] at_=some d:=YT hL hd hd (by simpa using hp) (by simpa using hm) h2 (fun _ _=>rfl)
 rw[e1] at e2
 simpa using e2
def BC (L:Nat) (mk:List Nat):Nat->Nat->List (List Nat)
 |0,_=>[[]]
 |m+1,fr=>((List.range' fr (L-fr)).filter fun j=>!mk.contains j).flatMap fun j=>(BC L mk m (j+1)).map (j :: ·)
structure Th (L:Nat) (mk:List Nat) (fr:Nat) (l:List Nat):Prop where
 asc:l.Pairwise (· < ·)
 ge:∀j,j∈l->fr<=j
 lt:∀j,j∈l->j<L
 un:∀j,j∈l->j∉mk
theorem Gg (L:Nat) (mk:List Nat):∀(m fr:Nat) (l:List Nat),l∈BC L mk m fr->l.length=m/\Th L mk fr l
 |0,fr,l,h=>by
  simp[BC] at h;subst h
  exact⟨rfl,.nil,by simp,by simp,by simp⟩
 |m+1,fr,l,h=>by
  simp only[BC,List.mem_flatMap,List.mem_filter,List.mem_range'_1,List.mem_map] at h
  obtain⟨j,⟨hj,hjm⟩,l',hl',rfl⟩:=h
  obtain⟨h1,h2⟩:=Gg L mk m (j+1) l' hl'
  refine⟨by simp[h1],List.pairwise_cons.2 ⟨fun k hk=>by have:=h2.ge k hk;omega,h2.asc⟩,fun k hk=>?_,fun k hk=>?_,fun k hk=>?_⟩
  ·rcases List.mem_cons.1 hk with rfl|hk
   ·omega
   ·have:=h2.ge k hk;omega
  ·rcases List.mem_cons.1 hk with rfl|hk
   ·omega
   ·exact h2.lt k hk
  ·rcases List.mem_cons.1 hk with rfl|hk
   ·simpa using hjm
   ·exact h2.un k hk
theorem Vk (L:Nat) (mk:List Nat):∀(l:List Nat) (fr:Nat),Th L mk fr l->l∈BC L mk l.length fr
 |[],fr,_=>by simp[BC]
 |j::l,fr,h=>by
  have h1:=List.pairwise_cons.1 h.asc
  have ih:=Vk L mk l (j+1) ⟨h1.2,fun k hk=>h1.1 k hk,fun k hk=>h.lt k (by simp[hk]),fun k hk=>h.un k (by simp[hk])⟩
  simp only[List.length_cons,BC,List.mem_flatMap,List.mem_filter,List.mem_range'_1,List.mem_map]
  refine⟨j,⟨⟨h.ge j (by simp),?_⟩,?_⟩,l,ih,rfl⟩
  ·have:=h.ge j (by simp);have:=h.lt j (by simp);omega
  ·have:=h.un j (by simp)
   simpa using this
structure XV (L:Nat) (mk:List Nat):Prop where
 asc:mk.Pairwise (· < ·)
 lt:∀j,j∈mk->j<L
theorem Fo {l:List Nat}(h:l.Pairwise (· < ·)):l.Nodup:=h.imp fun h=>Nat.ne_of_lt h
theorem QH {L fr:Nat}{mk l:List Nat}(hm:XV L mk) (h:Th L mk fr l):ZG L (mk++l):=by
 refine⟨List.nodup_append.2 ⟨Fo hm.asc,Fo h.asc,fun a ha b hb e=>h.un b hb (e ▸ ha)⟩,fun j hj=>?_⟩
 rcases List.mem_append.1 hj with hj|hj
 ·exact hm.lt j hj
 ·exact h.lt j hj
noncomputable def GK (L P:Nat) (w:List F) (mk:List Nat):Option (List F) :=
 if mk.length<=P then (List.range ((P-mk.length)/2+1)).findSome? fun e=>(BC L mk e 0).findSome? (hit L P w mk) else none
def QR (L:Nat) (a b:List F) (mk:List Nat):List Nat:=(List.range L).filter fun j=>decide (a[j]?.getD 0≠b[j]?.getD 0) && !mk.contains j
theorem Uq (L:Nat) (a b:List F) (mk:List Nat):Th L mk 0 (QR L a b mk):=by
 refine⟨List.Pairwise.filter _ List.pairwise_lt_range,fun _ _=>Nat.zero_le _,fun j hj=>?_,fun j hj=>?_⟩
 ·simp[QR] at hj;exact hj.1
 ·simp[QR] at hj;exact hj.2.2
theorem Ur {L:Nat}{a b:List F}{mk:List Nat}(ha:a.length=L) (hb:b.length=L) {j:Nat}(h:j∉mk++QR L a b mk):a[j]?.getD 0=b[j]?.getD 0:=by
 by_cases hj:j<L
 ·simp only[List.mem_append,not_or] at h
  by_cases he:a[j]?.getD 0=b[j]?.getD 0
  ·exact he
  ·exact absurd (by simp[QR,hj,h.1];exact he) h.2
 ·rw[List.getElem?_eq_none (by omega),List.getElem?_eq_none (by omega)]
theorem RS:∀(l k:List Nat),l.Nodup->(∀j,j∈l->j∈k)->l.length<=k.length
 |[],k,_,_=>Nat.zero_le _
 |x::l,k,hn,h=>by
  rw[List.nodup_cons] at hn
  have hx:=h x (by simp)
  have ih:=RS l (k.erase x) hn.2 fun j hj=>(List.mem_erase_of_ne (show j≠x from fun e=>hn.1 (by rw[←e];exact hj))).2 (h j (by simp[hj]))
  rw[List.length_erase_of_mem hx] at ih
  have:0<k.length:=List.length_pos_of_mem hx
  simp only[List.length_cons]
  omega
theorem qE {L fr:Nat}{a b:List F}{mk l:List Nat}(hs:Th L mk fr l) (h:∀j,j∉mk++l->a[j]?.getD 0=b[j]?.getD 0):(QR L a b mk).length<=l.length:=by
 have hsub:∀j,j∈QR L a b mk->j∈l:=fun j hj=>by
  simp[QR] at hj
  by_cases hjl:j∈l
  ·exact hjl
  ·exact absurd (h j (by simp[hj.2.2,hjl])) hj.2.1
 exact RS _ _ (Fo (Uq L a b mk).asc) hsub
theorem L9 {α β:Type}{f:α->Option β}{l:List α}{r:β}(h:l.findSome? f=some r):∃x,x∈l/\f x=some r:=by
 rw[List.findSome?_eq_some_iff] at h
 obtain⟨l1,a,l2,rfl,h2,_⟩:=h
 exact⟨a,by simp,h2⟩
theorem Kn {L P:Nat}{w r:List F}{mk:List Nat}(hw:w.length=L) (hm:XV L mk) (h:GK L P w mk=some r) :
  nk L P r/\r.length=L/\2*(QR L r w mk).length+mk.length<=P:=by
 unfold GK at h
 split at h
 ·rename_i hle
  obtain⟨e,he,h⟩:=L9 h
  obtain⟨l,hl,h⟩:=L9 h
  obtain⟨h1,h2⟩:=Gg L mk e 0 l hl
  obtain⟨h3,h4,h5⟩:=f_ hw (QH hm h2) h
  refine⟨h3,h4,?_⟩
  have:=qE h2 h5
  simp at he
  omega
 ·cases h
theorem iK {L P:Nat}(hL:L<=15) {w c:List F}{mk:List Nat}(hw:w.length=L) (hc:c.length=L) (hm:XV L mk) (hcode:nk L P c) (h:2*(QR L c w mk).length+mk.length<=P):GK L P w mk=some c:=by
 have hs:=Uq L c w mk
 have hp:=QH hm hs
 have hhit:hit L P w mk (QR L c w mk)=some c:=YT hL hw hc hp (by simp;omega) hcode fun j hj=>Ur hc hw hj
 have hfound:∃r,GK L P w mk=some r:=by
  unfold GK
  rw[if_pos (by omega)]
  cases hf:(List.range ((P-mk.length)/2+1)).findSome? fun e=>(BC L mk e 0).findSome? (hit L P w mk) with
  |some r=>exact⟨r,rfl⟩
  |none =>
   rw[List.findSome?_eq_none_iff] at hf
   have h1:=hf (QR L c w mk).length (by simp;omega)
   rw[List.findSome?_eq_none_iff] at h1
   have h2:=h1 _ (Vk L mk _ 0 hs)
   rw[hhit] at h2;cases h2
 obtain⟨r,hr⟩:=hfound
 rw[hr]
 congr 1
 obtain⟨h1,h2,h3⟩:=Kn hw hm hr
 have hs2:=Uq L r w mk
 obtain⟨at_,hat⟩:∃at_,mk++((QR L r w mk)++(QR L c w mk).filter fun j=>!(QR L r w mk).contains j)=at_:=⟨_,rfl⟩
 refine dA hL (at_:=at_) h2 hc ?_ ?_ h1 hcode fun j hj=>?_
 ·rw[←hat]
  refine⟨List.nodup_append.2 ⟨Fo hm.asc,List.nodup_append.2 ⟨Fo hs2.asc,(Fo hs.asc).filter _,fun a ha b hb e=>?_⟩,fun a ha b hb e=>?_⟩,fun j hj=>?_⟩
  ·simp at hb;exact hb.2 (e ▸ ha)
  ·subst e
   rcases List.mem_append.1 hb with hb|hb
   ·exact hs2.un a hb ha
   ·exact hs.un a (List.mem_filter.1 hb).1 ha
  ·rcases List.mem_append.1 hj with hj|hj
   ·exact hm.lt j hj
   ·rcases List.mem_append.1 hj with hj|hj
    ·exact hs2.lt j hj
    ·exact hs.lt j (List.mem_filter.1 hj).1
 ·rw[←hat]
  have:=List.length_filter_le (fun j=>!(QR L r w mk).contains j) (QR L c w mk)
  simp only[List.length_append]
  omega
 ·rw[←hat] at hj
  simp only[List.mem_append,not_or,List.mem_filter] at hj
  obtain⟨j1,j2,j3⟩:=hj
  have j4:j∉QR L c w mk:=fun hh=>j3 ⟨hh,by simpa using j2⟩
  exact(Ur h2 hw (fun e=>(List.mem_append.1 e).elim j1 j2)).trans (Ur hc hw (fun e=>(List.mem_append.1 e).elim j1 j4)).symm
section
abbrev WP:Gk:=[((900004,0),(900004,0)),((901004,0),(901004,0))]
structure rS (G:List Nat->Option (List F)) (A:List Nat->Prop) (f:FuncId) (cs:List AV):Prop where
 body:BL E0.P f=true
 st:AV.sites.sitesL cs=[900004,901004]
 nr:∀(V:AN) (os:List Nat),AV.nrm.live V os 900004 0=true->AV.nrm.live V os 901004 0=true->AV.nrm.nrmL V os cs=cs
 rn:AV.ren.renL WP cs=some cs
 ar:N8 WP cs cs
 call:∀(nl:Bool) (l:List Nat) (b:Bool) (o:List F) (fnd:Bool),A l->(nl=true->l=[])->Hk E0 f (vv b o fnd) (.d (.list nl (Aa (ni l)))::cs) (vh b o fnd (G l)) (.d (.bool (G l).isNone))
theorem SB:BL E0.P BO=true:=by kernel_rfl
theorem YA (b:Bool) (o:List F) (fnd:Bool):Pu (vv b o fnd)=true:=by simp[vv,Pu,E9,D7,Ah.isHist]
theorem any_cons {α:Type}(l:List α):True:=trivial
theorem ak (L:Nat) (mk:List Nat) (m j:Nat) (G:List Nat->Option (List F)) (hj:j<L) :
  (BC L mk (m+1) j).findSome? G=if mk.contains j then (BC L mk (m+1) (j+1)).findSome? G else
   ((BC L mk m (j+1)).findSome? fun l=>G (j::l)).or ((BC L mk (m+1) (j+1)).findSome? G):=by
 have hr:List.range' j (L-j)=j::List.range' (j+1) (L-(j+1)):=by
  rw[show L-j=(L-(j+1))+1 by omega,List.range'_succ]
 simp only[BC]
 rw[hr,List.filter_cons]
 cases h:mk.contains j with
 |true=>simp
 |false =>
  simp only[Bool.not_false,if_true,Bool.false_eq_true,if_false,List.flatMap_cons,List.findSome?_append]
  rw[List.findSome?_map];rfl
theorem eD (L:Nat) (mk:List Nat) (m:Nat):BC L mk (m+1) L=[]:=by simp[BC]
theorem Vl (L:Nat) (mk:List Nat) (m fr:Nat) (l:List Nat) (h:l∈BC L mk m fr):l.length=m:=(Gg L mk m fr l h).1
theorem eB (L:Nat) (mk:List Nat) (m fr j:Nat) (l:List Nat) (hf:fr<=j) (hj:j<L) (hm:mk.contains j=false) (h:l∈BC L mk m (j+1)):j::l∈BC L mk (m+1) fr:=by
 simp only[BC,List.mem_flatMap,List.mem_filter,List.mem_range'_1,List.mem_map]
 exact⟨j,⟨⟨hf,by omega⟩,by simpa using hm⟩,l,h,rfl⟩
theorem f8 (mk:List Nat) (j:Nat):f9 (ni mk) (j:Int)=mk.contains j:=by
 unfold f9 ni
 rw[Bool.eq_iff_iff]
 simp only[List.contains_iff_mem,List.mem_map]
 constructor
 ·rintro⟨k,hk,he⟩
  have:k=j:=by omega
  subst this;exact hk
 ·exact fun h=>⟨j,h,rfl⟩
attribute [local irreducible] IntKind.wrap Ai Option.getD and or
theorem Su {G:List Nat->Option (List F)}{A:List Nat->Prop}{f:FuncId}{cs:List AV}(hY:rS G A f cs) (j:Nat) (nl:Bool) (l:List Nat) (b:Bool) (o:List F) (fnd:Bool) (hA:A (j::l)) (hll:l.length<=100) :
  Hk E0 BO (vv b o fnd) [.d (.list nl (Aa (ni l))),.ablk false [.fn f cs] 0,.d (.ptr [.int .i64 (j:Int)])] (vh b o fnd (G (j::l))) (.d (.bool (G (j::l)).isNone)):=by
 have c1:=hY.call false (j::l) b o fnd hA (by simp)
 have hst:=hY.st
 have hbody:=hY.body
 have hl:D.int .i64 (j:Int)::Aa (ni l)=Aa (ni (j::l)):=rfl
 have h1:((vv b o fnd).all fun q=>J4 (vh b o fnd (G (j::l))) q.1 q.2.1)=true:=by cases G (j::l)<;>simp[vv,vh,J4]
 refine C3 G3 Af (by simp) (YA b o fnd) h1 fun hwf hwo=>?_
 rw[De];unfold ED
 unfold vv at c1 ⊢
 have har:N8 WP (.d (.list false (Aa (ni (j::l))))::cs) (.d (.list false (Aa (ni (j::l))))::cs):=⟨rfl,hY.ar⟩
 cases hg:G (j::l) with
 |none =>
  rw[hg,I9] at c1
  rw[I9]
  unfold vv at c1 ⊢
  (try (simp -implicitDefEqProofs only[go_sem,hst,hbody,hl,GG]));repeat' first|(with_reducible first|exact tI|refine aI ?_ ?_|intro _|refine AJ ?_ ?_<;>intro _<;>try simp -implicitDefEqProofs only[go_sem,hst,hbody,hl,GG])|simp (disch:=omega) only[Ad]
  all_goals first|omega|(simp<;>omega)|skip
  refine EM WP WP c1 ?_ har (by simp[Handed,Gk.get,Ah.ren,AV.ren,AV.ren.renL,AN.get,A',CC,Lf,AN.reach,AV.sites,AV.sites.sitesL,AN.osites,hst])
  (try (simp -implicitDefEqProofs only[go_sem,hst,GG]));repeat' first|(with_reducible first|exact tI|refine aI ?_ ?_|intro _|refine AJ ?_ ?_<;>intro _<;>try simp -implicitDefEqProofs only[go_sem,hst,GG])|simp (disch:=omega) only[Ad]
  all_goals first|omega|(simp<;>omega)|skip
  all_goals first|rfl|skip
 |some z =>
  rw[hg,I8] at c1
  rw[I8]
  unfold vv at c1 ⊢
  (try (simp -implicitDefEqProofs only[go_sem,hst,hbody,hl,GG]));repeat' first|(with_reducible first|exact tI|refine aI ?_ ?_|intro _|refine AJ ?_ ?_<;>intro _<;>try simp -implicitDefEqProofs only[go_sem,hst,hbody,hl,GG])|simp (disch:=omega) only[Ad]
  all_goals first|omega|(simp<;>omega)|skip
  refine EM WP WP c1 ?_ har (by simp[Handed,Gk.get,Ah.ren,AV.ren,AV.ren.renL,AN.get,A',CC,Lf,AN.reach,AV.sites,AV.sites.sitesL,AN.osites,hst])
  (try (simp -implicitDefEqProofs only[go_sem,hst,GG]));repeat' first|(with_reducible first|exact tI|refine aI ?_ ?_|intro _|refine AJ ?_ ?_<;>intro _<;>try simp -implicitDefEqProofs only[go_sem,hst,GG])|simp (disch:=omega) only[Ad]
  all_goals first|omega|(simp<;>omega)|skip
  all_goals first|rfl|skip
theorem dY {G:List Nat->Option (List F)}{A:List Nat->Prop}{f:FuncId}{cs:List AV}(hY:rS G A f cs) (j:Nat) :
  rS (fun l=>G (j::l)) (fun l=>A (j::l)/\l.length<=100) BO [.ablk false [.fn f cs] 0,.d (.ptr [.int .i64 (j:Int)])] :=
 ⟨SB,by simp[AV.sites,AV.sites.sitesL,hY.st],fun V os h1 h2=>by simp[AV.nrm,AV.nrm.nrmL,hY.nr V os h1 h2,AV.one],by simp[AV.ren,AV.ren.renL,hY.rn],
  ⟨by simp[mu,AV.ren,AV.ren.renL,hY.rn],rfl,trivial⟩,fun nl l b o fnd hA _=>Su hY j nl l b o fnd hA.1 hA.2⟩
theorem Pi (L P:Nat) (n:Bool) (mk:List Nat) (hL:L<=15):∀(m fr:Nat) {G:List Nat->Option (List F)}{A:List Nat->Prop}{f:FuncId}{cs:List AV}(hY:rS G A f cs) (hA:∀l,l∈BC L mk m fr->A l) (hfr:fr<=L) (hm:m<=50) (b:Bool) (o:List F) (fnd:Bool),
  Hk E0 FK (vv b o fnd) [.d (QC L P),.d (.list n (Aa (ni mk))),.d (.int .i64 (fr:Int)),.d (.int .i64 (m:Int)),.fn f cs] (vh b o fnd ((BC L mk m fr).findSome? G)) (.d (.bool ((BC L mk m fr).findSome? G).isNone))
 |0,fr,G,A,f,cs,hY,hA,hfr,hm,b,o,fnd=>by
  have e0:(BC L mk 0 fr).findSome? G=G []:=by simp[BC]
  rw[e0]
  have c1:=hY.call true [] b o fnd (hA [] (by simp[BC])) (fun _=>rfl)
  rw[show Aa (ni [])=[] from rfl] at c1
  have hst:=hY.st
  have hbody:=hY.body
  have h1:((vv b o fnd).all fun q=>J4 (vh b o fnd (G [])) q.1 q.2.1)=true:=by cases G []<;>simp[vv,vh,J4]
  refine C3 ET Af (by simp) (YA b o fnd) h1 fun hwf hwo=>?_
  rw[De];unfold DC
  have har:N8 WP (.d (.list true [])::cs) (.d (.list true [])::cs):=⟨rfl,hY.ar⟩
  have hz0:((0:Nat):Int)=0:=rfl
  cases hg:G [] with
  |none =>
   rw[hg,I9] at c1
   rw[I9]
   unfold vv at c1 ⊢
   (try (simp -implicitDefEqProofs only[go_sem,hst,hbody,A4,hz0]));repeat' first|(with_reducible first|exact tI|refine aI ?_ ?_|intro _|refine AJ ?_ ?_<;>intro _<;>try simp -implicitDefEqProofs only[go_sem,hst,hbody,A4,hz0])|simp (disch:=omega) only[Ad]|((with_reducible apply Ab);exact rfl)
   all_goals first|omega|(simp<;>omega)|skip
   refine EM WP WP c1 ?_ har (by simp[Handed,Gk.get,Ah.ren,AV.ren,AV.ren.renL,AN.get,A',CC,Lf,AN.reach,AV.sites,AV.sites.sitesL,AN.osites,hst])
   (try (simp -implicitDefEqProofs only[go_sem,hst]));repeat' first|(with_reducible first|exact tI|refine aI ?_ ?_|intro _|refine AJ ?_ ?_<;>intro _<;>try simp -implicitDefEqProofs only[go_sem,hst])|simp (disch:=omega) only[Ad]|((with_reducible apply Ab);exact rfl)
   all_goals first|omega|(simp<;>omega)|skip
   all_goals first|rfl|skip
  |some z =>
   rw[hg,I8] at c1
   rw[I8]
   unfold vv at c1 ⊢
   (try (simp -implicitDefEqProofs only[go_sem,hst,hbody,A4,hz0]));repeat' first|(with_reducible first|exact tI|refine aI ?_ ?_|intro _|refine AJ ?_ ?_<;>intro _<;>try simp -implicitDefEqProofs only[go_sem,hst,hbody,A4,hz0])|simp (disch:=omega) only[Ad]|((with_reducible apply Ab);exact rfl)
   all_goals first|omega|(simp<;>omega)|skip
   refine EM WP WP c1 ?_ har (by simp[Handed,Gk.get,Ah.ren,AV.ren,AV.ren.renL,AN.get,A',CC,Lf,AN.reach,AV.sites,AV.sites.sitesL,AN.osites,hst])
   (try (simp -implicitDefEqProofs only[go_sem,hst]));repeat' first|(with_reducible first|exact tI|refine aI ?_ ?_|intro _|refine AJ ?_ ?_<;>intro _<;>try simp -implicitDefEqProofs only[go_sem,hst])|simp (disch:=omega) only[Ad]|((with_reducible apply Ab);exact rfl)
   all_goals first|omega|(simp<;>omega)|skip
   all_goals first|rfl|skip
 |m+1,fr,G,A,f,cs,hY,hA,hfr,hm,b,o,fnd=>by
  have hst:=hY.st
  have hnr:=hY.nr
  have h1:((vv b o fnd).all fun q=>J4 (vh b o fnd ((BC L mk (m+1) fr).findSome? G)) q.1 q.2.1)=true:=by cases (BC L mk (m+1) fr).findSome? G<;>simp[vv,vh,J4]
  refine C3 ET Af (by simp) (YA b o fnd) h1 fun hwf hwo=>?_
  rw[De];unfold DC
  have hz0:¬((m+1:Nat):Int)=0:=by omega
  have hwm:IntKind.i64.wrap (((m+1:Nat):Int)-1)=(m:Int):=by rw[AZ _ (by omega)];omega
  unfold vv
  (try (simp -implicitDefEqProofs only[go_sem,hst,hnr,A4,hz0]));repeat' first|(with_reducible first|exact tI|refine aI ?_ ?_|intro _|refine AJ ?_ ?_<;>intro _<;>try simp -implicitDefEqProofs only[go_sem,hst,hnr,A4,hz0])|simp (disch:=omega) only[Ad]|((with_reducible apply Ab);exact rfl)
  all_goals first|omega|(simp<;>omega)|skip
  refine AU (α:=Nat) (l0:=?l1) (m0:=?m1) (fun x=>[]) (fun x=>[(11,.cells [.d (.int .i64 (x:Int))])]) (fun x=>fr<=x/\x<=L/\(BC L mk (m+1) x).findSome? G=(BC L mk (m+1) fr).findSome? G) (fun x=>L-x) fr ?h01 ?he1 ?he21 ?hI1 ?step1
  case h01=>(simp -implicitDefEqProofs only[go_sem,hst,hnr];rfl)
  case he1=>rfl
  case he21=>rfl
  case' step1=>(rintro j hI;try dsimp only at hI)
  case' hI1=>try dsimp only
  ·exact⟨by omega,hfr,rfl⟩
  ·obtain⟨j1,j2,j3⟩:=hI
   by_cases hj:j<L
   ·have hj':(j:Int)<(L:Int):=by omega
    have hwj:IntKind.i64.wrap ((j:Int)+1)=((j+1:Nat):Int):=by rw[AZ _ (by omega)];omega
    have c0:=PF n (ni mk) (j:Int)
    rw[f8] at c0
    have hnx:=ak L mk m j G hj
    cases hc:mk.contains j with
    |true =>
     rw[hc] at c0 hnx
     rw[if_pos rfl] at hnx
     have hfin:(BC L mk (m+1) (j+1)).findSome? G=(BC L mk (m+1) fr).findSome? G:=by rw[←j3,hnx]
     (try (simp -implicitDefEqProofs only[go_sem,hst,hnr,hj',hwj]));repeat' first|(with_reducible first|exact tI|refine aI ?_ ?_|intro _)|((first|with_reducible refine AJ ?_ ?_<;>intro _|(with_reducible refine isCall ?_);first|refine AE c0 ?_)<;>try (simp -implicitDefEqProofs only[go_sem,hst,hnr,hj',hwj]))|simp (disch:=omega) only[Ad]|((with_reducible apply Ab);exact rfl)
     all_goals first|omega|(simp<;>omega)|skip
     all_goals first|exact hfin|skip
    |false =>
     rw[hc] at c0 hnx
     simp only[Bool.false_eq_true,if_false] at hnx
     have hYn:=dY hY j
     have hlen:∀l,l∈BC L mk m (j+1)->l.length<=100:=fun l hl=>by rw[Vl L mk m (j+1) l hl];omega
     have ih:=Pi L P n mk hL m (j+1) hYn (fun l hl=>⟨hA _ (eB L mk m fr j l j1 hj hc hl),hlen l hl⟩) (by omega) (by omega) b o fnd
     have har:N8 WP [.d (QC L P),.d (.list n (Aa (ni mk))),.d (.int .i64 ((j+1:Nat):Int)),.d (.int .i64 (m:Int)),.fn BO [.ablk false [.fn f cs] 0,.d (.ptr [.int .i64 (j:Int)])]] [.d (QC L P),.d (.list n (Aa (ni mk))),.d (.int .i64 ((j+1:Nat):Int)),.d (.int .i64 (m:Int)),.fn BO [.ablk false [.fn f cs] 0,.d (.ptr [.int .i64 (j:Int)])]] :=
      ⟨rfl,rfl,rfl,rfl,by simp[mu,AV.ren,AV.ren.renL,hY.rn],trivial⟩
     cases hr:(BC L mk m (j+1)).findSome? fun l=>G (j::l) with
     |none =>
      rw[hr] at ih hnx
      have hfin:(BC L mk (m+1) (j+1)).findSome? G=(BC L mk (m+1) fr).findSome? G:=by rw[←j3,hnx];rfl
      rw[I9,Option.isNone_none] at ih
      rw[A4] at ih har
      unfold vv at ih
      (try (simp -implicitDefEqProofs only[go_sem,hst,hnr,hj',hwj,hwm]));repeat' first|(with_reducible first|exact tI|refine aI ?_ ?_|intro _)|((first|with_reducible refine AJ ?_ ?_<;>intro _|(with_reducible refine isCall ?_);first|refine AE c0 ?_)<;>try (simp -implicitDefEqProofs only[go_sem,hst,hnr,hj',hwj,hwm]))|simp (disch:=omega) only[Ad]|((with_reducible apply Ab);exact rfl)
      all_goals first|omega|(simp<;>omega)|skip
      refine EM WP WP ih ?_ har (by simp[Handed,Gk.get,Ah.ren,AV.ren,AV.ren.renL,AN.get,A',CC,Lf,AN.reach,AV.sites,AV.sites.sitesL,AN.osites,hst])
      (try (simp -implicitDefEqProofs only[go_sem,hst,hnr,hwj]));repeat' first|(with_reducible first|exact tI|refine aI ?_ ?_|intro _|refine AJ ?_ ?_<;>intro _<;>try simp -implicitDefEqProofs only[go_sem,hst,hnr,hwj])|simp (disch:=omega) only[Ad]|((with_reducible apply Ab);exact rfl)
      all_goals first|omega|(simp<;>omega)|skip
      all_goals first|exact hfin|skip
     |some z =>
      rw[hr] at ih hnx
      have hfin:(BC L mk (m+1) fr).findSome? G=some z:=by rw[←j3,hnx];rfl
      rw[hfin,I8]
      rw[I8,Option.isNone_some] at ih
      rw[A4] at ih har
      unfold vv at ih ⊢
      (try (simp -implicitDefEqProofs only[go_sem,hst,hnr,hj',hwj,hwm]));repeat' first|(with_reducible first|exact tI|refine aI ?_ ?_|intro _)|((first|with_reducible refine AJ ?_ ?_<;>intro _|(with_reducible refine isCall ?_);first|refine AE c0 ?_)<;>try (simp -implicitDefEqProofs only[go_sem,hst,hnr,hj',hwj,hwm]))|simp (disch:=omega) only[Ad]|((with_reducible apply Ab);exact rfl)
      all_goals first|omega|(simp<;>omega)|skip
      refine EM WP WP ih ?_ har (by simp[Handed,Gk.get,Ah.ren,AV.ren,AV.ren.renL,AN.get,A',CC,Lf,AN.reach,AV.sites,AV.sites.sitesL,AN.osites,hst])
      (try (simp -implicitDefEqProofs only[go_sem,hst,hnr,hwj]));repeat' first|(with_reducible first|exact tI|refine aI ?_ ?_|intro _|refine AJ ?_ ?_<;>intro _<;>try simp -implicitDefEqProofs only[go_sem,hst,hnr,hwj])|simp (disch:=omega) only[Ad]|((with_reducible apply Ab);exact rfl)
      all_goals first|omega|(simp<;>omega)|skip
      all_goals first|rfl|skip
   ·have hj':¬(j:Int)<(L:Int):=by omega
    have hje:j=L:=by omega
    subst hje
    have hfin:(BC j mk (m+1) fr).findSome? G=none:=by rw[←j3,eD];rfl
    rw[hfin,I9]
    unfold vv
    (try (simp -implicitDefEqProofs only[go_sem,hst,hnr,hj']));repeat' first|(with_reducible first|exact tI|refine aI ?_ ?_|intro _|refine AJ ?_ ?_<;>intro _<;>try simp -implicitDefEqProofs only[go_sem,hst,hnr,hj'])|simp (disch:=omega) only[Ad]|((with_reducible apply Ab);exact rfl)
    all_goals first|omega|(simp<;>omega)|skip
    all_goals first|rfl|skip
end
end Go.Pw
