/- A part of the proof. -/
import Derived.Test.YtibkjeolahobbaaGreatDoorChrI
set_option linter.all false
open Go Go.Pw Go.Proofs
namespace Go.Pw
set_option maxRecDepth 100000
set_option maxHeartbeats 3200000
section
theorem jP (S:List F) (i n:Nat) (h:i<n) (hS:S.length=n):(S.take i++List.replicate (n-i) (0:F))[i]?.getD 0=0:=by
 rw[List.getElem?_append_right (by simp;omega)]
 simp only[List.length_take,List.getElem?_replicate]
 split<;>rfl
theorem jO (S:List F) (i n:Nat) (h:i<n) (hS:S.length=n):(S.take i++List.replicate (n-i) (0:F)).set i (S[i]?.getD 0)=S.take (i+1)++List.replicate (n-(i+1)) 0:=by
 have h1:(S.take i).length=i:=by simp;omega
 rw[List.set_append_right _ _ (by omega),h1,Nat.sub_self,show n-i=(n-(i+1))+1 by omega,List.replicate_succ,List.set_cons_zero,←Bb S 0 i (by omega),List.append_assoc]
 rfl
theorem fD (l:List F) (i:Nat) (h:i<l.length):l.set i (l[i]?.getD 0)=l:=by
 rw[List.getElem?_eq_getElem h];simp
theorem kJ (l:List F) (i:Nat) (x:F) (h:i<l.length):(l.set i x)[i]?.getD 0=x:=by simp[h]
def CF:List F->List Nat->List F->List F
 |w,j::js,x::xs=>CF (w.set j x) js xs
 |w,_,_=>w
theorem Ew:∀(at_:List Nat) (w xs:List F),(CF w at_ xs).length=w.length
 |[],w,xs=>by cases xs<;>rfl
 |j::js,w,[]=>rfl
 |j::js,w,x::xs=>by show (CF (w.set j x) js xs).length=_;rw[Ew];simp
theorem NP (j:Nat) (y:F):∀(at_:List Nat) (w xs:List F),at_.length=xs.length->CF w (at_++[j]) (xs++[y])=(CF w at_ xs).set j y
 |[],w,[],_=>rfl
 |k::js,w,z::xs,h=>by
  show CF (w.set k z) (js++[j]) (xs++[y])=_
  rw[NP j y js (w.set k z) xs (by simpa using h)];rfl
theorem PY (w xs:List F):CF w [] xs=w:=by cases xs<;>rfl
theorem GP:∀(at_:List Nat) (w xs:List F) (j:Nat),j∉at_->(CF w at_ xs)[j]?.getD 0=w[j]?.getD 0
 |[],w,xs,j,_=>by rw[PY]
 |k::js,w,[],j,_=>rfl
 |k::js,w,x::xs,j,h=>by
  show (CF (w.set k x) js xs)[j]?.getD 0=_
  rw[GP js _ xs j (fun e=>h (by simp[e])),List.getElem?_set_ne (fun e=>h (by simp[e]))]
theorem QT {α β:Type}(a:List α) (b:List β) (i:Nat) (h:a.length=b.length):(a.take i).length=(b.take i).length:=by simp[h]
attribute [local congr] Bm A' BA Au Bn Az A1 A0 Ar Al Af Aa Aw Ag Ax BM BQ BO BP BN BR BG Aj Ay Ak BE BX Ai BK BL BF BH BJ BI BC BD A_ Bp BB Av Ah
attribute [local irreducible] IntKind.wrap A3 Option.getD and or
theorem QJ (L P:Nat) (n1:Bool) (w:List F) (hL:L<=15) (hL1:1<=L) (hP:1<=P) (hP2:P<=15) (hw:w.length=L):CA E0 HL [QM L P,.list n1 (us w)] (.list false (us (GD L P w))):=by
 obtain⟨S,hS⟩:∃S,GD L P w=S:=⟨_,rfl⟩
 have hSl:S.length=P:=by rw[←hS];exact Rr L P w
 rw[hS]
 refine AL Ky An (by simp) fun hwf=>?_
 rw[AR];unfold Gf
 (try (simp -implicitDefEqProofs only[go_sem,Bc,List.length_replicate]));repeat' first|(with_reducible first|exact tI|refine aI ?_ ?_|intro _)|((first|with_reducible refine AK ?_ ?_<;>intro _)<;>try (simp -implicitDefEqProofs only[go_sem,Bc,List.length_replicate]))|simp (disch:=omega) only[Ae]|((with_reducible refine Ap ?_);refine⟨(_,_),rfl,?_,?_⟩)|((with_reducible refine Ad ?_);refine⟨_,rfl,?_,?_⟩)
 all_goals first|omega|(simp<;>omega)|skip
 refine AX (α:=Nat) (l0:=?l1) (m0:=?m1) (fun x=>[(15,.d (.int .i64 (x:Int)))]) (fun x=>[(12,.row 135 1 false (us (S.take x++List.replicate (P-x) 0)))]) (fun x=>x<=P) (fun x=>P-x) 0 ?h01 ?he1 ?he21 ?hI1 ?step1
 case h01=>(simp -implicitDefEqProofs only[go_sem];rfl)
 case he1=>rfl
 case he21=>rfl
 case' step1=>(rintro i hI;try dsimp only at hI)
 case' hI1=>try dsimp only
 ·exact Nat.zero_le _
 ·have hbl:(S.take i++List.replicate (P-i) (0:F)).length=P:=by simp;omega
  by_cases h:i<P
  ·have h':(i:Int)<(P:Int):=by omega
   have hwi:IntKind.i64.wrap ((i:Int)+1)=((i+1:Nat):Int):=by rw[AZ _ (by omega)];omega
   have hbg:=jP S i P h hSl
   have hbs:=jO S i P h hSl
   obtain⟨B,hB⟩:∃B,S.take i++List.replicate (P-i) (0:F)=B:=⟨_,rfl⟩
   rw[hB] at hbl hbg hbs ⊢
   have hB0:B.set i 0=B:=by have:=fD B i (by omega);rwa [hbg] at this
   have hUR:us B=us (B.set i 0):=by rw[hB0]
   (try (simp -implicitDefEqProofs only[go_sem,h',Bc,hbl,List.length_replicate]));repeat' first|(with_reducible first|exact tI|refine aI ?_ ?_|intro _)|((first|with_reducible refine AK ?_ ?_<;>intro _)<;>try (simp -implicitDefEqProofs only[go_sem,h',Bc,hbl,List.length_replicate]))|simp (disch:=omega) only[Ae]|((with_reducible refine Ap ?_);refine⟨(_,_),rfl,?_,?_⟩)|((with_reducible refine Ad ?_);refine⟨_,rfl,?_,?_⟩)
   all_goals first|omega|(simp<;>omega)|skip
   rw[hUR]
   refine AX (α:=Nat×F) (l0:=?l2) (m0:=?m2) (fun x=>[(20,.d (.int .i64 (x.1:Int)))]) (fun x=>[(12,.row 135 1 false (us (B.set i x.2)))]) (fun x=>x.1<=L/\x.2=FS (w.take x.1) ((Re L i).take x.1)) (fun x=>L-x.1) (0,0) ?h02 ?he2 ?he22 ?hI2 ?step2
   case h02=>(simp -implicitDefEqProofs only[go_sem];rfl)
   case he2=>rfl
   case he22=>rfl
   case' step2=>(rintro⟨j,acc⟩ hI2;try dsimp only at hI2)
   case' hI2=>try dsimp only
   ·exact⟨by omega,rfl⟩
   ·obtain⟨q1,q2⟩:=hI2
    by_cases hj:j<L
    ·have hj':(j:Int)<(w.length:Int):=by omega
     have hwj:IntKind.i64.wrap ((j:Int)+1)=((j+1:Nat):Int):=by rw[AZ _ (by omega)];omega
     have c1:=Hu L P i j (by omega) (by omega) hj
     have c2:=Dl (w[j]?.getD 0) (gp (i*(L-1-j)))
     have hk:fa acc (fm (w[j]?.getD 0) (gp (i*(L-1-j))))=FS (w.take (j+1)) ((Re L i).take (j+1)):=by
      rw[q2,←X3 w (Re L i) j (by omega) (by rw[MV];omega),Rd L i j hj];rfl
     have hsg:(B.set i acc)[i]?.getD 0=acc:=kJ B i acc (by omega)
     have hss:∀y,(B.set i acc).set i y=B.set i y:=fun y=>List.set_set ..
     rw[Bc] at c1
     (try (simp -implicitDefEqProofs only[go_sem,hj',hwj,hsg,hss,List.length_set,hbl,h]));repeat' first|(with_reducible first|exact tI|refine aI ?_ ?_|intro _)|((first|with_reducible refine AK ?_ ?_<;>intro _|(with_reducible refine isCall ?_);first|refine AE c1 ?_|refine AE c2 ?_)<;>try (simp -implicitDefEqProofs only[go_sem,hj',hwj,hsg,hss,List.length_set,hbl,h]))|simp (disch:=omega) only[Ae]|((with_reducible refine Ap ?_);refine⟨(_,_),rfl,?_,?_⟩)|((with_reducible refine Ad ?_);refine⟨_,rfl,?_,?_⟩)
     all_goals first|omega|(simp<;>omega)|skip
     all_goals first|exact hk|(simp at *;done)|(simp at *;omega)|skip
    ·have hj':¬(j:Int)<(w.length:Int):=by omega
     have hje:j=L:=by omega
     have hacc:acc=S[i]?.getD 0:=by
      rw[q2,hje,←hS,I8 L P w i h,List.take_of_length_le (by omega),List.take_of_length_le (by rw[MV];omega)]
     rw[hacc]
     (try (simp -implicitDefEqProofs only[go_sem,hj',hwi,hbs]));repeat' first|(with_reducible first|exact tI|refine aI ?_ ?_|intro _)|((first|with_reducible refine AK ?_ ?_<;>intro _)<;>try (simp -implicitDefEqProofs only[go_sem,hj',hwi,hbs]))|simp (disch:=omega) only[Ae]|((with_reducible refine Ap ?_);refine⟨(_,_),rfl,?_,?_⟩)|((with_reducible refine Ad ?_);refine⟨_,rfl,?_,?_⟩)
     all_goals first|omega|(simp<;>omega)|skip
     all_goals first|rfl|omega|skip
  ·have h':¬(i:Int)<(P:Int):=by omega
   have hie:i=P:=by omega
   subst hie
   have hfin:S.take i++List.replicate (i-i) (0:F)=S:=by rw[List.take_of_length_le (by omega)];simp
   rw[hfin]
   (try (simp -implicitDefEqProofs only[go_sem,h',List.length_replicate,hSl]));repeat' first|(with_reducible first|exact tI|refine aI ?_ ?_|intro _)|((first|with_reducible refine AK ?_ ?_<;>intro _)<;>try (simp -implicitDefEqProofs only[go_sem,h',List.length_replicate,hSl]))|simp (disch:=omega) only[Ae]|((with_reducible refine Ap ?_);refine⟨(_,_),rfl,?_,?_⟩)|((with_reducible refine Ad ?_);refine⟨_,rfl,?_,?_⟩)
   all_goals first|omega|(simp<;>omega)|skip
   all_goals first|rfl|skip
theorem He (n1 n2 n3:Bool) (w:List F) (at_:List Nat) (xs:List F) (hw:w.length<=1000) (hw1:1<=w.length) (hl:at_.length=xs.length) (hlt:∀j,j∈at_->j<w.length) :
  CA E0 PR [.list n1 (Ab (iv w)),.list n2 (Ab (ni at_)),.list n3 (Ab (iv xs))] (.list false (Ab (iv (CF w at_ xs)))):=by
 refine AL Su An (by simp) fun hwf=>?_
 simp only[DY,Cv,Cu,Ck,Dq,Dp,FD,Dn,Bj,Bt,Bu,Cy,B6,List.length_map,B4,true_and,and_true,G6,G4] at hwf
 rw[AR];unfold Mz
 have hne:¬iv w=[]:=by
  intro e
  have h0:(iv w).length=0:=by rw[e];rfl
  rw[G6] at h0;omega
 (try (simp -implicitDefEqProofs only[go_sem,hne,List.nil_append]));repeat' first|(with_reducible first|exact tI|refine aI ?_ ?_|intro _)|((first|with_reducible refine AK ?_ ?_<;>intro _)<;>try (simp -implicitDefEqProofs only[go_sem,hne,List.nil_append]))|simp (disch:=omega) only[Ae]|((with_reducible refine Ad ?_);refine⟨_,rfl,?_,?_⟩)
 all_goals first|omega|(simp<;>omega)|skip
 refine AX (α:=Nat) (l0:=?l3) (m0:=?m3) (fun x=>[(8,.d (.int .i64 (x:Int)))]) (fun x=>[(11,.row 3 1 false (Ab (iv (CF w (at_.take x) (xs.take x)))))]) (fun x=>x<=at_.length) (fun x=>at_.length-x) 0 ?h03 ?he3 ?he23 ?hI3 ?step3
 case h03=>(simp -implicitDefEqProofs only[go_sem];rfl)
 case he3=>rfl
 case he23=>rfl
 case' step3=>(rintro i hI;try dsimp only at hI)
 case' hI3=>try dsimp only
 ·exact Nat.zero_le _
 ·have hW:=Ew (at_.take i) w (xs.take i)
  by_cases h:i<at_.length
  ·have h':(i:Int)<(at_.length:Int):=by omega
   have hwi:IntKind.i64.wrap ((i:Int)+1)=((i+1:Nat):Int):=by rw[AZ _ (by omega)];omega
   have hj:=hlt (at_[i]?.getD 0) (by rw[SU _ _ h];exact List.getElem_mem h)
   have hk:(CF w (at_.take i) (xs.take i)).set (at_[i]?.getD 0) (xs[i]?.getD 0)=CF w (at_.take (i+1)) (xs.take (i+1)):=by
    rw[←NP _ _ _ _ _ (QT at_ xs i hl),Bb at_ 0 i h,Bb xs 0 i (by omega)]
   have hi2:i<xs.length:=by omega
   (try (simp -implicitDefEqProofs only[go_sem,h',hwi,hW,hj,hk]));repeat' first|(with_reducible first|exact tI|refine aI ?_ ?_|intro _)|((first|with_reducible refine AK ?_ ?_<;>intro _)<;>try (simp -implicitDefEqProofs only[go_sem,h',hwi,hW,hj,hk]))|simp (disch:=omega) only[Ae]|((with_reducible refine Ad ?_);refine⟨_,rfl,?_,?_⟩)
   all_goals first|omega|(simp<;>omega)|skip
   all_goals first|rfl|skip
  ·have h':¬(i:Int)<(at_.length:Int):=by omega
   have hie:i=at_.length:=by omega
   have hfin:CF w (at_.take i) (xs.take i)=CF w at_ xs:=by rw[List.take_of_length_le (by omega),List.take_of_length_le (by omega)]
   rw[hfin]
   (try (simp -implicitDefEqProofs only[go_sem,h']));repeat' first|(with_reducible first|exact tI|refine aI ?_ ?_|intro _)|((first|with_reducible refine AK ?_ ?_<;>intro _)<;>try (simp -implicitDefEqProofs only[go_sem,h']))|simp (disch:=omega) only[Ae]|((with_reducible refine Ad ?_);refine⟨_,rfl,?_,?_⟩)
   all_goals first|omega|(simp<;>omega)|skip
   all_goals first|rfl|skip
end
section
def vv (b:Bool) (o:List F) (fnd:Bool):List (Nat×Nat×Am):=[(900004,0,.cells [.d (.list b (us o))]),(901004,0,.cells [.d (.bool fnd)])]
def vh (b:Bool) (o:List F) (fnd:Bool) (r:Option (List F)):List (Nat×Nat×Am):=match r with|some z=>vv false z true|none=>vv b o fnd
theorem Jt (b:Bool) (o:List F) (fnd:Bool) (z:List F):vh b o fnd (some z)=vv false z true:=rfl
theorem Ju (b:Bool) (o:List F) (fnd:Bool):vh b o fnd none=vv b o fnd:=rfl
def GE (w:List F) (at_:List Nat) (v:List F):List F:=List.zipWith (fun j x=>fa (w[j]?.getD 0) x) at_ v
theorem Gu (w:List F) (at_:List Nat) (v:List F) (h:at_.length=v.length):(GE w at_ v).length=at_.length:=by simp[GE,h]
theorem YX (w:List F) (at_:List Nat) (v:List F) (i:Nat) (h:i<at_.length) (hl:at_.length=v.length):(GE w at_ v)[i]?.getD 0=fa (w[at_[i]?.getD 0]?.getD 0) (v[i]?.getD 0):=by
 unfold GE
 rw[List.getElem?_zipWith,List.getElem?_eq_getElem h,List.getElem?_eq_getElem (by omega)];rfl
noncomputable def hit (L P:Nat) (w:List F) (mk:List Nat) (l:List Nat):Option (List F) :=
 (HN L P (mk++l) (GD L P w)).map fun v=>CF w (mk++l) (GE w (mk++l) v)
theorem ZK (l:List Nat) (i:Nat) (h:i<l.length) (hn:l.Nodup):l[i]?.getD 0∉l.take i:=by
 intro hm
 rw[SU _ _ h] at hm
 obtain⟨j,hj,he⟩:=List.getElem_of_mem hm
 have hj2:j<i:=by simp at hj;omega
 rw[List.getElem_take] at he
 have:=(List.getElem_inj hn).1 he
 omega
attribute [local congr] Bm A' BA Au Bn Az A1 A0 Ar Al Af Aa Aw Ag Ax BM BQ BO BP BN BR BG Aj Ay Ak BE BX Ai BK BL BF BH BJ BI BC BD A_ Bp BB Av Ah
attribute [local irreducible] IntKind.wrap A3 Option.getD and or
theorem V3 (L P:Nat) (n1 n2 n3 b fnd:Bool) (o w:List F) (mk l:List Nat) (hL:L<=15) (hL1:1<=L) (hP:1<=P) (hP2:P<=15) (hw:w.length=L) (hp:YZ L (mk++l)) (hm:(mk++l).length<=P) (hn3:n3=false) :
  Ic E0 C_ (vv b o fnd) [.d (.list n1 (Ab (ni l))),.d (.ptr [.list n2 (Ab (ni mk))]),.d (.ptr [.int .i64 L,.int .i64 P]),.d (.ptr [.list false (us (GD L P w))]),.d (.ptr [.list n3 (us w)]),.ptr 900004 0 0,.ptr 901004 0 0]
   (vh b o fnd (hit L P w mk l)) (.d (.bool (hit L P w mk l).isNone)):=by
 subst hn3
 obtain⟨S,hS⟩:∃S,GD L P w=S:=⟨_,rfl⟩
 have hSl:S.length=P:=by rw[←hS];exact Rr L P w
 have c1:=TV n2 n1 (ni mk) (ni l) (by rw[G4];simp at hm;omega) (by rw[G4];simp at hm;omega)
 rw[gH] at c1
 obtain⟨A,hA⟩:∃A,mk++l=A:=⟨_,rfl⟩
 have c2:=fun nl=>O6 L P false nl S A hL hP hP2 hSl (by rw[←hA];exact hp) (by rw[←hA];exact hm)
 rw[hA] at c1 hp hm
 unfold hit
 rw[hS,hA]
 unfold vh vv
 refine Dm H_ An (by simp) (by cases HN L P A S<;>simp[Q3,Cc,EF,Am.isHist]) (by cases HN L P A S<;>simp[E']) fun hwf hwo=>?_
 rw[ET];unfold FG
 cases hs:HN L P A S with
 |none =>
  rw[hs,Pc,Bc] at c2
  simp only[Option.map_none,Option.isNone_none]
  (try (simp -implicitDefEqProofs only[go_sem]));repeat' first|(with_reducible first|exact tI|refine aI ?_ ?_|intro _)|((first|with_reducible refine AK ?_ ?_<;>intro _|(with_reducible refine isCall ?_);first|refine AE c1 ?_|refine AE (c2 _) ?_)<;>try (simp -implicitDefEqProofs only[go_sem]))|simp (disch:=omega) only[Ae]|((with_reducible refine Ad ?_);refine⟨_,rfl,?_,?_⟩)
  all_goals first|omega|(simp<;>omega)|skip
  all_goals first|rfl|skip
 |some v =>
  rw[hs,Pb,Bc] at c2
  simp only[Option.map_some,Option.isNone_some]
  have hvl:=(GT hs).1
  have c3:=I4 false w (by omega) (by omega) rfl
  (try (simp -implicitDefEqProofs only[go_sem]));repeat' first|(with_reducible first|exact tI|refine aI ?_ ?_|intro _)|((first|with_reducible refine AK ?_ ?_<;>intro _|(with_reducible refine isCall ?_);first|refine AE c1 ?_|refine AE (c2 _) ?_|(refine FA ([]) ([((7,1),(27,1))]) (c3) (by repeat' first|exact True.intro|exact rfl|refine And.intro ?_ ?_) (by simp[Handed,Dv.get,Am.ren,AV.ren,AV.ren.renL,AN.get,Be,CH,D8,AN.reach,AV.sites,AV.sites.sitesL,AN.osites]) (by simp[Ca,E',Cc,Dv.get,D8,EF,CU]) (by rfl) (by simp only[D9,Dv.get,Am.ren,AV.ren,AV.ren.renL,and_self,and_true,true_and,if_true,reduceIte];rfl) ?_))<;>try (simp -implicitDefEqProofs only[go_sem]))|simp (disch:=omega) only[Ae]|((with_reducible refine Ad ?_);refine⟨_,rfl,?_,?_⟩)
  all_goals first|omega|(simp<;>omega)|skip
  refine AX (α:=Nat) (l0:=?l1) (m0:=?m1) (fun x=>[(30,.d (.int .i64 (x:Int)))]) (fun x=>[(27,.row 135 1 false (us (CF w (A.take x) ((GE w A v).take x))))]) (fun x=>x<=A.length) (fun x=>A.length-x) 0 ?h01 ?he1 ?he21 ?hI1 ?step1
  case h01=>(simp -implicitDefEqProofs only[go_sem];rfl)
  case he1=>rfl
  case he21=>rfl
  case' step1=>(rintro i hI;try dsimp only at hI)
  case' hI1=>try dsimp only
  ·exact Nat.zero_le _
  ·have hW:=Ew (A.take i) w ((GE w A v).take i)
   have hYl:=Gu w A v hvl.symm
   by_cases h:i<A.length
   ·have h':(i:Int)<(A.length:Int):=by omega
    have hwi:IntKind.i64.wrap ((i:Int)+1)=((i+1:Nat):Int):=by rw[AZ _ (by omega)];omega
    have hj:=hp.lt (A[i]?.getD 0) (by rw[SU _ _ h];exact List.getElem_mem h)
    have hg:(CF w (A.take i) ((GE w A v).take i))[A[i]?.getD 0]?.getD 0=w[A[i]?.getD 0]?.getD 0:=GP _ _ _ _ (ZK A i h hp.nd)
    have hk:(CF w (A.take i) ((GE w A v).take i)).set (A[i]?.getD 0) (fa (w[A[i]?.getD 0]?.getD 0) (v[i]?.getD 0))=CF w (A.take (i+1)) ((GE w A v).take (i+1)):=by
     rw[←YX w A v i h hvl.symm,←NP _ _ _ _ _ (QT A _ i hYl.symm),Bb A 0 i h,Bb _ 0 i (by omega)]
    have hi2:i<v.length:=by omega
    have hj2:A[i]?.getD 0<w.length:=by omega
    (try (simp -implicitDefEqProofs only[go_sem,h',hwi,hW,hj2,hg,hk,hi2]));repeat' first|(with_reducible first|exact tI|refine aI ?_ ?_|intro _)|((first|with_reducible refine AK ?_ ?_<;>intro _)<;>try (simp -implicitDefEqProofs only[go_sem,h',hwi,hW,hj2,hg,hk,hi2]))|simp (disch:=omega) only[Ae]|((with_reducible refine Ad ?_);refine⟨_,rfl,?_,?_⟩)
    all_goals first|omega|(simp<;>omega)|skip
    all_goals first|rfl|skip
   ·have h':¬(i:Int)<(A.length:Int):=by omega
    have hie:i=A.length:=by omega
    have hfin:CF w (A.take i) ((GE w A v).take i)=CF w A (GE w A v):=by rw[List.take_of_length_le (by omega),List.take_of_length_le (by omega)]
    rw[hfin]
    (try (simp -implicitDefEqProofs only[go_sem,h']));repeat' first|(with_reducible first|exact tI|refine aI ?_ ?_|intro _)|((first|with_reducible refine AK ?_ ?_<;>intro _)<;>try (simp -implicitDefEqProofs only[go_sem,h']))|simp (disch:=omega) only[Ae]|((with_reducible refine Ad ?_);refine⟨_,rfl,?_,?_⟩)
    all_goals first|omega|(simp<;>omega)|skip
    all_goals first|rfl|skip
end
theorem Vv (x:F):∀(w c:List F) (j:Nat),j<w.length->w.length<=c.length->FS (w.set j x) c=fa (FS w c) (fm (fa (w[j]?.getD 0) x) (c[j]?.getD 0))
 |a::w,b::c,0,_,_=>by
  show fa (fm x b) (FS w c)=fa (fa (fm a b) (FS w c)) (fm (fa a x) b)
  rw[nQ,Oh (fm a b) (FS w c),EJ,←EJ (fm a b),Fy,IA,Oh]
 |a::w,b::c,j+1,h,hl=>by
  have ih:=Vv x w c j (by simpa using h) (by simpa using hl)
  show fa (fm a b) (FS (w.set j x) c)=fa (fa (fm a b) (FS w c)) (fm (fa (w[j]?.getD 0) x) (c[j]?.getD 0))
  rw[ih,EJ]
theorem YW (w:List F) (j:Nat) (x:F):∀(js:List Nat) (xs:List F),j∉js->GE (w.set j x) js xs=GE w js xs
 |[],xs,_=>rfl
 |k::js,[],_=>rfl
 |k::js,y::xs,h=>by
  have ih:=YW w j x js xs fun e=>h (by simp[e])
  show fa ((w.set j x)[k]?.getD 0) y::GE (w.set j x) js xs=fa (w[k]?.getD 0) y::GE w js xs
  rw[ih,List.getElem?_set_ne fun e=>h (by simp[e])]
theorem Ud (c:List F):∀(at_:List Nat) (xs w:List F),at_.Nodup->at_.length=xs.length->(∀j,j∈at_->j<w.length)->w.length<=c.length ->
  FS (CF w at_ xs) c=fa (FS w c) (FS (at_.map fun j=>c[j]?.getD 0) (GE w at_ xs))
 |[],xs,w,_,_,_,_=>by rw[PY];simp[MU,C8]
 |j::js,x::xs,w,hn,hl,hlt,hc=>by
  rw[List.nodup_cons] at hn
  have hj:=hlt j (by simp)
  have ih:=Ud c js xs (w.set j x) hn.2 (by simpa using hl) (fun k hk=>by simpa using hlt k (by simp[hk])) (by simpa using hc)
  show FS (CF (w.set j x) js xs) c=fa (FS w c) (fa (fm (c[j]?.getD 0) (fa (w[j]?.getD 0) x)) (FS (js.map fun j=>c[j]?.getD 0) (GE w js xs)))
  rw[ih,Vv x w c j hj hc,YW _ _ _ _ _ hn.1,EJ,DV (c[j]?.getD 0)]
theorem lD (L i:Nat) (at_:List Nat) (h:∀j,j∈at_->j<L):(at_.map fun j=>(Re L i)[j]?.getD 0)=at_.map fun j=>WN L i j :=
 List.map_congr_left fun j hj=>Rd L i j (h j hj)
theorem GR {L P:Nat}{w xs:List F}{at_:List Nat}(hw:w.length=L) (hp:YZ L at_) (hl:at_.length=xs.length) (i:Nat) (h:i<P) :
  EY (GD L P (CF w at_ xs)) i=fa (EY (GD L P w) i) (FS (at_.map fun j=>WN L i j) (GE w at_ xs)):=by
 show (GD L P (CF w at_ xs))[i]?.getD 0=fa ((GD L P w)[i]?.getD 0) _
 rw[I8 _ _ _ _ h,I8 _ _ _ _ h,Ud (Re L i) at_ xs w hp.nd hl (fun j hj=>by rw[hw];exact hp.lt j hj) (by rw[MV];omega),lD L i at_ hp.lt]
theorem RQ {L P:Nat}{at_:List Nat}{s v:List F}(hv:v.length=at_.length):RK 1 (K4 L P at_ s) v↔∀i,i<P->fa (EY s i) (FS (at_.map fun j=>WN L i j) v)=0:=by
 have hl:=(MT L P at_ s).len
 constructor
 ·intro h i hi
  have:=h i (by omega)
  rwa [Vw _ _ _ _ _ _ hv i hi,J6,Oh] at this
 ·intro h i hi
  rw[Vw _ _ _ _ _ _ hv i (by omega),J6,Oh];exact h i (by omega)
def nZ (L P:Nat) (w:List F):Prop:=∀i,i<P->EY (GD L P w) i=0
theorem Jg (w:List F):∀(at_:List Nat) (v:List F),at_.length=v.length->GE w at_ (GE w at_ v)=v
 |[],[],_=>rfl
 |j::js,x::v,h=>by
  have ih:=Jg w js v (by simpa using h)
  show fa (w[j]?.getD 0) (fa (w[j]?.getD 0) x)::GE w js (GE w js v)=x::v
  rw[ih,←EJ,Fy,IA]
theorem gj {L P:Nat}{w r:List F}{mk l:List Nat}(hw:w.length=L) (hp:YZ L (mk++l)) (h:hit L P w mk l=some r):nZ L P r/\r.length=L/\∀j,j∉mk++l->r[j]?.getD 0=w[j]?.getD 0:=by
 unfold hit at h
 rw[Option.map_eq_some_iff] at h
 obtain⟨v,hv,rfl⟩:=h
 obtain⟨h1,h2⟩:=GT hv
 refine⟨fun i hi=>?_,by rw[Ew];exact hw,fun j hj=>GP _ _ _ _ hj⟩
 rw[GR hw hp (by rw[Gu _ _ _ h1.symm]) i hi,Jg _ _ _ h1.symm]
 exact(RQ h1).1 h2 i hi
theorem WP:∀(at_:List Nat) (w c:List F),at_.Nodup->c.length=w.length->(∀j,j∈at_->j<w.length)->(∀j,j∉at_->c[j]?.getD 0=w[j]?.getD 0)->CF w at_ (at_.map fun j=>c[j]?.getD 0)=c
 |[],w,c,_,hl,_,h=>by
  rw[PY]
  exact(Xo hl fun j _=>h j (by simp)).symm
 |j::js,w,c,hn,hl,hlt,h=>by
  rw[List.nodup_cons] at hn
  show CF (w.set j (c[j]?.getD 0)) js (js.map fun j=>c[j]?.getD 0)=c
  refine WP js _ c hn.2 (by simpa using hl) (fun k hk=>by simpa using hlt k (by simp[hk])) fun k hk=>?_
  by_cases hkj:k=j
  ·subst hkj
   have:=hlt k (by simp)
   rw[List.getElem?_set_self this];rfl
  ·rw[List.getElem?_set_ne (fun e=>hkj e.symm)]
   exact h k (by simp[hk,hkj])
theorem VZ {L P:Nat}(hL:L<=15) {w c:List F}{mk l:List Nat}(hw:w.length=L) (hc:c.length=L) (hp:YZ L (mk++l)) (hm:(mk++l).length<=P) (hcode:nZ L P c) (h:∀j,j∉mk++l->c[j]?.getD 0=w[j]?.getD 0):hit L P w mk l=some c:=by
 obtain⟨A,hA⟩:∃A,mk++l=A:=⟨_,rfl⟩
 unfold hit
 rw[hA] at hp hm h ⊢
 obtain⟨ys,hys⟩:∃ys,(A.map fun j=>c[j]?.getD 0)=ys:=⟨_,rfl⟩
 have hyl:A.length=ys.length:=by rw[←hys];simp
 have hc2:CF w A ys=c:=by
  rw[←hys];exact WP A w c hp.nd (by omega) (fun j hj=>by rw[hw];exact hp.lt j hj) h
 have hal:=Gu w A ys hyl
 have hs:HN L P A (GD L P w)=some (GE w A ys):=by
  refine MJ hL hp hm hal ((RQ hal).2 fun i hi=>?_)
  rw[←GR hw hp hyl i hi,hc2]
  exact hcode i hi
 rw[hs,Option.map_some,Jg _ _ _ hyl,hc2]
theorem eE {L P:Nat}(hL:L<=15) {c d:List F}{at_:List Nat}(hc:c.length=L) (hd:d.length=L) (hp:YZ L at_) (hm:at_.length<=P) (h1:nZ L P c) (h2:nZ L P d) (h:∀j,j∉at_->c[j]?.getD 0=d[j]?.getD 0):c=d:=by
 have e1:hit L P d [] at_=some c:=VZ hL hd hc (by simpa using hp) (by simpa using hm) h1 (by simpa using h)
 have e2:hit L P d [] at_=some d:=VZ hL hd hd (by simpa using hp) (by simpa using hm) h2 (fun _ _=>rfl)
 rw[e1] at e2
 simpa using e2
def Bq (L:Nat) (mk:List Nat):Nat->Nat->List (List Nat)
 |0,_=>[[]]
 |m+1,fr=>((List.range' fr (L-fr)).filter fun j=>!mk.contains j).flatMap fun j=>(Bq L mk m (j+1)).map (j :: ·)
structure Us (L:Nat) (mk:List Nat) (fr:Nat) (l:List Nat):Prop where
 asc:l.Pairwise (· < ·)
 ge:∀j,j∈l->fr<=j
 lt:∀j,j∈l->j<L
 un:∀j,j∈l->j∉mk
theorem HV (L:Nat) (mk:List Nat):∀(m fr:Nat) (l:List Nat),l∈Bq L mk m fr->l.length=m/\Us L mk fr l
 |0,fr,l,h=>by
  simp[Bq] at h;subst h
  exact⟨rfl,.nil,by simp,by simp,by simp⟩
 |m+1,fr,l,h=>by
  simp only[Bq,List.mem_flatMap,List.mem_filter,List.mem_range'_1,List.mem_map] at h
  obtain⟨j,⟨hj,hjm⟩,l',hl',rfl⟩:=h
  obtain⟨h1,h2⟩:=HV L mk m (j+1) l' hl'
  refine⟨by simp[h1],List.pairwise_cons.2 ⟨fun k hk=>by have:=h2.ge k hk;omega,h2.asc⟩,fun k hk=>?_,fun k hk=>?_,fun k hk=>?_⟩
  ·rcases List.mem_cons.1 hk with rfl|hk
   ·omega
   ·have:=h2.ge k hk;omega
  ·rcases List.mem_cons.1 hk with rfl|hk
   ·omega
   ·exact h2.lt k hk
  ·rcases List.mem_cons.1 hk with rfl|hk
   ·simpa using hjm
   ·exact h2.un k hk
theorem Wv (L:Nat) (mk:List Nat):∀(l:List Nat) (fr:Nat),Us L mk fr l->l∈Bq L mk l.length fr
 |[],fr,_=>by simp[Bq]
 |j::l,fr,h=>by
  have h1:=List.pairwise_cons.1 h.asc
  have ih:=Wv L mk l (j+1) ⟨h1.2,fun k hk=>h1.1 k hk,fun k hk=>h.lt k (by simp[hk]),fun k hk=>h.un k (by simp[hk])⟩
  simp only[List.length_cons,Bq,List.mem_flatMap,List.mem_filter,List.mem_range'_1,List.mem_map]
  refine⟨j,⟨⟨h.ge j (by simp),?_⟩,?_⟩,l,ih,rfl⟩
  ·have:=h.ge j (by simp);have:=h.lt j (by simp);omega
  ·have:=h.un j (by simp)
   simpa using this
structure Yd (L:Nat) (mk:List Nat):Prop where
 asc:mk.Pairwise (· < ·)
 lt:∀j,j∈mk->j<L
theorem GX {l:List Nat}(h:l.Pairwise (· < ·)):l.Nodup:=h.imp fun h=>Nat.ne_of_lt h
theorem RO {L fr:Nat}{mk l:List Nat}(hm:Yd L mk) (h:Us L mk fr l):YZ L (mk++l):=by
 refine⟨List.nodup_append.2 ⟨GX hm.asc,GX h.asc,fun a ha b hb e=>h.un b hb (e ▸ ha)⟩,fun j hj=>?_⟩
 rcases List.mem_append.1 hj with hj|hj
 ·exact hm.lt j hj
 ·exact h.lt j hj
noncomputable def G9 (L P:Nat) (w:List F) (mk:List Nat):Option (List F) :=
 if mk.length<=P then (List.range ((P-mk.length)/2+1)).findSome? fun e=>(Bq L mk e 0).findSome? (hit L P w mk) else none
def Ra (L:Nat) (a b:List F) (mk:List Nat):List Nat:=(List.range L).filter fun j=>decide (a[j]?.getD 0≠b[j]?.getD 0) && !mk.contains j
theorem Vy (L:Nat) (a b:List F) (mk:List Nat):Us L mk 0 (Ra L a b mk):=by
 refine⟨List.Pairwise.filter _ List.pairwise_lt_range,fun _ _=>Nat.zero_le _,fun j hj=>?_,fun j hj=>?_⟩
 ·simp[Ra] at hj;exact hj.1
 ·simp[Ra] at hj;exact hj.2.2
theorem Vz {L:Nat}{a b:List F}{mk:List Nat}(ha:a.length=L) (hb:b.length=L) {j:Nat}(h:j∉mk++Ra L a b mk):a[j]?.getD 0=b[j]?.getD 0:=by
 by_cases hj:j<L
 ·simp only[List.mem_append,not_or] at h
  by_cases he:a[j]?.getD 0=b[j]?.getD 0
  ·exact he
  ·exact absurd (by simp[Ra,hj,h.1];exact he) h.2
 ·rw[List.getElem?_eq_none (by omega),List.getElem?_eq_none (by omega)]
theorem ST:∀(l k:List Nat),l.Nodup->(∀j,j∈l->j∈k)->l.length<=k.length
 |[],k,_,_=>Nat.zero_le _
 |x::l,k,hn,h=>by
  rw[List.nodup_cons] at hn
  have hx:=h x (by simp)
  have ih:=ST l (k.erase x) hn.2 fun j hj=>(List.mem_erase_of_ne (show j≠x from fun e=>hn.1 (by rw[←e];exact hj))).2 (h j (by simp[hj]))
  rw[List.length_erase_of_mem hx] at ih
  have:0<k.length:=List.length_pos_of_mem hx
  simp only[List.length_cons]
  omega
theorem pm {L fr:Nat}{a b:List F}{mk l:List Nat}(hs:Us L mk fr l) (h:∀j,j∉mk++l->a[j]?.getD 0=b[j]?.getD 0):(Ra L a b mk).length<=l.length:=by
 have hsub:∀j,j∈Ra L a b mk->j∈l:=fun j hj=>by
  simp[Ra] at hj
  by_cases hjl:j∈l
  ·exact hjl
  ·exact absurd (h j (by simp[hj.2.2,hjl])) hj.2.1
 exact ST _ _ (GX (Vy L a b mk).asc) hsub
theorem M8 {α β:Type}{f:α->Option β}{l:List α}{r:β}(h:l.findSome? f=some r):∃x,x∈l/\f x=some r:=by
 rw[List.findSome?_eq_some_iff] at h
 obtain⟨l1,a,l2,rfl,h2,_⟩:=h
 exact⟨a,by simp,h2⟩
theorem Lg {L P:Nat}{w r:List F}{mk:List Nat}(hw:w.length=L) (hm:Yd L mk) (h:G9 L P w mk=some r) :
  nZ L P r/\r.length=L/\2*(Ra L r w mk).length+mk.length<=P:=by
 unfold G9 at h
 split at h
 ·rename_i hle
  obtain⟨e,he,h⟩:=M8 h
  obtain⟨l,hl,h⟩:=M8 h
  obtain⟨h1,h2⟩:=HV L mk e 0 l hl
  obtain⟨h3,h4,h5⟩:=gj hw (RO hm h2) h
  refine⟨h3,h4,?_⟩
  have:=pm h2 h5
  simp at he
  omega
 ·cases h
theorem iz {L P:Nat}(hL:L<=15) {w c:List F}{mk:List Nat}(hw:w.length=L) (hc:c.length=L) (hm:Yd L mk) (hcode:nZ L P c) (h:2*(Ra L c w mk).length+mk.length<=P):G9 L P w mk=some c:=by
 have hs:=Vy L c w mk
 have hp:=RO hm hs
 have hhit:hit L P w mk (Ra L c w mk)=some c:=VZ hL hw hc hp (by simp;omega) hcode fun j hj=>Vz hc hw hj
 have hfound:∃r,G9 L P w mk=some r:=by
  unfold G9
  rw[if_pos (by omega)]
  cases hf:(List.range ((P-mk.length)/2+1)).findSome? fun e=>(Bq L mk e 0).findSome? (hit L P w mk) with
  |some r=>exact⟨r,rfl⟩
  |none =>
   rw[List.findSome?_eq_none_iff] at hf
   have h1:=hf (Ra L c w mk).length (by simp;omega)
   rw[List.findSome?_eq_none_iff] at h1
   have h2:=h1 _ (Wv L mk _ 0 hs)
   rw[hhit] at h2;cases h2
 obtain⟨r,hr⟩:=hfound
 rw[hr]
 congr 1
 obtain⟨h1,h2,h3⟩:=Lg hw hm hr
 have hs2:=Vy L r w mk
 obtain⟨at_,hat⟩:∃at_,mk++((Ra L r w mk)++(Ra L c w mk).filter fun j=>!(Ra L r w mk).contains j)=at_:=⟨_,rfl⟩
 refine eE hL (at_:=at_) h2 hc ?_ ?_ h1 hcode fun j hj=>?_
 ·rw[←hat]
  refine⟨List.nodup_append.2 ⟨GX hm.asc,List.nodup_append.2 ⟨GX hs2.asc,(GX hs.asc).filter _,fun a ha b hb e=>?_⟩,fun a ha b hb e=>?_⟩,fun j hj=>?_⟩
  ·simp at hb;exact hb.2 (e ▸ ha)
  ·subst e
   rcases List.mem_append.1 hb with hb|hb
   ·exact hs2.un a hb ha
   ·exact hs.un a (List.mem_filter.1 hb).1 ha
  ·rcases List.mem_append.1 hj with hj|hj
   ·exact hm.lt j hj
   ·rcases List.mem_append.1 hj with hj|hj
    ·exact hs2.lt j hj
    ·exact hs.lt j (List.mem_filter.1 hj).1
 ·rw[←hat]
  have:=List.length_filter_le (fun j=>!(Ra L r w mk).contains j) (Ra L c w mk)
  simp only[List.length_append]
  omega
 ·rw[←hat] at hj
  simp only[List.mem_append,not_or,List.mem_filter] at hj
  obtain⟨j1,j2,j3⟩:=hj
  have j4:j∉Ra L c w mk:=fun hh=>j3 ⟨hh,by simpa using j2⟩
  exact(Vz h2 hw (fun e=>(List.mem_append.1 e).elim j1 j2)).trans (Vz hc hw (fun e=>(List.mem_append.1 e).elim j1 j4)).symm
section
abbrev Xc:Dv:=[((900004,0),(900004,0)),((901004,0),(901004,0))]
structure qp (G:List Nat->Option (List F)) (A:List Nat->Prop) (f:FuncId) (cs:List AV):Prop where
 body:B5 E0.P f=true
 st:AV.sites.sitesL cs=[900004,901004]
 nr:∀(V:AN) (os:List Nat),AV.nrm.live V os 900004 0=true->AV.nrm.live V os 901004 0=true->AV.nrm.nrmL V os cs=cs
 rn:AV.ren.renL Xc cs=some cs
 ar:PG Xc cs cs
 call:∀(nl:Bool) (l:List Nat) (b:Bool) (o:List F) (fnd:Bool),A l->(nl=true->l=[])->Ic E0 f (vv b o fnd) (.d (.list nl (Ab (ni l)))::cs) (vh b o fnd (G l)) (.d (.bool (G l).isNone))
theorem TA:B5 E0.P B7=true:=by kernel_rfl
theorem ZH (b:Bool) (o:List F) (fnd:Bool):Q3 (vv b o fnd)=true:=by simp[vv,Q3,Cc,EF,Am.isHist]
theorem any_cons {α:Type}(l:List α):True:=trivial
theorem bu (L:Nat) (mk:List Nat) (m j:Nat) (G:List Nat->Option (List F)) (hj:j<L) :
  (Bq L mk (m+1) j).findSome? G=if mk.contains j then (Bq L mk (m+1) (j+1)).findSome? G else
   ((Bq L mk m (j+1)).findSome? fun l=>G (j::l)).or ((Bq L mk (m+1) (j+1)).findSome? G):=by
 have hr:List.range' j (L-j)=j::List.range' (j+1) (L-(j+1)):=by
  rw[show L-j=(L-(j+1))+1 by omega,List.range'_succ]
 simp only[Bq]
 rw[hr,List.filter_cons]
 cases h:mk.contains j with
 |true=>simp
 |false =>
  simp only[Bool.not_false,if_true,Bool.false_eq_true,if_false,List.flatMap_cons,List.findSome?_append]
  rw[List.findSome?_map];rfl
theorem fB (L:Nat) (mk:List Nat) (m:Nat):Bq L mk (m+1) L=[]:=by simp[Bq]
theorem Ww (L:Nat) (mk:List Nat) (m fr:Nat) (l:List Nat) (h:l∈Bq L mk m fr):l.length=m:=(HV L mk m fr l h).1
theorem e_ (L:Nat) (mk:List Nat) (m fr j:Nat) (l:List Nat) (hf:fr<=j) (hj:j<L) (hm:mk.contains j=false) (h:l∈Bq L mk m (j+1)):j::l∈Bq L mk (m+1) fr:=by
 simp only[Bq,List.mem_flatMap,List.mem_filter,List.mem_range'_1,List.mem_map]
 exact⟨j,⟨⟨hf,by omega⟩,by simpa using hm⟩,l,h,rfl⟩
theorem gh (mk:List Nat) (j:Nat):gi (ni mk) (j:Int)=mk.contains j:=by
 unfold gi ni
 rw[Bool.eq_iff_iff]
 simp only[List.contains_iff_mem,List.mem_map]
 constructor
 ·rintro⟨k,hk,he⟩
  have:k=j:=by omega
  subst this;exact hk
 ·exact fun h=>⟨j,h,rfl⟩
attribute [local congr] Bm A' BA Au Bn Az A1 A0 Ar Al Af Aa Aw Ag Ax BM BQ BO BP BN BR BG Aj Ay Ak BE BX Ai BK BL BF BH BJ BI BC BD A_ Bp BB Av Ah
attribute [local irreducible] IntKind.wrap A3 Option.getD and or
theorem Tz {G:List Nat->Option (List F)}{A:List Nat->Prop}{f:FuncId}{cs:List AV}(hY:qp G A f cs) (j:Nat) (nl:Bool) (l:List Nat) (b:Bool) (o:List F) (fnd:Bool) (hA:A (j::l)) (hll:l.length<=100) :
  Ic E0 B7 (vv b o fnd) [.d (.list nl (Ab (ni l))),.ablk false [.fn f cs] 0,.d (.ptr [.int .i64 (j:Int)])] (vh b o fnd (G (j::l))) (.d (.bool (G (j::l)).isNone)):=by
 have c1:=hY.call false (j::l) b o fnd hA (by simp)
 have hst:=hY.st
 have hbody:=hY.body
 have hl:D.int .i64 (j:Int)::Ab (ni l)=Ab (ni (j::l)):=rfl
 have h1:((vv b o fnd).all fun q=>E' (vh b o fnd (G (j::l))) q.1 q.2.1)=true:=by cases G (j::l)<;>simp[vv,vh,E']
 refine Dm Hq An (by simp) (ZH b o fnd) h1 fun hwf hwo=>?_
 rw[ET];unfold E3
 unfold vv at c1 ⊢
 have har:PG Xc (.d (.list false (Ab (ni (j::l))))::cs) (.d (.list false (Ab (ni (j::l))))::cs):=⟨rfl,hY.ar⟩
 cases hg:G (j::l) with
 |none =>
  rw[hg,Ju] at c1
  rw[Ju]
  unfold vv at c1 ⊢
  (try (simp -implicitDefEqProofs only[go_sem,hst,hbody,hl,G4]));repeat' first|(with_reducible first|exact tI|refine aI ?_ ?_|intro _)|((first|with_reducible refine AK ?_ ?_<;>intro _)<;>try (simp -implicitDefEqProofs only[go_sem,hst,hbody,hl,G4]))|simp (disch:=omega) only[Ae]
  all_goals first|omega|(simp<;>omega)|skip
  refine FA Xc Xc c1 har (by simp[Handed,Dv.get,Am.ren,AV.ren,AV.ren.renL,AN.get,Be,CH,D8,AN.reach,AV.sites,AV.sites.sitesL,AN.osites,hst]) (by simp[Ca,E',Cc,Dv.get,D8,EF,CU]) (by rfl) (by simp only[D9,Dv.get,Am.ren,AV.ren,AV.ren.renL,and_self,and_true,true_and,if_true,reduceIte];rfl) ?_
  (try (simp -implicitDefEqProofs only[go_sem,hst,G4]));repeat' first|(with_reducible first|exact tI|refine aI ?_ ?_|intro _)|((first|with_reducible refine AK ?_ ?_<;>intro _)<;>try (simp -implicitDefEqProofs only[go_sem,hst,G4]))|simp (disch:=omega) only[Ae]
  all_goals first|omega|(simp<;>omega)|skip
  all_goals first|rfl|skip
 |some z =>
  rw[hg,Jt] at c1
  rw[Jt]
  unfold vv at c1 ⊢
  (try (simp -implicitDefEqProofs only[go_sem,hst,hbody,hl,G4]));repeat' first|(with_reducible first|exact tI|refine aI ?_ ?_|intro _)|((first|with_reducible refine AK ?_ ?_<;>intro _)<;>try (simp -implicitDefEqProofs only[go_sem,hst,hbody,hl,G4]))|simp (disch:=omega) only[Ae]
  all_goals first|omega|(simp<;>omega)|skip
  refine FA Xc Xc c1 har (by simp[Handed,Dv.get,Am.ren,AV.ren,AV.ren.renL,AN.get,Be,CH,D8,AN.reach,AV.sites,AV.sites.sitesL,AN.osites,hst]) (by simp[Ca,E',Cc,Dv.get,D8,EF,CU]) (by rfl) (by simp only[D9,Dv.get,Am.ren,AV.ren,AV.ren.renL,and_self,and_true,true_and,if_true,reduceIte];rfl) ?_
  (try (simp -implicitDefEqProofs only[go_sem,hst,G4]));repeat' first|(with_reducible first|exact tI|refine aI ?_ ?_|intro _)|((first|with_reducible refine AK ?_ ?_<;>intro _)<;>try (simp -implicitDefEqProofs only[go_sem,hst,G4]))|simp (disch:=omega) only[Ae]
  all_goals first|omega|(simp<;>omega)|skip
  all_goals first|rfl|skip
theorem eT {G:List Nat->Option (List F)}{A:List Nat->Prop}{f:FuncId}{cs:List AV}(hY:qp G A f cs) (j:Nat) :
  qp (fun l=>G (j::l)) (fun l=>A (j::l)/\l.length<=100) B7 [.ablk false [.fn f cs] 0,.d (.ptr [.int .i64 (j:Int)])] :=
 ⟨TA,by simp[AV.sites,AV.sites.sitesL,hY.st],fun V os h1 h2=>by simp[AV.nrm,AV.nrm.nrmL,hY.nr V os h1 h2,AV.one],by simp[AV.ren,AV.ren.renL,hY.rn],
  ⟨by simp[ml,AV.ren,AV.ren.renL,hY.rn],rfl,trivial⟩,fun nl l b o fnd hA _=>Tz hY j nl l b o fnd hA.1 hA.2⟩
theorem Qq (L P:Nat) (n:Bool) (mk:List Nat) (hL:L<=15):∀(m fr:Nat) {G:List Nat->Option (List F)}{A:List Nat->Prop}{f:FuncId}{cs:List AV}(hY:qp G A f cs) (hA:∀l,l∈Bq L mk m fr->A l) (hfr:fr<=L) (hm:m<=50) (b:Bool) (o:List F) (fnd:Bool),
  Ic E0 F8 (vv b o fnd) [.d (QM L P),.d (.list n (Ab (ni mk))),.d (.int .i64 (fr:Int)),.d (.int .i64 (m:Int)),.fn f cs] (vh b o fnd ((Bq L mk m fr).findSome? G)) (.d (.bool ((Bq L mk m fr).findSome? G).isNone))
 |0,fr,G,A,f,cs,hY,hA,hfr,hm,b,o,fnd=>by
  have e0:(Bq L mk 0 fr).findSome? G=G []:=by simp[Bq]
  rw[e0]
  have c1:=hY.call true [] b o fnd (hA [] (by simp[Bq])) (fun _=>rfl)
  rw[show Ab (ni [])=[] from rfl] at c1
  have hst:=hY.st
  have hbody:=hY.body
  have h1:((vv b o fnd).all fun q=>E' (vh b o fnd (G [])) q.1 q.2.1)=true:=by cases G []<;>simp[vv,vh,E']
  refine Dm FK An (by simp) (ZH b o fnd) h1 fun hwf hwo=>?_
  rw[ET];unfold D0
  have har:PG Xc (.d (.list true [])::cs) (.d (.list true [])::cs):=⟨rfl,hY.ar⟩
  have hz0:((0:Nat):Int)=0:=rfl
  cases hg:G [] with
  |none =>
   rw[hg,Ju] at c1
   rw[Ju]
   unfold vv at c1 ⊢
   (try (simp -implicitDefEqProofs only[go_sem,hst,hbody,Bc,hz0]));repeat' first|(with_reducible first|exact tI|refine aI ?_ ?_|intro _)|((first|with_reducible refine AK ?_ ?_<;>intro _)<;>try (simp -implicitDefEqProofs only[go_sem,hst,hbody,Bc,hz0]))|simp (disch:=omega) only[Ae]|((with_reducible refine Ad ?_);refine⟨_,rfl,?_,?_⟩)
   all_goals first|omega|(simp<;>omega)|skip
   refine FA Xc Xc c1 har (by simp[Handed,Dv.get,Am.ren,AV.ren,AV.ren.renL,AN.get,Be,CH,D8,AN.reach,AV.sites,AV.sites.sitesL,AN.osites,hst]) (by simp[Ca,E',Cc,Dv.get,D8,EF,CU]) (by rfl) (by simp only[D9,Dv.get,Am.ren,AV.ren,AV.ren.renL,and_self,and_true,true_and,if_true,reduceIte];rfl) ?_
   (try (simp -implicitDefEqProofs only[go_sem,hst]));repeat' first|(with_reducible first|exact tI|refine aI ?_ ?_|intro _)|((first|with_reducible refine AK ?_ ?_<;>intro _)<;>try (simp -implicitDefEqProofs only[go_sem,hst]))|simp (disch:=omega) only[Ae]|((with_reducible refine Ad ?_);refine⟨_,rfl,?_,?_⟩)
   all_goals first|omega|(simp<;>omega)|skip
   all_goals first|rfl|skip
  |some z =>
   rw[hg,Jt] at c1
   rw[Jt]
   unfold vv at c1 ⊢
   (try (simp -implicitDefEqProofs only[go_sem,hst,hbody,Bc,hz0]));repeat' first|(with_reducible first|exact tI|refine aI ?_ ?_|intro _)|((first|with_reducible refine AK ?_ ?_<;>intro _)<;>try (simp -implicitDefEqProofs only[go_sem,hst,hbody,Bc,hz0]))|simp (disch:=omega) only[Ae]|((with_reducible refine Ad ?_);refine⟨_,rfl,?_,?_⟩)
   all_goals first|omega|(simp<;>omega)|skip
   refine FA Xc Xc c1 har (by simp[Handed,Dv.get,Am.ren,AV.ren,AV.ren.renL,AN.get,Be,CH,D8,AN.reach,AV.sites,AV.sites.sitesL,AN.osites,hst]) (by simp[Ca,E',Cc,Dv.get,D8,EF,CU]) (by rfl) (by simp only[D9,Dv.get,Am.ren,AV.ren,AV.ren.renL,and_self,and_true,true_and,if_true,reduceIte];rfl) ?_
   (try (simp -implicitDefEqProofs only[go_sem,hst]));repeat' first|(with_reducible first|exact tI|refine aI ?_ ?_|intro _)|((first|with_reducible refine AK ?_ ?_<;>intro _)<;>try (simp -implicitDefEqProofs only[go_sem,hst]))|simp (disch:=omega) only[Ae]|((with_reducible refine Ad ?_);refine⟨_,rfl,?_,?_⟩)
   all_goals first|omega|(simp<;>omega)|skip
   all_goals first|rfl|skip
 |m+1,fr,G,A,f,cs,hY,hA,hfr,hm,b,o,fnd=>by
  have hst:=hY.st
  have hnr:=hY.nr
  have h1:((vv b o fnd).all fun q=>E' (vh b o fnd ((Bq L mk (m+1) fr).findSome? G)) q.1 q.2.1)=true:=by cases (Bq L mk (m+1) fr).findSome? G<;>simp[vv,vh,E']
  refine Dm FK An (by simp) (ZH b o fnd) h1 fun hwf hwo=>?_
  rw[ET];unfold D0
  have hz0:¬((m+1:Nat):Int)=0:=by omega
  have hwm:IntKind.i64.wrap (((m+1:Nat):Int)-1)=(m:Int):=by rw[AZ _ (by omega)];omega
  unfold vv
  (try (simp -implicitDefEqProofs only[go_sem,hst,hnr,Bc,hz0]));repeat' first|(with_reducible first|exact tI|refine aI ?_ ?_|intro _)|((first|with_reducible refine AK ?_ ?_<;>intro _)<;>try (simp -implicitDefEqProofs only[go_sem,hst,hnr,Bc,hz0]))|simp (disch:=omega) only[Ae]|((with_reducible refine Ad ?_);refine⟨_,rfl,?_,?_⟩)
  all_goals first|omega|(simp<;>omega)|skip
  refine AX (α:=Nat) (l0:=?l1) (m0:=?m1) (fun x=>[]) (fun x=>[(11,.cells [.d (.int .i64 (x:Int))])]) (fun x=>fr<=x/\x<=L/\(Bq L mk (m+1) x).findSome? G=(Bq L mk (m+1) fr).findSome? G) (fun x=>L-x) fr ?h01 ?he1 ?he21 ?hI1 ?step1
  case h01=>(simp -implicitDefEqProofs only[go_sem,hst,hnr];rfl)
  case he1=>rfl
  case he21=>rfl
  case' step1=>(rintro j hI;try dsimp only at hI)
  case' hI1=>try dsimp only
  ·exact⟨by omega,hfr,rfl⟩
  ·obtain⟨j1,j2,j3⟩:=hI
   by_cases hj:j<L
   ·have hj':(j:Int)<(L:Int):=by omega
    have hwj:IntKind.i64.wrap ((j:Int)+1)=((j+1:Nat):Int):=by rw[AZ _ (by omega)];omega
    have c0:=QQ n (ni mk) (j:Int)
    rw[gh] at c0
    have hnx:=bu L mk m j G hj
    cases hc:mk.contains j with
    |true =>
     rw[hc] at c0 hnx
     rw[if_pos rfl] at hnx
     have hfin:(Bq L mk (m+1) (j+1)).findSome? G=(Bq L mk (m+1) fr).findSome? G:=by rw[←j3,hnx]
     (try (simp -implicitDefEqProofs only[go_sem,hst,hnr,hj',hwj]));repeat' first|(with_reducible first|exact tI|refine aI ?_ ?_|intro _)|((first|with_reducible refine AK ?_ ?_<;>intro _|(with_reducible refine isCall ?_);first|refine AE c0 ?_)<;>try (simp -implicitDefEqProofs only[go_sem,hst,hnr,hj',hwj]))|simp (disch:=omega) only[Ae]|((with_reducible refine Ad ?_);refine⟨_,rfl,?_,?_⟩)
     all_goals first|omega|(simp<;>omega)|skip
     all_goals first|exact hfin|skip
    |false =>
     rw[hc] at c0 hnx
     simp only[Bool.false_eq_true,if_false] at hnx
     have hYn:=eT hY j
     have hlen:∀l,l∈Bq L mk m (j+1)->l.length<=100:=fun l hl=>by rw[Ww L mk m (j+1) l hl];omega
     have ih:=Qq L P n mk hL m (j+1) hYn (fun l hl=>⟨hA _ (e_ L mk m fr j l j1 hj hc hl),hlen l hl⟩) (by omega) (by omega) b o fnd
     have har:PG Xc [.d (QM L P),.d (.list n (Ab (ni mk))),.d (.int .i64 ((j+1:Nat):Int)),.d (.int .i64 (m:Int)),.fn B7 [.ablk false [.fn f cs] 0,.d (.ptr [.int .i64 (j:Int)])]] [.d (QM L P),.d (.list n (Ab (ni mk))),.d (.int .i64 ((j+1:Nat):Int)),.d (.int .i64 (m:Int)),.fn B7 [.ablk false [.fn f cs] 0,.d (.ptr [.int .i64 (j:Int)])]] :=
      ⟨rfl,rfl,rfl,rfl,by simp[ml,AV.ren,AV.ren.renL,hY.rn],trivial⟩
     cases hr:(Bq L mk m (j+1)).findSome? fun l=>G (j::l) with
     |none =>
      rw[hr] at ih hnx
      have hfin:(Bq L mk (m+1) (j+1)).findSome? G=(Bq L mk (m+1) fr).findSome? G:=by rw[←j3,hnx];rfl
      rw[Ju,Option.isNone_none] at ih
      rw[Bc] at ih har
      unfold vv at ih
      (try (simp -implicitDefEqProofs only[go_sem,hst,hnr,hj',hwj,hwm]));repeat' first|(with_reducible first|exact tI|refine aI ?_ ?_|intro _)|((first|with_reducible refine AK ?_ ?_<;>intro _|(with_reducible refine isCall ?_);first|refine AE c0 ?_)<;>try (simp -implicitDefEqProofs only[go_sem,hst,hnr,hj',hwj,hwm]))|simp (disch:=omega) only[Ae]|((with_reducible refine Ad ?_);refine⟨_,rfl,?_,?_⟩)
      all_goals first|omega|(simp<;>omega)|skip
      refine FA Xc Xc ih har (by simp[Handed,Dv.get,Am.ren,AV.ren,AV.ren.renL,AN.get,Be,CH,D8,AN.reach,AV.sites,AV.sites.sitesL,AN.osites,hst]) (by simp[Ca,E',Cc,Dv.get,D8,EF,CU]) (by rfl) (by simp only[D9,Dv.get,Am.ren,AV.ren,AV.ren.renL,and_self,and_true,true_and,if_true,reduceIte];rfl) ?_
      (try (simp -implicitDefEqProofs only[go_sem,hst,hnr,hwj]));repeat' first|(with_reducible first|exact tI|refine aI ?_ ?_|intro _)|((first|with_reducible refine AK ?_ ?_<;>intro _)<;>try (simp -implicitDefEqProofs only[go_sem,hst,hnr,hwj]))|simp (disch:=omega) only[Ae]|((with_reducible refine Ad ?_);refine⟨_,rfl,?_,?_⟩)
      all_goals first|omega|(simp<;>omega)|skip
      all_goals first|exact hfin|skip
     |some z =>
      rw[hr] at ih hnx
      have hfin:(Bq L mk (m+1) fr).findSome? G=some z:=by rw[←j3,hnx];rfl
      rw[hfin,Jt]
      rw[Jt,Option.isNone_some] at ih
      rw[Bc] at ih har
      unfold vv at ih ⊢
      (try (simp -implicitDefEqProofs only[go_sem,hst,hnr,hj',hwj,hwm]));repeat' first|(with_reducible first|exact tI|refine aI ?_ ?_|intro _)|((first|with_reducible refine AK ?_ ?_<;>intro _|(with_reducible refine isCall ?_);first|refine AE c0 ?_)<;>try (simp -implicitDefEqProofs only[go_sem,hst,hnr,hj',hwj,hwm]))|simp (disch:=omega) only[Ae]|((with_reducible refine Ad ?_);refine⟨_,rfl,?_,?_⟩)
      all_goals first|omega|(simp<;>omega)|skip
      refine FA Xc Xc ih har (by simp[Handed,Dv.get,Am.ren,AV.ren,AV.ren.renL,AN.get,Be,CH,D8,AN.reach,AV.sites,AV.sites.sitesL,AN.osites,hst]) (by simp[Ca,E',Cc,Dv.get,D8,EF,CU]) (by rfl) (by simp only[D9,Dv.get,Am.ren,AV.ren,AV.ren.renL,and_self,and_true,true_and,if_true,reduceIte];rfl) ?_
      (try (simp -implicitDefEqProofs only[go_sem,hst,hnr,hwj]));repeat' first|(with_reducible first|exact tI|refine aI ?_ ?_|intro _)|((first|with_reducible refine AK ?_ ?_<;>intro _)<;>try (simp -implicitDefEqProofs only[go_sem,hst,hnr,hwj]))|simp (disch:=omega) only[Ae]|((with_reducible refine Ad ?_);refine⟨_,rfl,?_,?_⟩)
      all_goals first|omega|(simp<;>omega)|skip
      all_goals first|rfl|skip
   ·have hj':¬(j:Int)<(L:Int):=by omega
    have hje:j=L:=by omega
    subst hje
    have hfin:(Bq j mk (m+1) fr).findSome? G=none:=by rw[←j3,fB];rfl
    rw[hfin,Ju]
    unfold vv
    (try (simp -implicitDefEqProofs only[go_sem,hst,hnr,hj']));repeat' first|(with_reducible first|exact tI|refine aI ?_ ?_|intro _)|((first|with_reducible refine AK ?_ ?_<;>intro _)<;>try (simp -implicitDefEqProofs only[go_sem,hst,hnr,hj']))|simp (disch:=omega) only[Ae]|((with_reducible refine Ad ?_);refine⟨_,rfl,?_,?_⟩)
    all_goals first|omega|(simp<;>omega)|skip
    all_goals first|rfl|skip
end
end Go.Pw
