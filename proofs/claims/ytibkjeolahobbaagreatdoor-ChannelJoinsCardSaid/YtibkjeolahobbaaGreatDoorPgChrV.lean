/- A part of the proof. -/
import Derived.Test.YtibkjeolahobbaaGreatDoorPgChrM
import Derived.Test.YtibkjeolahobbaaGreatDoorChPC
set_option linter.all false
open Go Go.Pw Go.Proofs
namespace Go.Pw
set_option maxRecDepth 100000
set_option maxHeartbeats 3200000
section
def oi (l:List Nat):D:=.list l.isEmpty (Aa (ni l))
def jM (ls:List (List Nat)):List D:=ls.map oi
theorem j_ (ls:List (List Nat)):(jM ls).length=ls.length:=by simp[jM]
theorem eN (ls:List (List Nat)) (j:Nat) (l:List Nat):jM ls++[.list false (.int .i64 (j:Int)::Aa (ni l))]=jM (ls++[j::l]):=by simp[jM,oi];rfl
theorem bI {ls:List (List Nat)}{i:Nat}{A:D->Prop}:Av (jM ls)[i]? A=(i<ls.length/\A (.list (ls[i]?.getD []).isEmpty (Aa (ni (ls[i]?.getD []))))):=by
 unfold jM
 rw[List.getElem?_map]
 by_cases h:i<ls.length
 ·simp[h,Av,oi]
 ·have:ls[i]?=none:=List.getElem?_eq_none (by omega)
  simp[this,h,Av]
attribute [go_sem] j_ eN bI
theorem Z0 {α:Type}(f:Nat->List α) (c:Nat):∀l:List Nat,(∀j,j∈l->(f j).length<=c)->(l.flatMap f).length<=l.length*c
 |[],_=>by simp
 |j::l,h=>by
  have ih:=Z0 f c l fun k hk=>h k (by simp[hk])
  have h0:=h j (by simp)
  rw[List.flatMap_cons,List.length_append,List.length_cons,Nat.add_mul]
  omega
theorem Vm (L:Nat) (mk:List Nat) (hL:L<=15):∀m fr,(BC L mk m fr).length<=16^m
 |0,fr=>by simp[BC]
 |m+1,fr=>by
  have h1:=Z0 (fun j=>(BC L mk m (j+1)).map (j :: ·)) (16^m) ((List.range' fr (L-fr)).filter fun j=>!mk.contains j) (fun j _=>by rw[List.length_map];exact Vm L mk hL m (j+1))
  have h2:((List.range' fr (L-fr)).filter fun j=>!mk.contains j).length<=16:=by
   have:=List.length_filter_le (fun j=>!mk.contains j) (List.range' fr (L-fr))
   rw[List.length_range'] at this;omega
  show ((((List.range' fr (L-fr)).filter fun j=>!mk.contains j).flatMap fun j=>(BC L mk m (j+1)).map (j :: ·))).length<=16^(m+1)
  rw[Nat.pow_succ]
  have h3:=Nat.mul_le_mul_right (16^m) h2
  omega
theorem NE (L:Nat) (mk:List Nat) (hL:L<=15) {m:Nat}(hm:m<=6) (fr:Nat):(BC L mk m fr).length<=16777216:=by
 have h1:=Vm L mk hL m fr
 have h2:16^m<=16^6:=Nat.pow_le_pow_right (by omega) hm
 omega
theorem eC (L:Nat) (mk:List Nat) (m j:Nat) (h:j<L):BC L mk (m+1) j=if mk.contains j=true then BC L mk (m+1) (j+1) else (BC L mk m (j+1)).map (j :: ·)++BC L mk (m+1) (j+1):=by
 show ((List.range' j (L-j)).filter fun j=>!mk.contains j).flatMap _=_
 rw[show L-j=(L-(j+1))+1 by omega,List.range'_succ,List.filter_cons]
 cases hc:mk.contains j with
 |true=>simp only[Bool.not_true,Bool.false_eq_true,if_false,if_true];rfl
 |false=>simp only[Bool.not_false,Bool.false_eq_true,if_false,if_true,List.flatMap_cons];rfl
theorem aj (L:Nat) (mk:List Nat) (m j:Nat) (h:L<=j):BC L mk (m+1) j=[]:=by
 simp only[BC]
 rw[show L-j=0 by omega];rfl
theorem Si (j:Nat) (R:List (List Nat)) (i:Nat) (h:i<R.length):(R.take i).map (j :: ·)++[j::(R[i]?.getD [])]=(R.take (i+1)).map (j :: ·):=by
 rw[←Az R [] i h,List.map_append];rfl
attribute [local irreducible] IntKind.wrap Ai Option.getD and or
theorem KI (L P:Nat) (n:Bool) (mk:List Nat) (hL:L<=15):∀(m fr:Nat),m<=6->fr<=100 ->
  BR E0 OG [QC L P,.list n (Aa (ni mk)),.int .i64 (fr:Int),.int .i64 (m:Int)] (.list (BC L mk m fr).isEmpty (jM (BC L mk m fr)))
 |0,fr,_,_=>by
  refine AM Ko Af (by simp) fun hwf=>?_
  rw[AQ];unfold Hm
  rw[A4,show ((0:Nat):Int)=0 from rfl]
  (try (simp -implicitDefEqProofs only[go_sem]));repeat' first|(with_reducible first|exact tI|refine aI ?_ ?_|intro _|refine AJ ?_ ?_<;>intro _<;>try simp -implicitDefEqProofs only[go_sem])|simp (disch:=omega) only[Ad]|((with_reducible apply Ag);exact rfl)
  all_goals first|rfl|(simp;done)|skip
 |m+1,fr,hm,hfr=>by
  have ih:=KI L P n mk hL m
  refine AM Ko Af (by simp) fun hwf=>?_
  rw[AQ];unfold Hm
  rw[A4] at ih ⊢
  have hm0:¬((m+1:Nat):Int)=0:=by omega
  have hwm:IntKind.i64.wrap (((m+1:Nat):Int)-1)=(m:Int):=by rw[AZ _ (by omega)];omega
  (try (simp -implicitDefEqProofs only[go_sem,hm0]));repeat' first|(with_reducible first|exact tI|refine aI ?_ ?_|intro _|refine AJ ?_ ?_<;>intro _<;>try simp -implicitDefEqProofs only[go_sem,hm0])|simp (disch:=omega) only[Ad]|((with_reducible apply Ag);exact rfl)
  all_goals first|omega|(simp<;>omega)|skip
  refine AU (α:=Nat×Bool×(List (List Nat))) (l0:=?l1) (m0:=?m1) (fun x=>[(10,.d (.int .i64 (x.1:Int)))]) (fun x=>[(48,.row 29 1 x.2.1 (jM x.2.2))]) (fun x=>fr<=x.1/\x.1<=max fr L/\x.2.1=x.2.2.isEmpty/\x.2.2++BC L mk (m+1) x.1=BC L mk (m+1) fr) (fun x=>L-x.1) (fr,true,[]) ?h01 ?he1 ?he21 ?hI1 ?step1
  case h01=>(simp -implicitDefEqProofs only[go_sem];rfl)
  case he1=>rfl
  case he21=>rfl
  case' step1=>(rintro⟨j,b,out⟩ hI;try dsimp only at hI)
  case' hI1=>try dsimp only
  ·exact⟨Nat.le_refl _,by omega,rfl,rfl⟩
  ·obtain⟨j1,j2,j3,j4⟩:=hI
   change b=out.isEmpty at j3
   have hlo:out.length<=16777216:=by
    have h1:=NE L mk hL hm fr
    rw[←j4,List.length_append] at h1;omega
   by_cases hj:j<L
   ·have hj':(j:Int)<(L:Int):=by omega
    have hwj:IntKind.i64.wrap ((j:Int)+1)=((j+1:Nat):Int):=by rw[AZ _ (by omega)];omega
    have c1:=T_ n (ni mk) j
    rw[f8] at c1
    have hrec:=eC L mk m j hj
    cases hc:mk.contains j with
    |true =>
     rw[hc] at c1 hrec
     rw[if_pos rfl] at hrec
     rw[hrec] at j4
     (try (simp -implicitDefEqProofs only[go_sem,hj',hwj]));repeat' first|(with_reducible first|exact tI|refine aI ?_ ?_|intro _)|((first|with_reducible refine AJ ?_ ?_<;>intro _|(with_reducible refine isCall ?_);first|refine AE c1 ?_)<;>try (simp -implicitDefEqProofs only[go_sem,hj',hwj]))|simp (disch:=omega) only[Ad]|((with_reducible apply Ag);exact rfl)
     all_goals first|omega|(simp<;>omega)|skip
     all_goals first|exact⟨j3,j4⟩|exact j4|exact j3|skip
    |false =>
     rw[hc] at c1 hrec
     rw[if_neg (by decide)] at hrec
     rw[hrec,←List.append_assoc] at j4
     have c2:=ih (j+1) (by omega) (by omega)
     have hR6:=NE L mk hL (show m<=6 by omega) (j+1)
     obtain⟨R,hR⟩:∃R,BC L mk m (j+1)=R:=⟨_,rfl⟩
     rw[hR] at c2 j4 hR6
     (try (simp -implicitDefEqProofs only[go_sem,hj',hwj,hwm]));repeat' first|(with_reducible first|exact tI|refine aI ?_ ?_|intro _)|((first|with_reducible refine AJ ?_ ?_<;>intro _|(with_reducible refine isCall ?_);first|refine AE c1 ?_|refine AE c2 ?_)<;>try (simp -implicitDefEqProofs only[go_sem,hj',hwj,hwm]))|simp (disch:=omega) only[Ad]|((with_reducible apply Ag);exact rfl)
     all_goals first|omega|(simp<;>omega)|skip
     refine AU (α:=Nat×Bool×(List (List Nat))) (l0:=?l2) (m0:=?m2) (fun x=>[(12,.d (.int .i64 (x.1:Int)))]) (fun x=>[(48,.row 29 1 x.2.1 (jM x.2.2))]) (fun x=>x.1<=R.length/\x.2.1=x.2.2.isEmpty/\x.2.2=out++(R.take x.1).map (j :: ·)) (fun x=>R.length-x.1) (0,b,out) ?h02 ?he2 ?he22 ?hI2 ?step2
     case h02=>(simp -implicitDefEqProofs only[go_sem];rfl)
     case he2=>rfl
     case he22=>rfl
     case' step2=>(rintro⟨i,e,o2⟩ hI2;try dsimp only at hI2)
     case' hI2=>try dsimp only
     ·exact⟨Nat.zero_le _,j3,by simp⟩
     ·obtain⟨i1,i2,i3⟩:=hI2
      change e=o2.isEmpty at i2
      have ho2:o2.length<=16777216:=by
       have h1:=NE L mk hL hm fr
       rw[←j4,List.length_append,List.length_append,List.length_map] at h1
       rw[i3,List.length_append,List.length_map,List.length_take];omega
      by_cases h:i<R.length
      ·have hlr:(R[i]?.getD []).length<=100:=by
        have hmem:(R[i]?.getD [])∈BC L mk m (j+1):=by
         rw[hR,List.getElem?_eq_getElem h,Option.getD_some];exact List.getElem_mem h
        rw[Vl L mk m (j+1) _ hmem];omega
       have h':(i:Int)<(R.length:Int):=by omega
       have hwi:IntKind.i64.wrap ((i:Int)+1)=((i+1:Nat):Int):=by rw[AZ _ (by omega)];omega
       have hk:o2++[j::(R[i]?.getD [])]=out++(R.take (i+1)).map (j :: ·):=by
        rw[i3,List.append_assoc,Si j R i h]
       have hke:(o2++[j::(R[i]?.getD [])]).isEmpty=false:=Kl _ _
       (try (simp -implicitDefEqProofs only[go_sem,h',hwi]));repeat' first|(with_reducible first|exact tI|refine aI ?_ ?_|intro _|refine AJ ?_ ?_<;>intro _<;>try simp -implicitDefEqProofs only[go_sem,h',hwi])|simp (disch:=omega) only[Ad]|((with_reducible apply Ag);exact rfl)
       all_goals first|omega|(simp<;>omega)|skip
       all_goals first|exact⟨hke.symm,hk⟩|exact hk|exact hke.symm|skip
      ·have h':¬(i:Int)<(R.length:Int):=by omega
       have hie:(R.take i)=R:=List.take_of_length_le (by omega)
       rw[hie] at i3
       rw[←i3] at j4
       (try (simp -implicitDefEqProofs only[go_sem,h',hwj]));repeat' first|(with_reducible first|exact tI|refine aI ?_ ?_|intro _|refine AJ ?_ ?_<;>intro _<;>try simp -implicitDefEqProofs only[go_sem,h',hwj])|simp (disch:=omega) only[Ad]|((with_reducible apply Ag);exact rfl)
       all_goals first|omega|(simp<;>omega)|skip
       all_goals first|exact⟨i2,j4⟩|exact j4|exact i2|skip
   ·have hj':¬(j:Int)<(L:Int):=by omega
    rw[aj L mk m j (by omega),List.append_nil] at j4
    subst j3
    rw[←j4]
    (try (simp -implicitDefEqProofs only[go_sem,hj']));repeat' first|(with_reducible first|exact tI|refine aI ?_ ?_|intro _|refine AJ ?_ ?_<;>intro _<;>try simp -implicitDefEqProofs only[go_sem,hj'])|simp (disch:=omega) only[Ad]|((with_reducible apply Ag);exact rfl)
    all_goals first|omega|(simp<;>omega)|skip
    all_goals first|rfl|skip
end
theorem GZ:∀(at_:List Nat) (w xs:List F) (i:Nat),at_.Nodup->at_.length=xs.length->(∀j,j∈at_->j<w.length)->i<at_.length->(BX w at_ xs)[at_[i]?.getD 0]?.getD 0=xs[i]?.getD 0
 |j::js,w,x::xs,0,hn,hl,hlt,_=>by
  rw[List.nodup_cons] at hn
  show (BX (w.set j x) js xs)[j]?.getD 0=x
  rw[Fc js _ xs j hn.1,List.getElem?_set_self (hlt j (by simp))];rfl
 |j::js,w,x::xs,i+1,hn,hl,hlt,hi=>by
  rw[List.nodup_cons] at hn
  show (BX (w.set j x) js xs)[js[i]?.getD 0]?.getD 0=xs[i]?.getD 0
  exact GZ js _ xs i hn.2 (by simpa using hl) (fun k hk=>by simpa using hlt k (by simp[hk])) (by simpa using hi)
theorem get_mem {l:List Nat}{i:Nat}(h:i<l.length):l[i]?.getD 0∈l:=by rw[RV _ _ h];exact List.getElem_mem h
theorem XZ {w xs ys:List F}{at_:List Nat}(hn:at_.Nodup) (hx:at_.length=xs.length) (hy:at_.length=ys.length) (hlt:∀j,j∈at_->j<w.length):BX (BX w at_ xs) at_ ys=BX w at_ ys:=by
 apply Wb
 ·rw[D8,D8,D8]
 ·intro j hj
  show (BX (BX w at_ xs) at_ ys)[j]?.getD 0=(BX w at_ ys)[j]?.getD 0
  by_cases h:j∈at_
  ·obtain⟨i,hi,rfl⟩:=List.getElem_of_mem h
   have e:at_[i]=at_[i]?.getD 0:=(RV _ _ hi).symm
   rw[e,GZ at_ _ ys i hn hy (fun k hk=>by rw[D8];exact hlt k hk) hi,GZ at_ _ ys i hn hy hlt hi]
  ·rw[Fc _ _ _ _ h,Fc _ _ _ _ h,Fc _ _ _ _ h]
theorem Td {w v:List F}{at_:List Nat}(hv:at_.length=v.length) (h:∀i,i<at_.length->w[at_[i]?.getD 0]?.getD 0=0):FS w at_ v=v:=by
 apply Wb
 ·rw[F9 _ _ _ hv,hv]
 ·intro i hi
  rw[F9 _ _ _ hv] at hi
  show (FS w at_ v)[i]?.getD 0=v[i]?.getD 0
  rw[XP _ _ _ i hi hv,h i hi,HQ]
def dX (w:List F) (at_:List Nat):List F:=BX w at_ (List.replicate at_.length 0)
theorem Tl (w:List F) (at_:List Nat):(dX w at_).length=w.length:=D8 ..
theorem ZW {L P:Nat}{w v:List F}{at_:List Nat}(hw:w.length=L) (hp:ZG L at_) (hv:at_.length=v.length):QD 1 (J' L P at_ (Fg L P (dX w at_))) v↔QD 1 (J' L P at_ (Fg L P w)) (FS w at_ v):=by
 have hlt:∀j,j∈at_->j<w.length:=fun j hj=>by rw[hw];exact hp.lt j hj
 have hz:∀i,i<at_.length->(dX w at_)[at_[i]?.getD 0]?.getD 0=0:=fun i hi=>by
  unfold dX
  rw[GZ at_ w _ i hp.nd (by simp) hlt hi,List.getElem?_replicate,if_pos hi];rfl
 have ho:BX (dX w at_) at_ v=BX w at_ v:=XZ hp.nd (by simp) hv hlt
 rw[QI hv.symm,QI (by rw[F9 _ _ _ hv])]
 constructor
 ·intro h i hi
  have:=h i hi
  rw[←Ff hw hp hv i hi,←ho,Ff (by rw[Tl,hw]) hp hv i hi,Td hv hz]
  exact this
 ·intro h i hi
  have:=h i hi
  rw[←Ff hw hp hv i hi,←ho,Ff (by rw[Tl,hw]) hp hv i hi,Td hv hz] at this
  exact this
theorem lH {L P:Nat}(hL:L<=15) {w:List F}{mk l:List Nat}(hw:w.length=L) (hp:ZG L (mk++l)) (hm:(mk++l).length<=P) :
  hit L P w mk l=(Gl L P (mk++l) (Fg L P (dX w (mk++l)))).map (BX w (mk++l)):=by
 unfold hit
 obtain⟨A,hA⟩:∃A,mk++l=A:=⟨_,rfl⟩
 rw[hA] at hp hm ⊢
 cases h:Gl L P A (Fg L P (dX w A)) with
 |some v =>
  obtain⟨h1,h2⟩:=IA h
  rw[LP hL hp hm (F9 _ _ _ h1.symm) ((ZW hw hp h1.symm).1 h2),Option.map_some,Option.map_some,It _ _ _ h1.symm]
 |none =>
  cases h':Gl L P A (Fg L P w) with
  |none=>rfl
  |some u =>
   exfalso
   obtain⟨h1,h2⟩:=IA h'
   have hl:=F9 w A u h1.symm
   have h3:QD 1 (J' L P A (Fg L P (dX w A))) (FS w A u):=(ZW hw hp hl.symm).2 (by rw[It _ _ _ h1.symm];exact h2)
   rw[LP hL hp hm hl h3] at h
   cases h
section
theorem iL {l p:Nat}{w:List F}{mk:List Nat}(h:p<mk.length):GK l p w mk=none:=by unfold GK;rw[if_neg (by omega)]
attribute [local irreducible] IntKind.wrap Ai Option.getD and or
end
section
def r9 (o:Option (List F)):D:=match o with
 |some r=>.tup [.list false (Aa (iv r)),.bool true]
 |none=>.tup [.list true [],.bool false]
theorem Wx (v:List F):r9 (some v)=.tup [.list false (Aa (iv v)),.bool true]:=rfl
theorem R1:r9 none=.tup [.list true [],.bool false]:=rfl
theorem Sl {α:Type}(f:List Nat->Option α):∀(l:List (List Nat)),(∀k,k<l.length->f (l[k]?.getD [])=none)->l.findSome? f=none:=fun l h=>by
 rw[List.findSome?_eq_none_iff]
 intro x hx
 obtain⟨i,hi,rfl⟩:=List.getElem_of_mem hx
 have:=h i hi
 rwa [List.getElem?_eq_getElem hi] at this
theorem Pe {α:Type}(f:List Nat->Option α) (r:α):∀(l:List (List Nat)) (i:Nat),i<l.length->(∀k,k<i->f (l[k]?.getD [])=none)->f (l[i]?.getD [])=some r->l.findSome? f=some r
 |x::l,0,_,_,h=>by
  have h':f x=some r:=h
  rw[List.findSome?_cons,h']
 |x::l,i+1,hi,hn,h=>by
  have h0:f x=none:=hn 0 (by omega)
  rw[List.findSome?_cons,h0]
  exact Pe f r l i (by simpa using hi) (fun k hk=>hn (k+1) (by omega)) h
theorem GF:ni []=[]:=rfl
theorem PW {l:List Nat}(h:l≠[]):¬ni l=[]:=by cases l<;>simp_all[ni]
theorem Oj {α:Type}(l:List α):l=[]\/l≠[]:=by cases l<;>simp
attribute [local irreducible] IntKind.wrap Ai Option.getD and or
theorem Ob (L P:Nat) (n1 n2:Bool) (w:List F) (mk:List Nat) (hL:L<=15) (hL1:1<=L) (hP:1<=P) (hP2:P<=8) (hw:w.length=L) (hm:XV L mk) :
  BR E0 K7 [QC L P,.list n1 (Aa (iv w)),.list n2 (Aa (ni mk))] (r9 (GK L P w mk)):=by
 have hml:=UL hm
 refine AM Oy Af (by simp) fun hwf=>?_
 rw[AQ];unfold Jc
 by_cases hov:P<mk.length
 ·have hov':(P:Int)<(mk.length:Int):=by omega
  rw[iL hov,R1,A4]
  (try (simp -implicitDefEqProofs only[go_sem,hov']));repeat' first|(with_reducible first|exact tI|refine aI ?_ ?_|intro _|refine AJ ?_ ?_<;>intro _<;>try simp -implicitDefEqProofs only[go_sem,hov'])|simp (disch:=omega) only[Ad]|((with_reducible apply Ab);exact rfl)
  all_goals first|rfl|(simp;done)|skip
 ·have hov':¬(P:Int)<(mk.length:Int):=by omega
  have hw1:IntKind.i64.wrap ((P:Int)-(mk.length:Int))=((P-mk.length:Nat):Int):=by rw[AZ _ (by omega)];omega
  have hd:Int.tdiv ((P-mk.length:Nat):Int) 2=(((P-mk.length)/2:Nat):Int):=Qn _ 2
  have hw2:IntKind.i64.wrap (((P-mk.length)/2:Nat):Int)=(((P-mk.length)/2:Nat):Int):=AZ _ (by omega)
  obtain⟨M,hM⟩:∃M,(P-mk.length)/2=M:=⟨_,rfl⟩
  have hM4:M<=4:=by omega
  rw[hM] at hd hw2
  rw[A4]
  (try (simp -implicitDefEqProofs only[go_sem,hov',hw1,hd,hw2]));repeat' first|(with_reducible first|exact tI|refine aI ?_ ?_|intro _|refine AJ ?_ ?_<;>intro _<;>try simp -implicitDefEqProofs only[go_sem,hov',hw1,hd,hw2])|simp (disch:=omega) only[Ad]|((with_reducible apply Ab);exact rfl)
  all_goals first|omega|(simp<;>omega)|skip
  refine AU (α:=Nat) (l0:=?l1) (m0:=?m1) (fun x=>[(9,.d (.int .i64 (x:Int)))]) (fun x=>[]) (fun x=>x<=M+1/\∀k,k<x->Ux L P w mk k=none) (fun x=>M+1-x) 0 ?h01 ?he1 ?he21 ?hI1 ?step1
  case h01=>(simp -implicitDefEqProofs only[go_sem];rfl)
  case he1=>rfl
  case he21=>rfl
  case' step1=>(rintro e hI;try dsimp only at hI)
  case' hI1=>try dsimp only
  ·exact⟨Nat.zero_le _,fun k hk=>absurd hk (by omega)⟩
  ·obtain⟨h1,h2⟩:=hI
   by_cases h:e<=M
   ·have h':(e:Int)<=(M:Int):=by omega
    have hwe:IntKind.i64.wrap ((e:Int)+1)=((e+1:Nat):Int):=by rw[AZ _ (by omega)];omega
    have c1:=KI L P n2 mk hL e 0 (by omega) (by omega)
    rw[A4,show (((0:Nat)):Int)=0 from rfl] at c1
    have hRl:=NE L mk hL (show e<=6 by omega) 0
    have hsp:=fun l hl=>Gg L mk e 0 l hl
    have hE:Ux L P w mk e=(BC L mk e 0).findSome? (hit L P w mk):=rfl
    obtain⟨R,hR⟩:∃R,BC L mk e 0=R:=⟨_,rfl⟩
    rw[hR] at c1 hRl hsp hE
    (try (simp -implicitDefEqProofs only[go_sem,h']));repeat' first|(with_reducible first|exact tI|refine aI ?_ ?_|intro _)|((first|with_reducible refine AJ ?_ ?_<;>intro _|(with_reducible refine isCall ?_);first|refine AE c1 ?_)<;>try (simp -implicitDefEqProofs only[go_sem,h']))|simp (disch:=omega) only[Ad]|((with_reducible apply Ab);exact rfl)
    all_goals first|omega|(simp<;>omega)|skip
    refine AU (α:=Nat) (l0:=?l2) (m0:=?m2) (fun x=>[(11,.d (.int .i64 (x:Int)))]) (fun x=>[]) (fun x=>x<=R.length/\∀k,k<x->hit L P w mk (R[k]?.getD [])=none) (fun x=>R.length-x) 0 ?h02 ?he2 ?he22 ?hI2 ?step2
    case h02=>(simp -implicitDefEqProofs only[go_sem];rfl)
    case he2=>rfl
    case he22=>rfl
    case' step2=>(rintro i hI2;try dsimp only at hI2)
    case' hI2=>try dsimp only
    ·exact⟨Nat.zero_le _,fun k hk=>absurd hk (by omega)⟩
    ·obtain⟨i1,i2⟩:=hI2
     by_cases hi:i<R.length
     ·have hi':(i:Int)<(R.length:Int):=by omega
      have hwi:IntKind.i64.wrap ((i:Int)+1)=((i+1:Nat):Int):=by rw[AZ _ (by omega)];omega
      have hmem:(R[i]?.getD [])∈R:=by rw[List.getElem?_eq_getElem hi,Option.getD_some];exact List.getElem_mem hi
      obtain⟨s1,s2⟩:=hsp _ hmem
      have hnow:=fun r=>Pe (hit L P w mk) r R i
      obtain⟨l,hl⟩:∃l,R[i]?.getD []=l:=⟨_,rfl⟩
      rw[hl] at s1 s2
      have hpos:=QH hm s2
      have hAl:(mk++l).length<=P:=by rw[List.length_append];omega
      have hz:=lH hL hw hpos hAl
      have hzl:=Tl w (mk++l)
      have hwl:1<=w.length:=by omega
      obtain⟨A,hA⟩:∃A,mk++l=A:=⟨_,rfl⟩
      rw[hA] at hpos hAl hz hzl
      have c2:=fun b=>KH n1 b false w A (List.replicate A.length 0) (by omega) (by omega) (by simp) (fun j hj=>by rw[hw];exact hpos.lt j hj)
      have hZ:BX w A (List.replicate A.length 0)=dX w A:=rfl
      rw[hZ] at c2
      have c3:=fun b=>Pr L P false b (dX w A) A hL hL1 hP (by omega) (by omega) hpos hAl
      rw[A4] at c3
      have c4:=fun b v hv=>KH n1 b v.isEmpty w A v (by omega) (by omega) hv (fun j hj=>by rw[hw];exact hpos.lt j hj)
      rw[←UP] at c2
      rw[hl] at hnow
      obtain⟨O,hO⟩:∃O,Gl L P A (Fg L P (dX w A))=O:=⟨_,rfl⟩
      rw[hO] at c3 hz
      cases O with
      |none =>
       rw[OV] at c3
       rw[Option.map_none] at hz
       have hnx:∀k,k<i+1->hit L P w mk (R[k]?.getD [])=none:=fun k hk=>by
        rcases Nat.lt_succ_iff_lt_or_eq.1 hk with hk|rfl
        ·exact i2 k hk
        ·rw[hl];exact hz
       rcases Oj mk with rfl|e1
       ·rcases Oj l with rfl|e2
        ·have hA':[]=A:=hA
         subst hA'
         (try (simp -implicitDefEqProofs only[go_sem,hi',hwi,hl,hwl,hzl,GF]));repeat' first|(with_reducible first|exact tI|refine aI ?_ ?_|intro _)|((first|with_reducible refine AJ ?_ ?_<;>intro _|(with_reducible refine isCall ?_);first|refine AE (c2 _) ?_|refine AE (c3 _) ?_)<;>try (simp -implicitDefEqProofs only[go_sem,hi',hwi,hl,hwl,hzl,GF]))|simp (disch:=omega) only[Ad]|((with_reducible apply Ab);exact rfl)
         all_goals first|omega|(simp<;>omega)|skip
         all_goals first|exact hnx|exact hnx _ (by assumption)|skip
        ·have e2:=PW e2
         have hA':l=A:=hA
         subst hA'
         (try (simp -implicitDefEqProofs only[go_sem,hi',hwi,hl,hwl,hzl,GF,e2]));repeat' first|(with_reducible first|exact tI|refine aI ?_ ?_|intro _)|((first|with_reducible refine AJ ?_ ?_<;>intro _|(with_reducible refine isCall ?_);first|refine AE (c2 _) ?_|refine AE (c3 _) ?_)<;>try (simp -implicitDefEqProofs only[go_sem,hi',hwi,hl,hwl,hzl,GF,e2]))|simp (disch:=omega) only[Ad]|((with_reducible apply Ab);exact rfl)
         all_goals first|omega|(simp<;>omega)|skip
         all_goals first|exact hnx|exact hnx _ (by assumption)|skip
       ·rcases Oj l with rfl|e2
        ·have e1:=PW e1
         rw[List.append_nil] at hA
         subst hA
         (try (simp -implicitDefEqProofs only[go_sem,hi',hwi,hl,hwl,hzl,GF,e1]));repeat' first|(with_reducible first|exact tI|refine aI ?_ ?_|intro _)|((first|with_reducible refine AJ ?_ ?_<;>intro _|(with_reducible refine isCall ?_);first|refine AE (c2 _) ?_|refine AE (c3 _) ?_)<;>try (simp -implicitDefEqProofs only[go_sem,hi',hwi,hl,hwl,hzl,GF,e1]))|simp (disch:=omega) only[Ad]|((with_reducible apply Ab);exact rfl)
         all_goals first|omega|(simp<;>omega)|skip
         all_goals first|exact hnx|exact hnx _ (by assumption)|skip
        ·have e2:=PW e2
         have e1:=PW e1
         (try (simp -implicitDefEqProofs only[go_sem,hi',hwi,hl,hwl,hzl,e1,e2,hA]));repeat' first|(with_reducible first|exact tI|refine aI ?_ ?_|intro _)|((first|with_reducible refine AJ ?_ ?_<;>intro _|(with_reducible refine isCall ?_);first|refine AE (c2 _) ?_|refine AE (c3 _) ?_)<;>try (simp -implicitDefEqProofs only[go_sem,hi',hwi,hl,hwl,hzl,e1,e2,hA]))|simp (disch:=omega) only[Ad]|((with_reducible apply Ab);exact rfl)
         all_goals first|omega|(simp<;>omega)|skip
         all_goals first|exact hnx|exact hnx _ (by assumption)|skip
      |some v =>
       rw[OU] at c3
       rw[Option.map_some] at hz
       have hvl:=(IA hO).1
       replace c4:=fun b=>c4 b v hvl.symm
       have hfin:GK L P w mk=some (BX w A v):=Z5 h2 (by rw[hE];exact hnow _ hi i2 hz) (by omega)
       rw[hfin,Wx]
       rcases Oj mk with rfl|e1
       ·rcases Oj l with rfl|e2
        ·have hA':[]=A:=hA
         subst hA'
         (try (simp -implicitDefEqProofs only[go_sem,hi',hwi,hl,hwl,hzl,GF]));repeat' first|(with_reducible first|exact tI|refine aI ?_ ?_|intro _)|((first|with_reducible refine AJ ?_ ?_<;>intro _|(with_reducible refine isCall ?_);first|refine AE (c2 _) ?_|refine AE (c3 _) ?_|refine AE (c4 _) ?_)<;>try (simp -implicitDefEqProofs only[go_sem,hi',hwi,hl,hwl,hzl,GF]))|simp (disch:=omega) only[Ad]|((with_reducible apply Ab);exact rfl)
         all_goals first|omega|(simp<;>omega)|skip
         all_goals first|rfl|skip
        ·have e2:=PW e2
         have hA':l=A:=hA
         subst hA'
         (try (simp -implicitDefEqProofs only[go_sem,hi',hwi,hl,hwl,hzl,GF,e2]));repeat' first|(with_reducible first|exact tI|refine aI ?_ ?_|intro _)|((first|with_reducible refine AJ ?_ ?_<;>intro _|(with_reducible refine isCall ?_);first|refine AE (c2 _) ?_|refine AE (c3 _) ?_|refine AE (c4 _) ?_)<;>try (simp -implicitDefEqProofs only[go_sem,hi',hwi,hl,hwl,hzl,GF,e2]))|simp (disch:=omega) only[Ad]|((with_reducible apply Ab);exact rfl)
         all_goals first|omega|(simp<;>omega)|skip
         all_goals first|rfl|skip
       ·rcases Oj l with rfl|e2
        ·have e1:=PW e1
         rw[List.append_nil] at hA
         subst hA
         (try (simp -implicitDefEqProofs only[go_sem,hi',hwi,hl,hwl,hzl,GF,e1]));repeat' first|(with_reducible first|exact tI|refine aI ?_ ?_|intro _)|((first|with_reducible refine AJ ?_ ?_<;>intro _|(with_reducible refine isCall ?_);first|refine AE (c2 _) ?_|refine AE (c3 _) ?_|refine AE (c4 _) ?_)<;>try (simp -implicitDefEqProofs only[go_sem,hi',hwi,hl,hwl,hzl,GF,e1]))|simp (disch:=omega) only[Ad]|((with_reducible apply Ab);exact rfl)
         all_goals first|omega|(simp<;>omega)|skip
         all_goals first|rfl|skip
        ·have e2:=PW e2
         have e1:=PW e1
         (try (simp -implicitDefEqProofs only[go_sem,hi',hwi,hl,hwl,hzl,e1,e2,hA]));repeat' first|(with_reducible first|exact tI|refine aI ?_ ?_|intro _)|((first|with_reducible refine AJ ?_ ?_<;>intro _|(with_reducible refine isCall ?_);first|refine AE (c2 _) ?_|refine AE (c3 _) ?_|refine AE (c4 _) ?_)<;>try (simp -implicitDefEqProofs only[go_sem,hi',hwi,hl,hwl,hzl,e1,e2,hA]))|simp (disch:=omega) only[Ad]|((with_reducible apply Ab);exact rfl)
         all_goals first|omega|(simp<;>omega)|skip
         all_goals first|rfl|skip
     ·have hi':¬(i:Int)<(R.length:Int):=by omega
      have hno:∀k,k<e+1->Ux L P w mk k=none:=fun k hk=>by
       rcases Nat.lt_succ_iff_lt_or_eq.1 hk with hk|rfl
       ·exact h2 k hk
       ·rw[hE];exact Sl _ _ fun k hk=>i2 k (by omega)
      (try (simp -implicitDefEqProofs only[go_sem,hi',hwe]));repeat' first|(with_reducible first|exact tI|refine aI ?_ ?_|intro _|refine AJ ?_ ?_<;>intro _<;>try simp -implicitDefEqProofs only[go_sem,hi',hwe])|simp (disch:=omega) only[Ad]|((with_reducible apply Ab);exact rfl)
      all_goals first|omega|(simp<;>omega)|skip
      all_goals first|exact hno|exact hno _ (by assumption)|skip
   ·have h':¬(e:Int)<=(M:Int):=by omega
    rw[Wu h2 (by omega),R1]
    (try (simp -implicitDefEqProofs only[go_sem,h']));repeat' first|(with_reducible first|exact tI|refine aI ?_ ?_|intro _|refine AJ ?_ ?_<;>intro _<;>try simp -implicitDefEqProofs only[go_sem,h'])|simp (disch:=omega) only[Ad]|((with_reducible apply Ab);exact rfl)
    all_goals first|omega|(simp<;>omega)|skip
    all_goals first|rfl|skip
end
section
attribute [local irreducible] IntKind.wrap Ai Option.getD and or
def tE (L P:Int) (ws ms:List Int):Int:=if DY L P=true then if Bl ws L=true then if Cq ms L=true then 0 else 1 else 51 else 50
end
section
attribute [local irreducible] IntKind.wrap Ai Option.getD and or
end
theorem Up {q k j:Nat}(h:k<q):(j*q+k)/q=j:=by
 rw[Nat.mul_comm,Nat.mul_add_div (by omega),Nat.div_eq_of_lt h,Nat.add_zero]
theorem Rm {q k j:Nat}(h:k<q):(j*q+k)%q=k:=by
 rw[Nat.mul_comm,Nat.mul_add_mod,Nat.mod_eq_of_lt h]
theorem Pg {q k j m:Nat}(h:k<q) (hj:j<m):j*q+k<m*q:=by
 have:=Nat.mul_le_mul_right q (show j+1<=m by omega)
 rw[Nat.add_mul,Nat.one_mul] at this
 omega
theorem Ws (q i:Nat):i/q*q+i%q=i:=Nat.div_add_mod' i q
def Bw (m q k:Nat) (b:List F):List F:=(List.range m).map fun j=>b[j*q+k]?.getD 0
theorem Bn (m q k:Nat) (b:List F):(Bw m q k b).length=m:=by simp[Bw]
theorem IY {m q k:Nat}{b:List F}(j:Nat) (h:j<m):(Bw m q k b)[j]?.getD 0=b[j*q+k]?.getD 0:=by simp[Bw,h]
def GL (m q:Nat) (W:Nat->List F):List F:=(List.range (m*q)).map fun i=>(W (i%q))[i/q]?.getD 0
theorem F8 (m q:Nat) (W:Nat->List F):(GL m q W).length=m*q:=by simp[GL]
theorem SC {m q:Nat}{W:Nat->List F}(i:Nat) (h:i<m*q):(GL m q W)[i]?.getD 0=(W (i%q))[i/q]?.getD 0:=by simp[GL,h]
theorem SD {m q:Nat}(hq:0<q) {W V:Nat->List F}(h:∀k,k<q->W k=V k):GL m q W=GL m q V:=by
 unfold GL
 apply List.map_congr_left
 intro i hi
 rw[h _ (Nat.mod_lt _ hq)]
theorem ir {m q:Nat}(hq:0<q) {b:List F}(hb:b.length=m*q):GL m q (fun k=>Bw m q k b)=b:=by
 apply Wb
 ·rw[F8,hb]
 ·intro i hi
  rw[F8] at hi
  show (GL m q fun k=>Bw m q k b)[i]?.getD 0=b[i]?.getD 0
  rw[SC i hi,IY _ (Nat.div_lt_of_lt_mul (by rw[Nat.mul_comm];exact hi)),Ws]
def NS (q k:Nat) (ms:List Nat):List Nat:=(ms.filter fun i=>i%q == k).map (·/q)
theorem QM {m q k:Nat}(hq:0<q) {ms:List Nat}(h:XV (m*q) ms):XV m (NS q k ms):=by
 refine⟨?_,fun j hj=>?_⟩
 ·unfold NS
  rw[List.pairwise_map]
  refine List.Pairwise.imp_of_mem (fun {a b} ha hb hab=>?_) (h.asc.filter _)
  simp only[List.mem_filter,beq_iff_eq] at ha hb
  have e1:=Ws q a
  have e2:=Ws q b
  rcases Nat.lt_or_ge (a/q) (b/q) with h1|h1
  ·exact h1
  ·have:=Nat.mul_le_mul_right q h1
   omega
 ·simp only[NS,List.mem_map,List.mem_filter,beq_iff_eq] at hj
  obtain⟨i,⟨hi,_⟩,rfl⟩:=hj
  exact Nat.div_lt_of_lt_mul (by rw[Nat.mul_comm];exact h.lt i hi)
theorem Zq {q k j:Nat}(hk:k<q) {ms:List Nat}:j∈NS q k ms↔j*q+k∈ms:=by
 simp only[NS,List.mem_map,List.mem_filter,beq_iff_eq]
 constructor
 ·rintro⟨i,⟨h1,h2⟩,rfl⟩
  have:=Ws q i
  rw[h2] at this
  rwa [this]
 ·intro h
  exact⟨j*q+k,⟨h,Rm hk⟩,Up hk⟩
theorem WE (q k x:Nat) (ms:List Nat):NS q k (ms++[x])=if x%q=k then NS q k ms++[x/q] else NS q k ms:=by
 unfold NS
 rw[List.filter_append,List.map_append]
 by_cases h:x%q=k
 ·rw[if_pos h];simp[h]
 ·rw[if_neg h];simp[h]
def aV (L P q:Nat) (d:List F):List F:=GL L q fun k=>Hp P (Bw (L-P) q k d)
theorem ZR (L P q:Nat) (d:List F):(aV L P q d).length=L*q:=F8 ..
noncomputable def UV (L P q:Nat) (b:List F) (ms:List Nat) (k:Nat):Option (List F):=GK L P (Bw L q k b) (NS q k ms)
noncomputable def Zy (L P q:Nat) (b:List F) (ms:List Nat) (k:Nat):List F:=match UV L P q b ms k with
 |some r=>r.take (L-P)
 |none=>[]
theorem Nb {L P q:Nat}{b:List F}{ms:List Nat}{k:Nat}{r:List F}(h:UV L P q b ms k=some r):Zy L P q b ms k=r.take (L-P):=by
 unfold Zy;rw[h]
noncomputable def Zz (L P q:Nat) (b:List F) (ms:List Nat):Option (List F):=if ∀k,k<q->(UV L P q b ms k).isSome=true then some (GL (L-P) q (Zy L P q b ms)) else none
theorem Ra {L P q:Nat}{b:List F}{ms:List Nat}(h:∀k,k<q->(UV L P q b ms k).isSome=true):Zz L P q b ms=some (GL (L-P) q (Zy L P q b ms)):=by unfold Zz;rw[if_pos h]
theorem gO {L P q:Nat}{b:List F}{ms:List Nat}{k:Nat}(hk:k<q) (h:UV L P q b ms k=none):Zz L P q b ms=none:=by
 unfold Zz;rw[if_neg fun h2=>by have:=h2 k hk;rw[h] at this;cases this]
theorem Sc {L P q:Nat}(hL:L<=15) (hPL:P<L) (hq:0<q) {d R:List F}{ms:List Nat}(hd:d.length=(L-P)*q) (hR:R.length=L*q) (hm:XV (L*q) ms)
  (h:∀k,k<q->2*(QR L (Hp P (Bw (L-P) q k d)) (Bw L q k R) (NS q k ms)).length+(NS q k ms).length<=P):Zz L P q R ms=some d:=by
 have hO:∀k,k<q->UV L P q R ms k=some (Hp P (Bw (L-P) q k d)):=fun k hk=>by
  have hl:=Bn (L-P) q k d
  have hc:=iC P (Bw (L-P) q k d)
  rw[hl,show L-P+P=L by omega] at hc
  exact iK hL (Bn ..) (by rw[Ia,hl];omega) (QM hq hm) hc (h k hk)
 rw[Ra fun k hk=>by rw[hO k hk];rfl]
 congr 1
 rw[SD hq (V:=fun k=>Bw (L-P) q k d) fun k hk=>by
  rw[Nb (hO k hk)]
  unfold Hp
  rw[List.take_append_of_le_length (by rw[Bn];omega),List.take_of_length_le (by rw[Bn];omega)]]
 exact ir hq hd
def Gs:PC :=
 .seq (.reg [] (AD 3 .box 0::AG 6 .mov [.k (.d (.list true []))]::AL 7 0::[]) [1,2,3]) (.seq (.reg [] (AD 18 (.load true 3) 3::AA 19 1::AG 20 (.call 78) [.t 18,.t 19,.k (.fn 121 [])]::AA 17 20::Ar 21 0 17::Ar 22 1 17::AG 8 (.zero [.int .i64 0,.int .i64 0,.int .i64 0]) []::BB (.store 3) [.t 8,.t 21]::AA 9 22::[]) [1,2,8,9]) (.seq (.seq (.reg [] (AA 23 9::AK 24 (.bin .neq) 23 0::[]) [1,2,8,9,24]) (.cond (.t 24) (.seq (.reg [] (AA 25 9::AG 6 .mov [.k (.d (.list true []))]::AA 7 25::[]) [6,7]) (.ret)) (.skip))) (.seq (.seq (.reg [] (AA 26 2::AA 27 1::AD 28 (.len false) 27::AB 29 (.call 122) 26 28::AD 30 (.un .not) 29::[]) [1,2,8,30]) (.cond (.t 30) (.seq (.reg [] (AG 6 .mov [.k (.d (.list true []))]::AL 7 1::[]) [6,7]) (.ret)) (.skip))) (.seq (.reg [] (AG 10 .mov [.k (.d (.list true []))]::[]) [1,2,8,10]) (.seq (.seq (.reg [] (AR 31 2 8::AF 32 1 31::AL 33 0::[]) [1,2,8,10,32,33]) (.block 0 (.loop [.own 10 76 110 1] [1,2,8,10,32,33] [8,20,76,10020,900001,900002,901001,901002] (.seq (.reg [] (AB 34 (.bin .lss) 33 32::[]) [1,2,8,10,32,33,34]) (.seq (.cond (.t 34) (.skip) (.exit 0)) (.seq (.block 1 (.seq (.reg [] (AA 35 33::AA 11 35::[]) [1,2,8,10,11,32,33]) (.seq (.reg [] (AG 12 .mov [.k (.d (.list true []))]::[]) [1,2,8,10,11,12,32,33]) (.seq (.seq (.reg [] (AA 36 2::AD 37 (.len false) 36::AL 38 0::[]) [1,2,8,10,11,12,32,33,36,37,38]) (.block 2 (.loop [.own 10 76 110 1,.own 12 54 3 1] [1,2,8,10,11,12,32,33,36,37,38] [8,20,54,76,10020,900001,900002,901001,901002] (.seq (.reg [] (AB 39 (.bin .lss) 38 37::[]) [1,2,8,10,11,12,32,33,36,37,38,39]) (.seq (.cond (.t 39) (.skip) (.exit 2)) (.seq (.block 3 (.seq (.reg [] (AB 40 (.iaddrS 1) 36 38::AF 41 1 40::AA 14 41::[]) [1,2,8,10,11,12,14,32,33,36,37,38]) (.seq (.reg [] (AA 42 14::AR 43 2 8::AF 44 1 43::AB 45 (.bin .rem) 42 44::AA 46 11::AB 47 (.bin .eql) 45 46::[]) [1,2,8,10,11,12,14,32,33,36,37,38,47]) (.cond (.t 47) (.reg [] (AA 48 12::AA 49 14::AR 50 2 8::AF 51 1 50::AB 52 (.bin .quo) 49 51::AD 53 (.mkrow 1 (.int .i64 0) 1 [0]) 52::AB 54 (.app 3 1 none true) 48 53::AA 12 54::[]) [1,2,8,10,11,12,32,33,36,37,38]) (.skip))))) (.reg [] (AK 55 (.bin .add) 38 1::AA 38 55::[]) [1,2,8,10,11,12,32,33,36,37,38]))))))) (.seq (.draw [.freeze 12] ((AR 57 0 8,[])::(AD 58 (.load true 2) 57,[])::(AD 59 (.load true 3) 8,[])::(AA 60 1,[])::(AA 61 11,[])::(AG 62 (.call 81) [.t 59,.t 60,.t 61],[1])::(AA 63 12,[])::(AG 64 (.call 123) [.t 58,.t 62,.t 63],[])::(AA 56 64,[])::(Ar 65 0 56,[])::(Ar 66 1 56,[])::(AA 15 65,[])::(AA 16 66,[])::[]) [1,2,8,10,15,16,32,33]) (.seq (.seq (.reg [] (AA 67 16::AD 68 (.un .not) 67::[]) [1,2,8,10,15,32,33,68]) (.cond (.t 68) (.seq (.reg [] (AG 6 .mov [.k (.d (.list true []))]::AL 7 52::[]) [6,7]) (.ret)) (.skip))) (.reg [] (AA 69 10::AA 70 15::AR 71 0 8::AD 72 (.load true 2) 71::AD 73 (.call 79) 72::AB 74 (.slice 1 false true false) 70 73::AD 75 (.mkrow 1 (.list true []) 1 [0]) 74::AB 76 (.app 110 1 none true) 69 75::AA 10 76::[]) [1,2,8,10,32,33]))))))) (.reg [] (AK 77 (.bin .add) 33 1::AA 33 77::[]) [1,2,8,10,32,33]))))))) (.seq (.reg [.freeze 10] (AD 78 (.load true 3) 8::AA 79 10::AB 80 (.call 82) 78 79::AA 6 80::AL 7 0::[]) [6,7]) (.ret)))))))
theorem Lk:Bc E0 I2 Gs [.t 6,.t 7] 81:=AH (fl:=[]) (by kernel_rfl)
def II:PC :=
 .seq (.reg [] (AD 3 .box 0::AG 6 .mov [.k (.d (.list true []))]::AL 7 0::[]) [1,2,3]) (.seq (.seq (.reg [] (AD 16 (.load true 3) 3::AD 17 (.call 51) 16::AK 18 (.bin .neq) 17 0::[]) [1,2,3,18]) (.cond (.t 18) (.seq (.reg [] (AG 6 .mov [.k (.d (.list true []))]::AL 7 50::[]) [6,7]) (.ret)) (.skip))) (.seq (.seq (.reg [] (AA 19 1::AR 20 2 3::AF 21 1 20::AR 22 0 3::AR 23 0 22::AF 24 1 23::AB 25 (.bin .mul) 21 24::AB 26 (.call 37) 19 25::AD 27 (.un .not) 26::[]) [1,2,3,27]) (.cond (.t 27) (.seq (.reg [] (AG 6 .mov [.k (.d (.list true []))]::AL 7 51::[]) [6,7]) (.ret)) (.skip))) (.seq (.seq (.reg [] (AA 28 2::AA 29 1::AD 30 (.len false) 29::AB 31 (.call 98) 28 30::AD 32 (.un .not) 31::[]) [1,2,3,32]) (.cond (.t 32) (.seq (.reg [] (AG 6 .mov [.k (.d (.list true []))]::AL 7 1::[]) [6,7]) (.ret)) (.skip))) (.seq (.reg [] (AR 33 0 3::AR 34 0 33::AF 35 1 34::AR 36 0 3::AR 37 1 36::AF 38 1 37::AB 39 (.bin .sub) 35 38::AA 8 39::[]) [1,2,3,8]) (.seq (.reg [] (AR 40 2 3::AF 41 1 40::AA 42 8::AB 43 (.bin .mul) 41 42::AB 44 (.mksl 3 1 (.int .i64 0) true) 43 43::AA 9 44::[]) [1,2,3,8,9]) (.seq (.seq (.reg [] (AL 10 0::[]) [1,2,3,8,9,10]) (.block 0 (.loop [] [1,2,3,8,9,10] [3,44,10085,900000,900001,900002,901000,901001,901002] (.seq (.seq (.reg [] (AA 45 10::AR 46 2 3::AF 47 1 46::AB 48 (.bin .lss) 45 47::[]) [1,2,3,8,9,10,48]) (.cond (.t 48) (.skip) (.exit 0))) (.seq (.block 1 (.seq (.reg [] (AG 11 .mov [.k (.d (.list true []))]::[]) [1,2,3,8,9,10,11]) (.seq (.seq (.reg [] (AL 12 0::[]) [1,2,3,8,9,10,11,12]) (.block 2 (.loop [.own 11 75 3 1] [1,2,3,8,9,10,11,12] [3,44,75,10085,900000,900001,900002,901000,901001,901002] (.seq (.seq (.reg [] (AA 51 12::AA 52 2::AD 53 (.len false) 52::AB 54 (.bin .lss) 51 53::[]) [1,2,3,8,9,10,11,12,54]) (.cond (.t 54) (.skip) (.exit 2))) (.seq (.block 3 (.seq (.draw [] ((AA 57 2,[])::(AA 58 12,[])::(AB 59 (.iaddrS 1) 57 58,[])::(AF 60 1 59,[])::(AR 61 2 3,[])::(AF 62 1 61,[])::(AB 63 (.bin .rem) 60 62,[])::(AA 64 10,[])::(AB 65 (.bin .eql) 63 64,[])::[]) [1,2,3,8,9,10,11,12,65]) (.cond (.t 65) (.draw [] ((AA 66 11,[])::(AA 67 2,[])::(AA 68 12,[])::(AB 69 (.iaddrS 1) 67 68,[])::(AF 70 1 69,[])::(AR 71 2 3,[])::(AF 72 1 71,[])::(AB 73 (.bin .quo) 70 72,[])::(AD 74 (.mkrow 1 (.int .i64 0) 1 [0]) 73,[])::(AB 75 (.app 3 1 none true) 66 74,[])::(AA 11 75,[])::[]) [1,2,3,8,9,10,11,12]) (.skip)))) (.reg [] (AA 55 12::AK 56 (.bin .add) 55 1::AA 12 56::[]) [1,2,3,8,9,10,11,12])))))) (.seq (.draw [.freeze 11] ((AR 77 0 3,[])::(AD 78 (.load true 2) 77,[])::(AA 79 1,[])::(AR 80 2 3,[])::(AF 81 1 80,[])::(AA 82 10,[])::(AG 83 (.call 95) [.t 79,.t 81,.t 82],[1])::(AA 84 11,[])::(AG 85 (.call 99) [.t 78,.t 83,.t 84],[])::(AA 76 85,[])::(Ar 86 0 76,[])::(Ar 87 1 76,[])::(AA 13 86,[])::(AA 14 87,[])::[]) [1,2,3,8,9,10,13,14]) (.seq (.seq (.reg [] (AA 88 14::AD 89 (.un .not) 88::[]) [1,2,3,8,9,10,13,89]) (.cond (.t 89) (.seq (.reg [] (AG 6 .mov [.k (.d (.list true []))]::AL 7 52::[]) [6,7]) (.ret)) (.skip))) (.seq (.reg [] (AL 15 0::[]) [1,2,3,8,9,10,13,15]) (.block 4 (.loop [] [1,2,3,8,9,10,13,15] [3,44,85,10085,900000,900001,900002,901000,901001,901002] (.seq (.seq (.reg [] (AA 90 15::AA 91 8::AB 92 (.bin .lss) 90 91::[]) [1,2,3,8,9,10,13,15,92]) (.cond (.t 92) (.skip) (.exit 4))) (.seq (.block 5 (.draw [] ((AA 95 9,[])::(AA 96 15,[])::(AR 97 2 3,[])::(AF 98 1 97,[])::(AB 99 (.bin .mul) 96 98,[])::(AA 100 10,[])::(AB 101 (.bin .add) 99 100,[])::(AA 102 13,[])::(AA 103 15,[])::(AB 104 (.iaddrS 1) 102 103,[])::(AF 105 1 104,[])::(AB 106 (.iaddrS 1) 95 101,[])::(BB (.store 1) [.t 106,.t 105],[])::[]) [1,2,3,8,9,10,13,15])) (.reg [] (AA 93 15::AK 94 (.bin .add) 93 1::AA 15 94::[]) [1,2,3,8,9,10,13,15]))))))))))) (.reg [] (AA 49 10::AK 50 (.bin .add) 49 1::AA 10 50::[]) [1,2,3,8,9,10])))))) (.seq (.reg [] (AA 107 9::AA 6 107::AL 7 0::[]) [6,7]) (.ret))))))))
theorem Nj:Bc E0 K8 II [.t 6,.t 7] 108:=AH (fl:=[75]) (by kernel_rfl)
end Go.Pw
