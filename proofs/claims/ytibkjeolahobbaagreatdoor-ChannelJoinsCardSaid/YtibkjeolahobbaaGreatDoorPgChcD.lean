/- A part of the proof. -/
import Derived.Test.YtibkjeolahobbaaGreatDoorPgChcA
import Derived.Test.YtibkjeolahobbaaGreatDoorChcSpec2
set_option linter.all false
open Go Go.Pw Go.Proofs
namespace Go.Pw
set_option maxRecDepth 100000
set_option maxHeartbeats 1600000
section
attribute [local irreducible] IntKind.wrap Ai Option.getD and or
end
section
attribute [local irreducible] IntKind.wrap Ai Option.getD and or
end
section
attribute [local irreducible] IntKind.wrap Ai Option.getD and or
end
section
attribute [local irreducible] IntKind.wrap Ai Option.getD and or
theorem Pt (c:AW):BR E0 ML [FE c] (.int .i64 (Kk c.ok 40)):=by
 refine AM P6 Af (by simp) fun hwf=>?_
 simp only[CU,Bu,Bt,Bq,Cd,Cc,Dt,Cb,A2,A9,A_,Bz,BG,List.length_map,BH,true_and,and_true,Au,Aq,Ao] at hwf
 have noHead:c.head=false->Kk c.ok 40=40:=fun h=>by simp[Kk,AW.ok,h]
 rw[AQ];unfold KT
 (try (simp -implicitDefEqProofs only[go_sem,Au,Aq,Ao]));repeat' first|(with_reducible first|exact tI|refine aI ?_ ?_|intro _)|((first|with_reducible refine AJ ?_ ?_<;>intro _|(with_reducible refine isCall ?_);first|refine AE (B7 _ _ _) ?_)<;>try (simp -implicitDefEqProofs only[go_sem,Au,Aq,Ao]))|simp (disch:=omega) only[Ad]|((with_reducible apply Ab);exact rfl)
 all_goals first|(rw[noHead (by cases hh:c.head;rfl;exfalso;simp only[AW.head,B_,Bool.and_eq_true,decide_eq_true_eq,decide_eq_false_iff_not] at *;omega)];done)|skip
 have hh:c.head=true:=by simp only[AW.head,B_,Bool.and_eq_true,decide_eq_true_eq,decide_eq_false_iff_not] at *;omega
 have ho:1<=c.out/\c.out<=5:=by simp_all[B_]
 have hb:1<=c.bits/\c.bits<=2:=by simp_all[B_]
 have hl:c.next.length=c.words.length:=by omega
 have h12:=Oi hb
 have hp1:=RM (k:=c.out.toNat) (by omega)
 have hp2:=RL c.out.toNat
 have bad:∀j,j<c.words.length->c.rowsOk j=false->Kk c.ok 40=40:=fun j hj h=>by rw[Kk,fL c hh j hj h];rfl
 refine AU (α:=Int) (l0:=?l1) (m0:=?m1) (fun x=>[(3,.d (.int .i64 x))]) (fun x=>[]) (fun x=>0<=x/\x<=c.words.length/\∀(j:Nat),(j:Int)<x->c.rowsOk j=true) (fun x=>(c.words.length-x).toNat) ?a1_0 ?h01 ?he1 ?he21 ?hI1 ?step1
 case h01=>(simp -implicitDefEqProofs only[go_sem,Au,Aq,Ao];rfl)
 case he1=>rfl
 case he21=>rfl
 case' step1=>(rintro i hI;try dsimp only at hI)
 case' hI1=>try dsimp only
 ·simp;omega
 by_cases hi:i<c.words.length
 ·obtain⟨rw_,hrw⟩:∃r,c.words[i.toNat]?.getD default=r:=⟨_,rfl⟩
  obtain⟨rn,hrn⟩:∃r,c.next[i.toNat]?.getD default=r:=⟨_,rfl⟩
  have hrow:c.rowsOk i.toNat=(decide ((rw_.2.length:Int)=2^c.bits.toNat) && (rw_.2.all fun n=>B_ n 0 (2^c.out.toNat-1)) && (decide ((rn.2.length:Int)=2^c.bits.toNat) && rn.2.all c.isState)):=by rw[OY,hrw,hrn]
  (try (simp -implicitDefEqProofs only[go_sem,Ao,B3,hrw,hrn]));repeat' first|(with_reducible first|exact tI|refine aI ?_ ?_|intro _)|((first|with_reducible refine AJ ?_ ?_<;>intro _|(with_reducible refine isCall ?_);first|refine AE (B7 _ _ _) ?_)<;>try (simp -implicitDefEqProofs only[go_sem,Ao,B3,hrw,hrn]))|simp (disch:=omega) only[Ad]|((with_reducible apply Ab);exact rfl)
  all_goals (try simp (disch:=omega) only[Ad] at *)
  all_goals first|omega|(simp<;>omega)|skip
  ·refine AU (α:=Int) (l0:=?l2) (m0:=?m2) (fun x=>[(4,.d (.int .i64 x))]) (fun x=>[]) (fun x=>0<=x/\x<=rw_.2.length/\∀(j:Nat),(j:Int)<x->B_ (rw_.2[j]?.getD 0) 0 (2^c.out.toNat-1)=true/\c.isState (rn.2[j]?.getD 0)=true) (fun x=>(rw_.2.length-x).toNat) ?a2_0 ?h02 ?he2 ?he22 ?hI2 ?step2
   case h02=>(simp -implicitDefEqProofs only[go_sem,Au,Aq,Ao];rfl)
   case he2=>rfl
   case he22=>rfl
   case' step2=>(rintro w hI2;try dsimp only at hI2)
   case' hI2=>try dsimp only
   ·simp;omega
   by_cases hw:w<rw_.2.length
   ·have hs:B_ (rw_.2[w.toNat]?.getD 0) 0 (2^c.out.toNat-1)=true->c.isState (rn.2[w.toNat]?.getD 0)=true->∀(j:Nat),(j:Int)<w+1->B_ (rw_.2[j]?.getD 0) 0 (2^c.out.toNat-1)=true/\c.isState (rn.2[j]?.getD 0)=true:=fun h1 h2 j hj=>by
     by_cases hjw:j=w.toNat
     ·subst hjw;exact⟨h1,h2⟩
     ·exact hI2.2.2 j (by omega)
    (try (simp -implicitDefEqProofs only[go_sem,Ao,B3,hrw,hrn]));repeat' first|(with_reducible first|exact tI|refine aI ?_ ?_|intro _)|((first|with_reducible refine AJ ?_ ?_<;>intro _|(with_reducible refine isCall ?_);first|refine AE (B7 _ _ _) ?_)<;>try (simp -implicitDefEqProofs only[go_sem,Ao,B3,hrw,hrn]))|simp (disch:=omega) only[Ad]|((with_reducible apply Ab);exact rfl)
    all_goals (try simp (disch:=omega) only[Ad] at *)
    all_goals first|omega|(simp<;>omega)|skip
    ·exact(hs (by assumption) (by show B_ _ 0 _=true;assumption) _ (by assumption)).1
    ·exact(hs (by assumption) (by show B_ _ 0 _=true;assumption) _ (by assumption)).2
    ·refine congrArg (D.int .i64) (bad i.toNat (by omega) ?_).symm
     rw[hrow,all_bad (l:=rn.2) (p:=c.isState) (j:=w.toNat) (by omega) (by show B_ _ 0 _=false;assumption)];simp
    ·refine congrArg (D.int .i64) (bad i.toNat (by omega) ?_).symm
     rw[hrow,all_bad (l:=rw_.2) (p:=fun n=>B_ n 0 (2^c.out.toNat-1)) (j:=w.toNat) (by omega) (by assumption)];simp
   ·have hT:rw_.2.length=2^c.bits.toNat->rn.2.length=2^c.bits.toNat->∀(j:Nat),(j:Int)<i+1->c.rowsOk j=true:=fun h1 h2 j hj=>by
     by_cases hji:j=i.toNat
     ·subst hji
      have e1:(rw_.2.length:Int)=2^c.bits.toNat:=by omega
      have e2:(rn.2.length:Int)=2^c.bits.toNat:=by omega
      rw[hrow,all_iff.2 fun k hk=>(hI2.2.2 k (by omega)).1,all_iff.2 fun k hk=>(hI2.2.2 k (by omega)).2,e1,e2];simp
     ·exact hI.2.2 j (by omega)
    (try (simp -implicitDefEqProofs only[go_sem,Ao,B3,hrw,hrn]));repeat' first|(with_reducible first|exact tI|refine aI ?_ ?_|intro _)|((first|with_reducible refine AJ ?_ ?_<;>intro _|(with_reducible refine isCall ?_);first|refine AE (B7 _ _ _) ?_)<;>try (simp -implicitDefEqProofs only[go_sem,Ao,B3,hrw,hrn]))|simp (disch:=omega) only[Ad]|((with_reducible apply Ab);exact rfl)
    all_goals (try simp (disch:=omega) only[Ad] at *)
    all_goals first|omega|(simp<;>omega)|skip
    exact hT (by omega) (by omega) _ (by assumption)
  all_goals (refine congrArg (D.int .i64) (bad i.toNat (by omega) ?_).symm;rw[hrow];simp_all;done)
 ·(try (simp -implicitDefEqProofs only[go_sem,Ao]));repeat' first|(with_reducible first|exact tI|refine aI ?_ ?_|intro _|refine AJ ?_ ?_<;>intro _<;>try simp -implicitDefEqProofs only[go_sem,Ao])|simp (disch:=omega) only[Ad]|((with_reducible apply Ab);exact rfl)
  all_goals first|omega|(simp<;>omega)|skip
  have:c.ok=true:=(X' c hh).2 fun j hj=>hI.2.2 j (by omega)
  rw[Kk,this];rfl
end
section
attribute [local irreducible] IntKind.wrap Ai Option.getD and or
def AW.far (c:AW):Bool:=decide (20<c.words.length) || decide (20<c.next.length) || c.words.any (fun r=>decide (20<r.2.length)) || c.next.any (fun r=>decide (20<r.2.length))
theorem QX {l:Rows}{p:Bool×List Int->Bool}:l.any p=false↔∀(j:Nat),j<l.length->p (l[j]?.getD default)=false:=by
 rw[List.any_eq_false]
 constructor
 ·intro h j hj;simpa using h _ (Kg hj)
 ·intro h x hx
  obtain⟨j,hj,rfl⟩:=List.getElem_of_mem hx
  have:=h j hj
  rw[List.getElem?_eq_getElem hj,Option.getD_some] at this
  simpa using this
theorem Z7 {l:Rows}{p:Bool×List Int->Bool}{j:Nat}(hj:j<l.length) (h:p (l[j]?.getD default)=true):l.any p=true:=by
 cases ha:l.any p with
 |true=>rfl
 |false=>rw[QX.1 ha j hj] at h;cases h
theorem Sk (c:AW):BR E0 Pn [FE c] (.bool c.far):=by
 refine AM Sr Af (by simp) fun hwf=>?_
 simp only[CU,Bu,Bt,Bq,Cd,Cc,Dt,Cb,A2,A9,A_,Bz,BG,List.length_map,BH,true_and,and_true,Au,Aq,Ao] at hwf
 rw[AQ];unfold NP
 (try (simp -implicitDefEqProofs only[go_sem,Au,Aq,Ao]));repeat' first|(with_reducible first|exact tI|refine aI ?_ ?_|intro _|refine AJ ?_ ?_<;>intro _<;>try simp -implicitDefEqProofs only[go_sem,Au,Aq,Ao])|simp (disch:=omega) only[Ad]|((with_reducible apply Ab);exact rfl)
 ·have:decide (20<c.words.length)=true:=by simp;omega
  simp only[AW.far,this,Bool.true_or]
 ·have:decide (20<c.next.length)=true:=by simp;omega
  simp only[AW.far,this,Bool.true_or,Bool.or_true]
 ·refine AU (α:=Int) (l0:=?l1) (m0:=?m1) (fun x=>[(3,.d (.int .i64 x))]) (fun x=>[]) (fun x=>0<=x/\x<=c.words.length/\∀(j:Nat),(j:Int)<x->(c.words[j]?.getD default).2.length<=20) (fun x=>(c.words.length-x).toNat) ?a1_0 ?h01 ?he1 ?he21 ?hI1 ?step1
  case h01=>(simp -implicitDefEqProofs only[go_sem,Au,Aq,Ao];rfl)
  case he1=>rfl
  case he21=>rfl
  case' step1=>(rintro i hI;try dsimp only at hI)
  case' hI1=>try dsimp only
  ·simp;omega
  by_cases hi:i<c.words.length
  ·have hs:(c.words[i.toNat]?.getD default).2.length<=20->∀(j:Nat),(j:Int)<i+1->(c.words[j]?.getD default).2.length<=20:=fun h1 j hj=>by
    by_cases hji:j=i.toNat
    ·subst hji;exact h1
    ·exact hI.2.2 j (by omega)
   (try (simp -implicitDefEqProofs only[go_sem,Ao,B3]));repeat' first|(with_reducible first|exact tI|refine aI ?_ ?_|intro _|refine AJ ?_ ?_<;>intro _<;>try simp -implicitDefEqProofs only[go_sem,Ao,B3])|simp (disch:=omega) only[Ad]|((with_reducible apply Ab);exact rfl)
   all_goals (try simp (disch:=omega) only[Ad] at *)
   all_goals first|omega|(simp<;>omega)|skip
   ·have:=Z7 (l:=c.words) (p:=fun r=>decide (20<r.2.length)) (j:=i.toNat) (by omega) (by simp;omega)
    simp only[AW.far,this,Bool.true_or,Bool.or_true]
   ·exact hs (by omega) _ (by assumption)
  ·have h1:c.words.any (fun r=>decide (20<r.2.length))=false:=QX.2 fun j hj=>by simpa using hI.2.2 j (by omega)
   (try (simp -implicitDefEqProofs only[go_sem,Ao]));repeat' first|(with_reducible first|exact tI|refine aI ?_ ?_|intro _|refine AJ ?_ ?_<;>intro _<;>try simp -implicitDefEqProofs only[go_sem,Ao])|simp (disch:=omega) only[Ad]|((with_reducible apply Ab);exact rfl)
   all_goals first|omega|(simp<;>omega)|skip
   refine AU (α:=Int) (l0:=?l2) (m0:=?m2) (fun x=>[(4,.d (.int .i64 x))]) (fun x=>[]) (fun x=>0<=x/\x<=c.next.length/\∀(j:Nat),(j:Int)<x->(c.next[j]?.getD default).2.length<=20) (fun x=>(c.next.length-x).toNat) ?a2_0 ?h02 ?he2 ?he22 ?hI2 ?step2
   case h02=>(simp -implicitDefEqProofs only[go_sem,Au,Aq,Ao];rfl)
   case he2=>rfl
   case he22=>rfl
   case' step2=>(rintro k hI2;try dsimp only at hI2)
   case' hI2=>try dsimp only
   ·simp;omega
   by_cases hk:k<c.next.length
   ·have hs:(c.next[k.toNat]?.getD default).2.length<=20->∀(j:Nat),(j:Int)<k+1->(c.next[j]?.getD default).2.length<=20:=fun h1 j hj=>by
     by_cases hji:j=k.toNat
     ·subst hji;exact h1
     ·exact hI2.2.2 j (by omega)
    (try (simp -implicitDefEqProofs only[go_sem,Ao,B3]));repeat' first|(with_reducible first|exact tI|refine aI ?_ ?_|intro _|refine AJ ?_ ?_<;>intro _<;>try simp -implicitDefEqProofs only[go_sem,Ao,B3])|simp (disch:=omega) only[Ad]|((with_reducible apply Ab);exact rfl)
    all_goals (try simp (disch:=omega) only[Ad] at *)
    all_goals first|omega|(simp<;>omega)|skip
    ·have:=Z7 (l:=c.next) (p:=fun r=>decide (20<r.2.length)) (j:=k.toNat) (by omega) (by simp;omega)
     simp only[AW.far,this,Bool.true_or,Bool.or_true]
    ·exact hs (by omega) _ (by assumption)
   ·have h2:c.next.any (fun r=>decide (20<r.2.length))=false:=QX.2 fun j hj=>by simpa using hI2.2.2 j (by omega)
    (try (simp -implicitDefEqProofs only[go_sem,Ao]));repeat' first|(with_reducible first|exact tI|refine aI ?_ ?_|intro _|refine AJ ?_ ?_<;>intro _<;>try simp -implicitDefEqProofs only[go_sem,Ao])|simp (disch:=omega) only[Ad]|((with_reducible apply Ab);exact rfl)
    all_goals first|omega|(simp<;>omega)|skip
    have h3:decide (20<c.words.length)=false:=by simp;omega
    have h4:decide (20<c.next.length)=false:=by simp;omega
    simp only[AW.far,h1,h2,h3,h4];simp
def gt:AW:=⟨1,2,1,3,false,[(false,[2,1]),(false,[0,1])],false,[(false,[0,1]),(false,[0,1])]⟩
theorem NX:BR E0 Jv [] (FE gt):=by
 refine AM Nm Af (by simp) fun hwf=>?_
 rw[AQ];unfold IL
 (try (simp -implicitDefEqProofs only[go_sem]));repeat' first|(with_reducible first|exact tI|refine aI ?_ ?_|intro _|refine AJ ?_ ?_<;>intro _<;>try simp -implicitDefEqProofs only[go_sem])|simp (disch:=omega) only[Ad]
 rfl
end
end Go.Pw
