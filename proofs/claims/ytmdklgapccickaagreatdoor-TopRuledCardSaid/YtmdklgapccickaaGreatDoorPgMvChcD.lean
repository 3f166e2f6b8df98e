/- A part of the proof. -/
import Derived.Test.YtmdklgapccickaaGreatDoorPgMvChcA
import Derived.Test.YtmdklgapccickaaGreatDoorMvChcSpec2
set_option linter.all false
open Go Go.Pw Go.Proofs
namespace Go.Pw
set_option maxRecDepth 100000
set_option maxHeartbeats 1600000
section
attribute [local congr] Bm BC BD Ak Bn Aq Au Ar Aj Af AY AU Am AZ BR BS BP Ao An Ad Ap Ae BH BZ Ab BM BN BI BJ BL BK BF BG BB Bq BE Al Aa Ba Ag Av BQ
attribute [local irreducible] IntKind.wrap A0 Option.getD and or
end
section
attribute [local congr] Bm BC BD Ak Bn Aq Au Ar Aj Af AY AU Am AZ BR BS BP Ao An Ad Ap Ae BH BZ Ab BM BN BI BJ BL BK BF BG BB Bq BE Al Aa Ba Ag Av BQ
attribute [local irreducible] IntKind.wrap A0 Option.getD and or
end
section
attribute [local congr] Bm BC BD Ak Bn Aq Au Ar Aj Af AY AU Am AZ BR BS BP Ao An Ad Ap Ae BH BZ Ab BM BN BI BJ BL BK BF BG BB Bq BE Al Aa Ba Ag Av BQ
attribute [local irreducible] IntKind.wrap A0 Option.getD and or
end
section
attribute [local congr] Bm BC BD Ak Bn Aq Au Ar Aj Af AY AU Am AZ BR BS BP Ao An Ad Ap Ae BH BZ Ab BM BN BI BJ BL BK BF BG BB Bq BE Al Aa Ba Ag Av BQ
attribute [local irreducible] IntKind.wrap A0 Option.getD and or
theorem Qv (c:GCode):Cc E0 M5 [Fo c] (.int .i64 (Iu c.ok 40)):=by
 refine AN Q7 Ay (by simp) fun hwf=>?_
 simp only[FL,Ea,EZ,EM,Fd,Fc,HI,Fb,CI,CX,CY,Eb,C9,List.length_map,CR,true_and,and_true,AR,AQ,Ax] at hwf
 have noHead:c.head=false->Iu c.ok 40=40:=fun h=>by simp[Iu,GCode.ok,h]
 rw[AP];unfold LO
 refine' Gb @AR @AQ @Ax;repeat' first|(refine' CQ;(first|refine AG (DQ _ _ _) ?_)<;>refine' Gb @AR @AQ @Ax)|refine' CP|done
 all_goals first|(rw[noHead (by cases hh:c.head;rfl;exfalso;simp only[GCode.head,DE,Bool.and_eq_true,decide_eq_true_eq,decide_eq_false_iff_not] at *;omega)];done)|skip
 have hh:c.head=true:=by simp only[GCode.head,DE,Bool.and_eq_true,decide_eq_true_eq,decide_eq_false_iff_not] at *;omega
 have ho:1<=c.out/\c.out<=5:=by simp_all[DE]
 have hb:1<=c.bits/\c.bits<=2:=by simp_all[DE]
 have hl:c.next.length=c.words.length:=by omega
 have h12:=Jt hb
 have hp1:=Ry (k:=c.out.toNat) (by omega)
 have hp2:=Rx c.out.toNat
 have bad:∀j,j<c.words.length->c.rowsOk j=false->Iu c.ok 40=40:=fun j hj h=>by rw[Iu,fS c hh j hj h];rfl
 refine B4 (α:=Int) (l0:=?l1) (m0:=?m1) (fun x=>[(3,.d (.int .i64 x))]) (fun x=>[]) (fun x=>0<=x/\x<=c.words.length/\∀(j:Nat),(j:Int)<x->c.rowsOk j=true) (fun x=>(c.words.length-x).toNat) ?a1_0 ?h01 ?he1 ?he21 ?hI1 ?step1
 case h01=>(simp -implicitDefEqProofs only[go_sem,AR,AQ,Ax];rfl)
 case he1=>rfl
 case he21=>rfl
 case' step1=>(rintro i hI;try dsimp only at hI)
 case' hI1=>try dsimp only
 ·simp;omega
 by_cases hi:i<c.words.length
 ·obtain⟨rw_,hrw⟩:∃r,c.words[i.toNat]?.getD default=r:=⟨_,rfl⟩
  obtain⟨rn,hrn⟩:∃r,c.next[i.toNat]?.getD default=r:=⟨_,rfl⟩
  have hrow:c.rowsOk i.toNat=(decide ((rw_.2.length:Int)=2^c.bits.toNat) && (rw_.2.all fun n=>DE n 0 (2^c.out.toNat-1)) && (decide ((rn.2.length:Int)=2^c.bits.toNat) && rn.2.all c.isState)):=by rw[PM,hrw,hrn]
  refine' MR @Ax @DF hrw hrn;repeat' first|(refine' CQ;(first|refine AG (DQ _ _ _) ?_)<;>refine' MR @Ax @DF hrw hrn)|refine' CP|done
  all_goals (try simp (disch:=omega) only[IE] at *)
  all_goals try exact Ca
  ·refine B4 (α:=Int) (l0:=?l2) (m0:=?m2) (fun x=>[(4,.d (.int .i64 x))]) (fun x=>[]) (fun x=>0<=x/\x<=rw_.2.length/\∀(j:Nat),(j:Int)<x->DE (rw_.2[j]?.getD 0) 0 (2^c.out.toNat-1)=true/\c.isState (rn.2[j]?.getD 0)=true) (fun x=>(rw_.2.length-x).toNat) ?a2_0 ?h02 ?he2 ?he22 ?hI2 ?step2
   case h02=>(simp -implicitDefEqProofs only[go_sem,AR,AQ,Ax];rfl)
   case he2=>rfl
   case he22=>rfl
   case' step2=>(rintro w hI2;try dsimp only at hI2)
   case' hI2=>try dsimp only
   ·simp;omega
   by_cases hw:w<rw_.2.length
   ·have hs:DE (rw_.2[w.toNat]?.getD 0) 0 (2^c.out.toNat-1)=true->c.isState (rn.2[w.toNat]?.getD 0)=true->∀(j:Nat),(j:Int)<w+1->DE (rw_.2[j]?.getD 0) 0 (2^c.out.toNat-1)=true/\c.isState (rn.2[j]?.getD 0)=true:=fun h1 h2 j hj=>by
     by_cases hjw:j=w.toNat
     ·subst hjw;exact⟨h1,h2⟩
     ·exact hI2.2.2 j (by omega)
    refine' MR @Ax @DF hrw hrn;repeat' first|(refine' CQ;(first|refine AG (DQ _ _ _) ?_)<;>refine' MR @Ax @DF hrw hrn)|refine' CP|done
    all_goals (try simp (disch:=omega) only[IE] at *)
    all_goals try exact Ca
    ·exact(hs (by assumption) (by show DE _ 0 _=true;assumption) _ (by assumption)).1
    ·exact(hs (by assumption) (by show DE _ 0 _=true;assumption) _ (by assumption)).2
    ·refine congrArg (D.int .i64) (bad i.toNat (by omega) ?_).symm
     rw[hrow,all_bad (l:=rn.2) (p:=c.isState) (j:=w.toNat) (by omega) (by show DE _ 0 _=false;assumption)];simp
    ·refine congrArg (D.int .i64) (bad i.toNat (by omega) ?_).symm
     rw[hrow,all_bad (l:=rw_.2) (p:=fun n=>DE n 0 (2^c.out.toNat-1)) (j:=w.toNat) (by omega) (by assumption)];simp
   ·have hT:rw_.2.length=2^c.bits.toNat->rn.2.length=2^c.bits.toNat->∀(j:Nat),(j:Int)<i+1->c.rowsOk j=true:=fun h1 h2 j hj=>by
     by_cases hji:j=i.toNat
     ·subst hji
      have e1:(rw_.2.length:Int)=2^c.bits.toNat:=by omega
      have e2:(rn.2.length:Int)=2^c.bits.toNat:=by omega
      rw[hrow,all_iff.2 fun k hk=>(hI2.2.2 k (by omega)).1,all_iff.2 fun k hk=>(hI2.2.2 k (by omega)).2,e1,e2];simp
     ·exact hI.2.2 j (by omega)
    refine' MR @Ax @DF hrw hrn;repeat' first|(refine' CQ;(first|refine AG (DQ _ _ _) ?_)<;>refine' MR @Ax @DF hrw hrn)|refine' CP|done
    all_goals (try simp (disch:=omega) only[IE] at *)
    all_goals try exact Ca
    exact hT (by omega) (by omega) _ (by assumption)
  all_goals (refine congrArg (D.int .i64) (bad i.toNat (by omega) ?_).symm;rw[hrow];simp_all;done)
 ·refine' K5 @Ax
  all_goals try exact Ca
  have:c.ok=true:=(ok_iff c hh).2 fun j hj=>hI.2.2 j (by omega)
  rw[Iu,this];rfl
end
section
attribute [local congr] Bm BC BD Ak Bn Aq Au Ar Aj Af AY AU Am AZ BR BS BP Ao An Ad Ap Ae BH BZ Ab BM BN BI BJ BL BK BF BG BB Bq BE Al Aa Ba Ag Av BQ
attribute [local irreducible] IntKind.wrap A0 Option.getD and or
def GCode.far (c:GCode):Bool:=decide (20<c.words.length) || decide (20<c.next.length) || c.words.any (fun r=>decide (20<r.2.length)) || c.next.any (fun r=>decide (20<r.2.length))
theorem VP {l:Rows}{p:Bool×List Int->Bool}:l.any p=false↔∀(j:Nat),j<l.length->p (l[j]?.getD default)=false:=by
 rw[List.any_eq_false]
 constructor
 ·intro h j hj;simpa using h _ (La hj)
 ·intro h x hx
  obtain⟨j,hj,rfl⟩:=List.getElem_of_mem hx
  have:=h j hj
  rw[List.getElem?_eq_getElem hj,Option.getD_some] at this
  simpa using this
theorem Z1 {l:Rows}{p:Bool×List Int->Bool}{j:Nat}(hj:j<l.length) (h:p (l[j]?.getD default)=true):l.any p=true:=by
 cases ha:l.any p with
 |true=>rfl
 |false=>rw[VP.1 ha j hj] at h;cases h
theorem S4 (c:GCode):Cc E0 Ql [Fo c] (.bool c.far):=by
 refine AN S' Ay (by simp) fun hwf=>?_
 simp only[FL,Ea,EZ,EM,Fd,Fc,HI,Fb,CI,CX,CY,Eb,C9,List.length_map,CR,true_and,and_true,AR,AQ,Ax] at hwf
 rw[AP];unfold N0
 refine' Pb @AR @AQ @Ax
 ·have:decide (20<c.words.length)=true:=by simp;omega
  simp only[GCode.far,this,Bool.true_or]
 ·have:decide (20<c.next.length)=true:=by simp;omega
  simp only[GCode.far,this,Bool.true_or,Bool.or_true]
 ·refine B4 (α:=Int) (l0:=?l1) (m0:=?m1) (fun x=>[(3,.d (.int .i64 x))]) (fun x=>[]) (fun x=>0<=x/\x<=c.words.length/\∀(j:Nat),(j:Int)<x->(c.words[j]?.getD default).2.length<=20) (fun x=>(c.words.length-x).toNat) ?a1_0 ?h01 ?he1 ?he21 ?hI1 ?step1
  case h01=>(simp -implicitDefEqProofs only[go_sem,AR,AQ,Ax];rfl)
  case he1=>rfl
  case he21=>rfl
  case' step1=>(rintro i hI;try dsimp only at hI)
  case' hI1=>try dsimp only
  ·simp;omega
  by_cases hi:i<c.words.length
  ·have hs:(c.words[i.toNat]?.getD default).2.length<=20->∀(j:Nat),(j:Int)<i+1->(c.words[j]?.getD default).2.length<=20:=fun h1 j hj=>by
    by_cases hji:j=i.toNat
    ·subst hji;exact h1
    ·exact hI.2.2 j (by omega)
   refine' Pc @Ax @DF
   all_goals (try simp (disch:=omega) only[IE] at *)
   all_goals try exact Ca
   ·have:=Z1 (l:=c.words) (p:=fun r=>decide (20<r.2.length)) (j:=i.toNat) (by omega) (by simp;omega)
    simp only[GCode.far,this,Bool.true_or,Bool.or_true]
   ·exact hs (by omega) _ (by assumption)
  ·have h1:c.words.any (fun r=>decide (20<r.2.length))=false:=VP.2 fun j hj=>by simpa using hI.2.2 j (by omega)
   refine' K5 @Ax
   all_goals try exact Ca
   refine B4 (α:=Int) (l0:=?l2) (m0:=?m2) (fun x=>[(4,.d (.int .i64 x))]) (fun x=>[]) (fun x=>0<=x/\x<=c.next.length/\∀(j:Nat),(j:Int)<x->(c.next[j]?.getD default).2.length<=20) (fun x=>(c.next.length-x).toNat) ?a2_0 ?h02 ?he2 ?he22 ?hI2 ?step2
   case h02=>(simp -implicitDefEqProofs only[go_sem,AR,AQ,Ax];rfl)
   case he2=>rfl
   case he22=>rfl
   case' step2=>(rintro k hI2;try dsimp only at hI2)
   case' hI2=>try dsimp only
   ·simp;omega
   by_cases hk:k<c.next.length
   ·have hs:(c.next[k.toNat]?.getD default).2.length<=20->∀(j:Nat),(j:Int)<k+1->(c.next[j]?.getD default).2.length<=20:=fun h1 j hj=>by
     by_cases hji:j=k.toNat
     ·subst hji;exact h1
     ·exact hI2.2.2 j (by omega)
    refine' Pc @Ax @DF
    all_goals (try simp (disch:=omega) only[IE] at *)
    all_goals try exact Ca
    ·have:=Z1 (l:=c.next) (p:=fun r=>decide (20<r.2.length)) (j:=k.toNat) (by omega) (by simp;omega)
     simp only[GCode.far,this,Bool.true_or,Bool.or_true]
    ·exact hs (by omega) _ (by assumption)
   ·have h2:c.next.any (fun r=>decide (20<r.2.length))=false:=VP.2 fun j hj=>by simpa using hI2.2.2 j (by omega)
    refine' K5 @Ax
    all_goals try exact Ca
    have h3:decide (20<c.words.length)=false:=by simp;omega
    have h4:decide (20<c.next.length)=false:=by simp;omega
    simp only[GCode.far,h1,h2,h3,h4];simp
def gO:GCode:=⟨1,2,1,3,false,[(false,[2,1]),(false,[0,1])],false,[(false,[0,1]),(false,[0,1])]⟩
theorem N8:Cc E0 Ko [] (Fo gO):=by
 refine AN OT Ay (by simp) fun hwf=>?_
 rw[AP];unfold JG
 refine' HO
 rfl
end
end Go.Pw
