/- Part. -/
import Derived.Test.YtmdklgapccickaaGreatDoorPgMvChcA
import Derived.Test.YtmdklgapccickaaGreatDoorMvChcSpec2
set_option linter.all false
open Option renaming getD->aa,getD_some->ck
open Bool renaming true_or->ax,or_true->ay,and_eq_true->az
open Go Go.Pw Go.Proofs
namespace Go.Pw
set_option maxRecDepth 100000
set_option maxHeartbeats 1600000
section
attribute [local irreducible] IntKind.wrap Ah aa and or
end
section
attribute [local irreducible] IntKind.wrap Ah aa and or
end
section
attribute [local irreducible] IntKind.wrap Ah aa and or
end
section
attribute [local irreducible] IntKind.wrap Ah aa and or
theorem T5(c:GCode):BU E0 PZ [Hz c] (.int .i64 (KG c.ok 40)):=by
 refine AL UE AR (by simp) fun y=>?_
 simp only[Eo,Dv,Du,Da,FE,FD,HI,FC,Bj,B0,B1,Dw,CO,List.length_map,Bq,true_and,and_true,An,Ak,BB]at y;have noHead:c.head=false->KG c.ok 40=40:=fun h=>by simp[KG,GCode.ok,h]
 rw[AN];unfold NK;refine' FA @An @Ak @BB;repeat' first|(refine' BJ;(first|refine AF (Dg _ _ _) ?_)<;>refine' FA @An @Ak @BB)|refine' BI|done
 all_goals first|(rw[noHead (by cases hh:c.head;rfl;exfalso;simp only[GCode.head,Cw,az,decide_eq_true_eq,decide_eq_false_iff_not]at *;omega)];done)|skip
 have hh:c.head=true:=by simp only[GCode.head,Cw,az,decide_eq_true_eq,decide_eq_false_iff_not]at *;omega
 have ho:1<=c.out/\c.out<=5:=by simp_all[Cw]
 have hb:1<=c.bits/\c.bits<=2:=by simp_all[Cw]
 have hl:c.next.length=c.words.length:=by omega
 have B:=P1 hb;have J:=VQ (k:=c.out.toNat) (by omega);have G:=VP c.out.toNat;have bad:∀j,j<c.words.length->c.rowsOk j=false->KG c.ok 40=40:=fun j q h=>by rw[KG,pC c hh j q h];rfl
 refine BN (α:=Int) (l0:=?l1) (m0:=?m1) (fun x=>[(3,.d (.int .i64 x))]) (fun x=>[]) (fun x=>0<=x/\x<=c.words.length/\∀(j:Nat),(j:Int)<x->c.rowsOk j=true) (fun x=>(c.words.length-x).toNat) ?a1_0 ?h01 ?he1 ?he21 ?hI1 ?step1
 case h01=>(simp -implicitDefEqProofs only[go_sem,An,Ak,BB];rfl)
 case he1=>rfl
 case he21=>rfl
 case' step1=>(rintro i u;try dsimp only at u)
 case' hI1=>try dsimp only
 ·simp;omega
 by_cases hi:i<c.words.length
 ·obtain⟨rw_,e⟩:∃r,c.words[i.toNat]?.getD default=r:=⟨_,rfl⟩
  obtain⟨rn,m⟩:∃r,c.next[i.toNat]?.getD default=r:=⟨_,rfl⟩
  have o:c.rowsOk i.toNat=(decide ((rw_.2.length:Int)=2^c.bits.toNat) && (rw_.2.all fun n=>Cw n 0 (2^c.out.toNat-1)) && (decide ((rn.2.length:Int)=2^c.bits.toNat) && rn.2.all c.isState)):=by rw[SZ,e,m]
  refine' Gj @BB @ES e m;repeat' first|(refine' BJ;(first|refine AF (Dg _ _ _) ?_)<;>refine' Gj @BB @ES e m)|refine' BI|done
  all_goals(try simp (disch:=omega)only[Jb]at *)
  all_goals try exact BL
  ·refine BN (α:=Int) (l0:=?l2) (m0:=?m2) (fun x=>[(4,.d (.int .i64 x))]) (fun x=>[]) (fun x=>0<=x/\x<=rw_.2.length/\∀(j:Nat),(j:Int)<x->Cw (rw_.2[j]?.getD 0) 0 (2^c.out.toNat-1)=true/\c.isState (rn.2[j]?.getD 0)=true) (fun x=>(rw_.2.length-x).toNat) ?a2_0 ?h02 ?he2 ?he22 ?hI2 ?step2
   case h02=>(simp -implicitDefEqProofs only[go_sem,An,Ak,BB];rfl)
   case he2=>rfl
   case he22=>rfl
   case' step2=>(rintro w hI2;try dsimp only at hI2)
   case' hI2=>try dsimp only
   ·simp;omega
   by_cases L:w<rw_.2.length
   ·have hs:Cw (rw_.2[w.toNat]?.getD 0) 0 (2^c.out.toNat-1)=true->c.isState (rn.2[w.toNat]?.getD 0)=true->∀(j:Nat),(j:Int)<w+1->Cw (rw_.2[j]?.getD 0) 0 (2^c.out.toNat-1)=true/\c.isState (rn.2[j]?.getD 0)=true:=fun h1 h2 j q=>by
     by_cases t:j=w.toNat
     ·subst t;exact⟨h1,h2⟩
     ·exact hI2.2.2 j (by omega)
    refine' Gj @BB @ES e m;repeat' first|(refine' BJ;(first|refine AF (Dg _ _ _) ?_)<;>refine' Gj @BB @ES e m)|refine' BI|done
    all_goals(try simp (disch:=omega)only[Jb]at *)
    all_goals try exact BL
    ·exact(hs (by assumption) (by show Cw _ 0 _=true;assumption) _ (by assumption)).1
    ·exact(hs (by assumption) (by show Cw _ 0 _=true;assumption) _ (by assumption)).2
    ·refine congrArg (D.int .i64) (bad i.toNat (by omega) ?_).symm;rw[o,all_bad (l:=rn.2) (p:=c.isState) (j:=w.toNat) (by omega) (by show Cw _ 0 _=false;assumption)];simp
    ·refine congrArg (D.int .i64) (bad i.toNat (by omega) ?_).symm;rw[o,all_bad (l:=rw_.2) (p:=fun n=>Cw n 0 (2^c.out.toNat-1)) (j:=w.toNat) (by omega) (by assumption)];simp
   ·have A:rw_.2.length=2^c.bits.toNat->rn.2.length=2^c.bits.toNat->∀(j:Nat),(j:Int)<i+1->c.rowsOk j=true:=fun h1 h2 j q=>by
     by_cases z:j=i.toNat
     ·subst z;have e1:(rw_.2.length:Int)=2^c.bits.toNat:=by omega
      have e2:(rn.2.length:Int)=2^c.bits.toNat:=by omega
      rw[o,all_iff.2 fun k hk=>(hI2.2.2 k (by omega)).1,all_iff.2 fun k hk=>(hI2.2.2 k (by omega)).2,e1,e2];simp
     ·exact u.2.2 j (by omega)
    refine' Gj @BB @ES e m;repeat' first|(refine' BJ;(first|refine AF (Dg _ _ _) ?_)<;>refine' Gj @BB @ES e m)|refine' BI|done
    all_goals(try simp (disch:=omega)only[Jb]at *)
    all_goals try exact BL
    exact A (by omega) (by omega) _ (by assumption)
  all_goals(refine congrArg (D.int .i64) (bad i.toNat (by omega) ?_).symm;rw[o];simp_all;done)
 ·refine' HM @BB
  all_goals try exact BL
  have:c.ok=true:=(ok_iff c hh).2 fun j q=>u.2.2 j (by omega)
  rw[KG,this];rfl
end
section
attribute [local irreducible] IntKind.wrap Ah aa and or
def GCode.far(c:GCode):Bool:=decide (20<c.words.length) || decide (20<c.next.length) || c.words.any (fun r=>decide (20<r.2.length)) || c.next.any (fun r=>decide (20<r.2.length))
theorem Zn{l:Rows}{p:Bool×List Int->Bool}:l.any p=false↔∀(j:Nat),j<l.length->p (l[j]?.getD default)=false:=by
 rw[List.any_eq_false];constructor
 ·intro h j e;simpa using h _ (Nf e)
 ·intro h x hx;obtain⟨j,e,rfl⟩:=List.getElem_of_mem hx;have:=h j e;rw[List.getElem?_eq_getElem e,ck]at this;simpa using this
theorem jM{l:Rows}{p:Bool×List Int->Bool}{j:Nat}(e:j<l.length)(h:p (l[j]?.getD default)=true):l.any p=true:=by
 cases ha:l.any p with
 |true=>rfl
 |false=>rw[Zn.1 ha j e]at h;cases h
theorem Wr(c:GCode):BU E0 Tu [Hz c] (.bool c.far):=by
 refine AL W4 AR (by simp) fun h=>?_
 simp only[Eo,Dv,Du,Da,FE,FD,HI,FC,Bj,B0,B1,Dw,CO,List.length_map,Bq,true_and,and_true,An,Ak,BB]at h;rw[AN];unfold Qt;refine' LV @An @Ak @BB
 ·have:decide (20<c.words.length)=true:=by simp;omega
  simp only[GCode.far,this,ax]
 ·have:decide (20<c.next.length)=true:=by simp;omega
  simp only[GCode.far,this,ax,ay]
 ·refine BN (α:=Int) (l0:=?l1) (m0:=?m1) (fun x=>[(3,.d (.int .i64 x))]) (fun x=>[]) (fun x=>0<=x/\x<=c.words.length/\∀(j:Nat),(j:Int)<x->(c.words[j]?.getD default).2.length<=20) (fun x=>(c.words.length-x).toNat) ?a1_0 ?h01 ?he1 ?he21 ?hI1 ?step1
  case h01=>(simp -implicitDefEqProofs only[go_sem,An,Ak,BB];rfl)
  case he1=>rfl
  case he21=>rfl
  case' step1=>(rintro i m;try dsimp only at m)
  case' hI1=>try dsimp only
  ·simp;omega
  by_cases hi:i<c.words.length
  ·have hs:(c.words[i.toNat]?.getD default).2.length<=20->∀(j:Nat),(j:Int)<i+1->(c.words[j]?.getD default).2.length<=20:=fun h1 j n=>by
    by_cases e:j=i.toNat
    ·subst e;exact h1
    ·exact m.2.2 j (by omega)
   refine' MX @BB @ES
   all_goals(try simp (disch:=omega)only[Jb]at *)
   all_goals try exact BL
   ·have:=jM (l:=c.words) (p:=fun r=>decide (20<r.2.length)) (j:=i.toNat) (by omega) (by simp;omega);simp only[GCode.far,this,ax,ay]
   ·exact hs (by omega) _ (by assumption)
  ·have h1:c.words.any (fun r=>decide (20<r.2.length))=false:=Zn.2 fun j n=>by simpa using m.2.2 j (by omega)
   refine' HM @BB
   all_goals try exact BL
   refine BN (α:=Int) (l0:=?l2) (m0:=?m2) (fun x=>[(4,.d (.int .i64 x))]) (fun x=>[]) (fun x=>0<=x/\x<=c.next.length/\∀(j:Nat),(j:Int)<x->(c.next[j]?.getD default).2.length<=20) (fun x=>(c.next.length-x).toNat) ?a2_0 ?h02 ?he2 ?he22 ?hI2 ?step2
   case h02=>(simp -implicitDefEqProofs only[go_sem,An,Ak,BB];rfl)
   case he2=>rfl
   case he22=>rfl
   case' step2=>(rintro k hI2;try dsimp only at hI2)
   case' hI2=>try dsimp only
   ·simp;omega
   by_cases hk:k<c.next.length
   ·have hs:(c.next[k.toNat]?.getD default).2.length<=20->∀(j:Nat),(j:Int)<k+1->(c.next[j]?.getD default).2.length<=20:=fun h1 j n=>by
     by_cases e:j=k.toNat
     ·subst e;exact h1
     ·exact hI2.2.2 j (by omega)
    refine' MX @BB @ES
    all_goals(try simp (disch:=omega)only[Jb]at *)
    all_goals try exact BL
    ·have:=jM (l:=c.next) (p:=fun r=>decide (20<r.2.length)) (j:=k.toNat) (by omega) (by simp;omega);simp only[GCode.far,this,ax,ay]
    ·exact hs (by omega) _ (by assumption)
   ·have h2:c.next.any (fun r=>decide (20<r.2.length))=false:=Zn.2 fun j n=>by simpa using hI2.2.2 j (by omega)
    refine' HM @BB
    all_goals try exact BL
    have q:decide (20<c.words.length)=false:=by simp;omega
    have o:decide (20<c.next.length)=false:=by simp;omega
    simp only[GCode.far,h1,h2,q,o];simp
def qe:GCode:=⟨1,2,1,3,false,[(false,[2,1]),(false,[0,1])],false,[(false,[0,1]),(false,[0,1])]⟩
theorem Q7:BU E0 Mk [] (Hz qe):=by
 refine AL Rd AR (by simp) fun e=>?_
 rw[AN];unfold Kn;refine' FP;rfl
end
end Go.Pw
