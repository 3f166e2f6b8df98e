/- A part of the proof. -/
import Derived.Test.YtibkjeolahobbaaGreatDoorPgChJ
set_option linter.all false
section
open Go Go.Pw Go.Proofs
namespace Go.Pw
set_option linter.unusedSimpArgs false
set_option linter.unusedVariables false
set_option maxRecDepth 100000
set_option maxHeartbeats 3200000
def Xu:AX:={ code:=dP,L:=3,P:=2,Q:=1,nm:=false,mark:=[1,1,1,0],seed:=1,errs:=0 }
def gy:List Int:=[1,1,1,0,1,0,1,0,1,0,0,1,1,0,1,0,1,0,0,1,1,0,1,0,0,1,0,0]
theorem P3:Xu.ok=true:=by decide +kernel
theorem jH:aM Xu [1]=gy:=by decide +kernel
theorem dR:spE Xu.L Xu.P Xu.Q [1]=0:=by decide +kernel
theorem kc:d7 Xu=1:=by decide +kernel
theorem kb:Nq gy=true:=by decide +kernel
theorem dQ:UH Xu gy=.tup [.list false (Ai [1]),.int .i64 0,.int .i64 0]:=by
 obtain⟨h1,h2,h3⟩:=bT (FU P3) dR []
 have hw:=jH
 unfold aM at hw
 rw [if_pos P3,if_pos dR] at hw
 rw [hw,List.append_nil] at h1 h2 h3
 unfold UH Rc UJ UI
 simp only [P3,kb,if_true,h1,h2,h3]
 rfl
attribute [local congr] Bh A_ A' Ap Bi Av Ax Aw Ao Ah Ab AZ Ar Ac As BI BM BK BL BJ BN BF Af Au Ag BD BQ Ae BG BH BE BB BC A9 BA Aq Ad
attribute [local irreducible] IntKind.wrap A5 Option.getD and or
theorem Mo:CF E0 Jk [] (.tup [FT Xu,.list false (Ai gy)]):=by
 have c1:=Mp
 refine AO M7 Am (by simp) fun hwf=>?_
 rw [AW];unfold II
 (try (simp -implicitDefEqProofs only [go_sem,A6,A2]));repeat' first|(with_reducible first|exact True.intro|refine And.intro ?_ ?_|intro _)|(((with_reducible refine isCall ?_);first|refine AF (c1) rfl ?_ ?_|refine AE (c1) rfl ?_|refine AB (c1) rfl ?_ ?_|refine AG (c1) rfl rfl ?_)<;>try (simp -implicitDefEqProofs only [go_sem,A6,A2]))|(((with_reducible refine AS ?_ ?_)<;>intro _)<;>try (simp -implicitDefEqProofs only [go_sem,A6,A2]))|simp (disch:=omega) only [AC,AH,AP,AJ,AD,AQ,AI,AA]
 all_goals first|rfl|skip
theorem Om:CF E0 Lm [] (.bool true):=by
 have c1:=Mo
 have c2:=Hl Xu false [1]
 have c3:=Ic Xu false gy
 have c4:=NR Xu
 have c5:=EN false false gy gy
 rw [decide_eq_true rfl] at c5
 have e1:kz Xu [1]=0:=by unfold kz;rw [if_pos P3,if_pos dR]
 have e2:=(KO P3).2
 rw [jH,e1] at c2
 rw [dQ] at c3
 rw [kc,e2] at c4
 obtain⟨W,hW⟩:∃W,gy=W:=⟨_,rfl⟩
 have hWe:gy.isEmpty=false:=rfl
 rw [hWe] at c2
 rw [hW] at c1 c2 c3 c5
 refine AO Ow Am (by simp) fun hwf=>?_
 rw [AW];unfold KJ
 have hc:FT Xu=.agg (VA Xu):=rfl
 (try (simp -implicitDefEqProofs only [go_sem,AL,AK,RQ]));repeat' first|(with_reducible first|exact True.intro|refine And.intro ?_ ?_|intro _)|(((with_reducible refine isCall ?_);first|refine AF (c1) rfl ?_ ?_|refine AE (c1) rfl ?_|refine AB (c1) rfl ?_ ?_|refine AG (c1) rfl rfl ?_|refine AF (c2) rfl ?_ ?_|refine AE (c2) rfl ?_|refine AB (c2) rfl ?_ ?_|refine AG (c2) rfl rfl ?_|refine AF (c3) rfl ?_ ?_|refine AE (c3) rfl ?_|refine AB (c3) rfl ?_ ?_|refine AG (c3) rfl rfl ?_|refine AF (c4) rfl ?_ ?_|refine AE (c4) rfl ?_|refine AB (c4) rfl ?_ ?_|refine AG (c4) rfl rfl ?_|refine AF (c5) rfl ?_ ?_|refine AE (c5) rfl ?_|refine AB (c5) rfl ?_ ?_|refine AG (c5) rfl rfl ?_)<;>try (simp -implicitDefEqProofs only [go_sem,AL,AK,RQ]))|(((with_reducible refine AS ?_ ?_)<;>intro _)<;>try (simp -implicitDefEqProofs only [go_sem,AL,AK,RQ]))|simp (disch:=omega) only [AC,AH,AP,AJ,AD,AQ,AI,AA]
 all_goals first|rfl|omega|(exfalso;rename_i h;exact h rfl)|skip
theorem JO (c:AX):CF E0 Lj [FT c] (.int .i64 (P7 c)):=by
 have c1:=Ok c.code
 have c2:=KD c.L c.P c.Q
 have c4:=No c.nm c.mark
 have c5:=IA c.seed 1 127
 have c6:=IA c.errs 0 16
 have e1:c.code.ok=false→Kb c.code.ok 40=40:=fun h=>by rw [h];rfl
 have e0:c.code.ok=true→Kb c.code.ok 40=0:=fun h=>by rw [h];rfl
 have no:(c.code.ok && (Ct c.L c.P c.Q && (decide (c.Q * c.L≤32) && (CZ c.mark && (Cj c.seed 1 127 && Cj c.errs 0 16)))))=false→P7 c=130:=fun h=>(I5 (by
  unfold AX.ok
  cases h1:c.code.ok<;>cases h2:Ct c.L c.P c.Q<;>cases h3:decide (c.Q * c.L≤32)<;>cases h4:CZ c.mark<;>cases h5:Cj c.seed 1 127<;>cases h6:Cj c.errs 0 16<;>simp_all)).2
 refine AO Ot Am (by simp) fun hwf=>?_
 rw [AW];unfold KG
 cases h1:c.code.ok with
 |false =>
  rw [no (by simp only [h1,Bool.false_and])];rw [e1 h1] at c1
  (try (simp -implicitDefEqProofs only [go_sem,AL,AK]));repeat' first|(with_reducible first|exact True.intro|refine And.intro ?_ ?_|intro _)|(((with_reducible refine isCall ?_);first|refine AF (c1) rfl ?_ ?_|refine AE (c1) rfl ?_|refine AB (c1) rfl ?_ ?_|refine AG (c1) rfl rfl ?_)<;>try (simp -implicitDefEqProofs only [go_sem,AL,AK]))|(((with_reducible refine AS ?_ ?_)<;>intro _)<;>try (simp -implicitDefEqProofs only [go_sem,AL,AK]))|simp (disch:=omega) only [AC,AH,AP,AJ,AD,AQ,AI,AA]|((with_reducible refine A4 ?_);refine⟨_,rfl,?_,?_⟩)
  all_goals first|rfl|skip
 |true =>
 rw [e0 h1] at c1
 cases h2:Ct c.L c.P c.Q with
 |false =>
  rw [no (by simp only [h1,h2,Bool.true_and,Bool.false_and])];rw [h2] at c2;simp only [Bool.false_eq_true,if_false] at c2
  (try (simp -implicitDefEqProofs only [go_sem,AL,AK]));repeat' first|(with_reducible first|exact True.intro|refine And.intro ?_ ?_|intro _)|(((with_reducible refine isCall ?_);first|refine AF (c1) rfl ?_ ?_|refine AE (c1) rfl ?_|refine AB (c1) rfl ?_ ?_|refine AG (c1) rfl rfl ?_|refine AF (c2) rfl ?_ ?_|refine AE (c2) rfl ?_|refine AB (c2) rfl ?_ ?_|refine AG (c2) rfl rfl ?_)<;>try (simp -implicitDefEqProofs only [go_sem,AL,AK]))|(((with_reducible refine AS ?_ ?_)<;>intro _)<;>try (simp -implicitDefEqProofs only [go_sem,AL,AK]))|simp (disch:=omega) only [AC,AH,AP,AJ,AD,AQ,AI,AA]|((with_reducible refine A4 ?_);refine⟨_,rfl,?_,?_⟩)
  all_goals first|rfl|skip
 |true =>
 rw [h2] at c2;simp only [if_true] at c2
 have c3:=ED c h2
 by_cases h3:c.Q * c.L≤32
 ·have h3':¬32 < c.Q * c.L:=by omega
  cases h4:CZ c.mark with
  |false =>
   rw [no (by simp only [h1,h2,h4,Bool.true_and,Bool.false_and,Bool.and_false])];rw [h4] at c4
   (try (simp -implicitDefEqProofs only [go_sem,AL,AK,h3']));repeat' first|(with_reducible first|exact True.intro|refine And.intro ?_ ?_|intro _)|(((with_reducible refine isCall ?_);first|refine AF (c1) rfl ?_ ?_|refine AE (c1) rfl ?_|refine AB (c1) rfl ?_ ?_|refine AG (c1) rfl rfl ?_|refine AF (c2) rfl ?_ ?_|refine AE (c2) rfl ?_|refine AB (c2) rfl ?_ ?_|refine AG (c2) rfl rfl ?_|refine AF (c3) rfl ?_ ?_|refine AE (c3) rfl ?_|refine AB (c3) rfl ?_ ?_|refine AG (c3) rfl rfl ?_|refine AF (c4) rfl ?_ ?_|refine AE (c4) rfl ?_|refine AB (c4) rfl ?_ ?_|refine AG (c4) rfl rfl ?_)<;>try (simp -implicitDefEqProofs only [go_sem,AL,AK,h3']))|(((with_reducible refine AS ?_ ?_)<;>intro _)<;>try (simp -implicitDefEqProofs only [go_sem,AL,AK,h3']))|simp (disch:=omega) only [AC,AH,AP,AJ,AD,AQ,AI,AA]|((with_reducible refine A4 ?_);refine⟨_,rfl,?_,?_⟩)
   all_goals first|rfl|skip
  |true =>
  rw [h4] at c4
  cases h5:Cj c.seed 1 127 with
  |false =>
   rw [no (by simp only [h1,h2,h4,h5,Bool.true_and,Bool.false_and,Bool.and_false])];rw [h5] at c5
   (try (simp -implicitDefEqProofs only [go_sem,AL,AK,h3']));repeat' first|(with_reducible first|exact True.intro|refine And.intro ?_ ?_|intro _)|(((with_reducible refine isCall ?_);first|refine AF (c1) rfl ?_ ?_|refine AE (c1) rfl ?_|refine AB (c1) rfl ?_ ?_|refine AG (c1) rfl rfl ?_|refine AF (c2) rfl ?_ ?_|refine AE (c2) rfl ?_|refine AB (c2) rfl ?_ ?_|refine AG (c2) rfl rfl ?_|refine AF (c3) rfl ?_ ?_|refine AE (c3) rfl ?_|refine AB (c3) rfl ?_ ?_|refine AG (c3) rfl rfl ?_|refine AF (c4) rfl ?_ ?_|refine AE (c4) rfl ?_|refine AB (c4) rfl ?_ ?_|refine AG (c4) rfl rfl ?_|refine AF (c5) rfl ?_ ?_|refine AE (c5) rfl ?_|refine AB (c5) rfl ?_ ?_|refine AG (c5) rfl rfl ?_)<;>try (simp -implicitDefEqProofs only [go_sem,AL,AK,h3']))|(((with_reducible refine AS ?_ ?_)<;>intro _)<;>try (simp -implicitDefEqProofs only [go_sem,AL,AK,h3']))|simp (disch:=omega) only [AC,AH,AP,AJ,AD,AQ,AI,AA]|((with_reducible refine A4 ?_);refine⟨_,rfl,?_,?_⟩)
   all_goals first|rfl|skip
  |true =>
  rw [h5] at c5
  cases h6:Cj c.errs 0 16 with
  |false =>
   rw [no (by simp only [h1,h2,h4,h5,h6,Bool.true_and,Bool.false_and,Bool.and_false])];rw [h6] at c6
   (try (simp -implicitDefEqProofs only [go_sem,AL,AK,h3']));repeat' first|(with_reducible first|exact True.intro|refine And.intro ?_ ?_|intro _)|(((with_reducible refine isCall ?_);first|refine AF (c1) rfl ?_ ?_|refine AE (c1) rfl ?_|refine AB (c1) rfl ?_ ?_|refine AG (c1) rfl rfl ?_|refine AF (c2) rfl ?_ ?_|refine AE (c2) rfl ?_|refine AB (c2) rfl ?_ ?_|refine AG (c2) rfl rfl ?_|refine AF (c3) rfl ?_ ?_|refine AE (c3) rfl ?_|refine AB (c3) rfl ?_ ?_|refine AG (c3) rfl rfl ?_|refine AF (c4) rfl ?_ ?_|refine AE (c4) rfl ?_|refine AB (c4) rfl ?_ ?_|refine AG (c4) rfl rfl ?_|refine AF (c5) rfl ?_ ?_|refine AE (c5) rfl ?_|refine AB (c5) rfl ?_ ?_|refine AG (c5) rfl rfl ?_|refine AF (c6) rfl ?_ ?_|refine AE (c6) rfl ?_|refine AB (c6) rfl ?_ ?_|refine AG (c6) rfl rfl ?_)<;>try (simp -implicitDefEqProofs only [go_sem,AL,AK,h3']))|(((with_reducible refine AS ?_ ?_)<;>intro _)<;>try (simp -implicitDefEqProofs only [go_sem,AL,AK,h3']))|simp (disch:=omega) only [AC,AH,AP,AJ,AD,AQ,AI,AA]|((with_reducible refine A4 ?_);refine⟨_,rfl,?_,?_⟩)
   all_goals first|rfl|skip
  |true =>
  rw [h6] at c6
  have hok:Kd c.code 16=true→P7 c=0:=fun h=>(KO (by
   unfold AX.ok;rw [h1,h2,decide_eq_true h3,h4,h5,h6,h];simp only [Bool.and_self])).2
  have hnok:Kd c.code 16=false→P7 c=130:=fun h=>(I5 (by
   unfold AX.ok;rw [h,Bool.and_false,Bool.and_false,Bool.and_false,Bool.and_false,Bool.and_false,Bool.and_false])).2
  (try (simp -implicitDefEqProofs only [go_sem,AL,AK,h3']));repeat' first|(with_reducible first|exact True.intro|refine And.intro ?_ ?_|intro _)|(((with_reducible refine isCall ?_);first|refine AF (c1) rfl ?_ ?_|refine AE (c1) rfl ?_|refine AB (c1) rfl ?_ ?_|refine AG (c1) rfl rfl ?_|refine AF (c2) rfl ?_ ?_|refine AE (c2) rfl ?_|refine AB (c2) rfl ?_ ?_|refine AG (c2) rfl rfl ?_|refine AF (c3) rfl ?_ ?_|refine AE (c3) rfl ?_|refine AB (c3) rfl ?_ ?_|refine AG (c3) rfl rfl ?_|refine AF (c4) rfl ?_ ?_|refine AE (c4) rfl ?_|refine AB (c4) rfl ?_ ?_|refine AG (c4) rfl rfl ?_|refine AF (c5) rfl ?_ ?_|refine AE (c5) rfl ?_|refine AB (c5) rfl ?_ ?_|refine AG (c5) rfl rfl ?_|refine AF (c6) rfl ?_ ?_|refine AE (c6) rfl ?_|refine AB (c6) rfl ?_ ?_|refine AG (c6) rfl rfl ?_)<;>try (simp -implicitDefEqProofs only [go_sem,AL,AK,h3']))|(((with_reducible refine AS ?_ ?_)<;>intro _)<;>try (simp -implicitDefEqProofs only [go_sem,AL,AK,h3']))|simp (disch:=omega) only [AC,AH,AP,AJ,AD,AQ,AI,AA]|((with_reducible refine A4 ?_);refine⟨_,rfl,?_,?_⟩)
  all_goals first|omega|(simp;done)|(simp;omega)|skip
  refine AY (α:=Nat) (l0:=?l1) (m0:=?m1) (fun x=>[(3,.d (.int .i64 (x:Int)))]) (fun x=>[]) (fun x=>x≤16∧Kd c.code x=true) (fun x=>16 - x) 0 ?h01 ?he1 ?he21 ?hI1 ?step1
  case h01=>(simp -implicitDefEqProofs only [go_sem];rfl)
  case he1=>rfl
  case he21=>rfl
  case' step1=>(rintro s hI;try dsimp only at hI)
  case' hI1=>try dsimp only
  ·exact⟨Nat.zero_le _,rfl⟩
  ·obtain⟨i1,i2⟩:=hI
   by_cases hs:s < 16
   ·have hs':(s:Int) < 16:=by omega
    have hws:IntKind.i64.wrap ((s:Int)+1)=((s+1:Nat):Int):=by rw [AC _ (by omega)];omega
    have cs:=IB c h1 s hs
    (try (simp -implicitDefEqProofs only [go_sem,hs']));repeat' first|(with_reducible first|exact True.intro|refine And.intro ?_ ?_|intro _)|(((with_reducible refine AS ?_ ?_)<;>intro _)<;>try (simp -implicitDefEqProofs only [go_sem,hs']))|simp (disch:=omega) only [AC,AH,AP,AJ,AD,AQ,AI,AA]|((with_reducible refine A4 ?_);refine⟨_,rfl,?_,?_⟩)
    all_goals first|omega|(simp;done)|(simp;omega)|skip
    refine AY (α:=Nat) (l0:=?l2) (m0:=?m2) (fun x=>[(4,.d (.int .i64 (x:Int)))]) (fun x=>[]) (fun x=>x≤s∧∀j,j < x→c.code.stm j≠c.code.stm s) (fun x=>s - x) 0 ?h02 ?he2 ?he22 ?hI2 ?step2
    case h02=>(simp -implicitDefEqProofs only [go_sem];rfl)
    case he2=>rfl
    case he22=>rfl
    case' step2=>(rintro k hI2;try dsimp only at hI2)
    case' hI2=>try dsimp only
    ·exact⟨Nat.zero_le _,fun j hj=>by omega⟩
    ·obtain⟨k1,k2⟩:=hI2
     by_cases hk:k < s
     ·have hk':(k:Int) < (s:Int):=by omega
      have hwk:IntKind.i64.wrap ((k:Int)+1)=((k+1:Nat):Int):=by rw [AC _ (by omega)];omega
      have ck:=IB c h1 k (by omega)
      have c8:=EN false false (c.code.stm s) (c.code.stm k)
      by_cases he:c.code.stm k=c.code.stm s
      ·rw [decide_eq_true he.symm] at c8
       rw [hnok (db hs hk he)]
       (try (simp -implicitDefEqProofs only [go_sem,AL,AK,hk']));repeat' first|(with_reducible first|exact True.intro|refine And.intro ?_ ?_|intro _)|(((with_reducible refine isCall ?_);first|refine AF (cs) rfl ?_ ?_|refine AE (cs) rfl ?_|refine AB (cs) rfl ?_ ?_|refine AG (cs) rfl rfl ?_|refine AF (ck) rfl ?_ ?_|refine AE (ck) rfl ?_|refine AB (ck) rfl ?_ ?_|refine AG (ck) rfl rfl ?_|refine AF (c8) rfl ?_ ?_|refine AE (c8) rfl ?_|refine AB (c8) rfl ?_ ?_|refine AG (c8) rfl rfl ?_)<;>try (simp -implicitDefEqProofs only [go_sem,AL,AK,hk']))|(((with_reducible refine AS ?_ ?_)<;>intro _)<;>try (simp -implicitDefEqProofs only [go_sem,AL,AK,hk']))|simp (disch:=omega) only [AC,AH,AP,AJ,AD,AQ,AI,AA]|((with_reducible refine A4 ?_);refine⟨_,rfl,?_,?_⟩)
       all_goals first|omega|(simp;done)|(simp;omega)|skip
       all_goals first|rfl|skip
      ·rw [decide_eq_false fun e=>he e.symm] at c8
       (try (simp -implicitDefEqProofs only [go_sem,AL,AK,hk',hwk]));repeat' first|(with_reducible first|exact True.intro|refine And.intro ?_ ?_|intro _)|(((with_reducible refine isCall ?_);first|refine AF (cs) rfl ?_ ?_|refine AE (cs) rfl ?_|refine AB (cs) rfl ?_ ?_|refine AG (cs) rfl rfl ?_|refine AF (ck) rfl ?_ ?_|refine AE (ck) rfl ?_|refine AB (ck) rfl ?_ ?_|refine AG (ck) rfl rfl ?_|refine AF (c8) rfl ?_ ?_|refine AE (c8) rfl ?_|refine AB (c8) rfl ?_ ?_|refine AG (c8) rfl rfl ?_)<;>try (simp -implicitDefEqProofs only [go_sem,AL,AK,hk',hwk]))|(((with_reducible refine AS ?_ ?_)<;>intro _)<;>try (simp -implicitDefEqProofs only [go_sem,AL,AK,hk',hwk]))|simp (disch:=omega) only [AC,AH,AP,AJ,AD,AQ,AI,AA]|((with_reducible refine A4 ?_);refine⟨_,rfl,?_,?_⟩)
       all_goals first|omega|(simp;done)|(simp;omega)|skip
       rename_i j hj
       by_cases e:j=k
       ·rw [e];exact he
       ·exact k2 j (by omega)
     ·have hk':¬(k:Int) < (s:Int):=by omega
      have hds:=U4 i2 fun j hj=>k2 j (by omega)
      (try (simp -implicitDefEqProofs only [go_sem,hk',hws]));repeat' first|(with_reducible first|exact True.intro|refine And.intro ?_ ?_|intro _)|(((with_reducible refine AS ?_ ?_)<;>intro _)<;>try (simp -implicitDefEqProofs only [go_sem,hk',hws]))|simp (disch:=omega) only [AC,AH,AP,AJ,AD,AQ,AI,AA]|((with_reducible refine A4 ?_);refine⟨_,rfl,?_,?_⟩)
      all_goals first|omega|(simp;done)|(simp;omega)|skip
      all_goals first|rfl|skip
   ·have hs16:s=16:=by omega
    subst hs16
    rw [hok i2]
    (try (simp -implicitDefEqProofs only [go_sem]));repeat' first|(with_reducible first|exact True.intro|refine And.intro ?_ ?_|intro _)|(((with_reducible refine AS ?_ ?_)<;>intro _)<;>try (simp -implicitDefEqProofs only [go_sem]))|simp (disch:=omega) only [AC,AH,AP,AJ,AD,AQ,AI,AA]|((with_reducible refine A4 ?_);refine⟨_,rfl,?_,?_⟩)
    all_goals first|omega|(simp;done)|(simp;omega)|skip
    all_goals first|rfl|skip
 ·have h3':32 < c.Q * c.L:=by omega
  rw [no (by rw [decide_eq_false h3];simp only [h1,h2,Bool.true_and,Bool.false_and])]
  (try (simp -implicitDefEqProofs only [go_sem,AL,AK,h3']));repeat' first|(with_reducible first|exact True.intro|refine And.intro ?_ ?_|intro _)|(((with_reducible refine isCall ?_);first|refine AF (c1) rfl ?_ ?_|refine AE (c1) rfl ?_|refine AB (c1) rfl ?_ ?_|refine AG (c1) rfl rfl ?_|refine AF (c2) rfl ?_ ?_|refine AE (c2) rfl ?_|refine AB (c2) rfl ?_ ?_|refine AG (c2) rfl rfl ?_|refine AF (c3) rfl ?_ ?_|refine AE (c3) rfl ?_|refine AB (c3) rfl ?_ ?_|refine AG (c3) rfl rfl ?_)<;>try (simp -implicitDefEqProofs only [go_sem,AL,AK,h3']))|(((with_reducible refine AS ?_ ?_)<;>intro _)<;>try (simp -implicitDefEqProofs only [go_sem,AL,AK,h3']))|simp (disch:=omega) only [AC,AH,AP,AJ,AD,AQ,AI,AA]|((with_reducible refine A4 ?_);refine⟨_,rfl,?_,?_⟩)
  all_goals first|rfl|skip
end Go.Pw
end
section
open Go Go.Pw Go.Proofs
namespace Go.Pw
set_option linter.unusedSimpArgs false
set_option linter.unusedVariables false
set_option maxRecDepth 100000
set_option maxHeartbeats 3200000
def ZP (c:AX):Bool:=c.code.far || (decide (40 < (c.mark.length:Int)) || (decide (8 < c.Q) || (decide (15 < c.L) || (c.ok && decide (8 < c.Q * c.L)))))
def bU (c:AX) (d:List Int):Bool:=!ZP c && (c.ok && (decide (d.length≤100) && CG d (c.Q * (c.L - c.P))))
structure il (c:AX) (d:List Int):Prop where
 ok:c.ok=true
 nf:ZP c=false
 len:d.length≤100
 sym:CG d (c.Q * (c.L - c.P))=true
theorem jw {c:AX} {d:List Int} (h:bU c d=true):il c d:=by
 unfold bU at h
 simp only [Bool.and_eq_true,Bool.not_eq_true',decide_eq_true_eq] at h
 exact⟨h.2.1,h.1,h.2.2.1,h.2.2.2⟩
theorem il.spE {c:AX} {d:List Int} (h:il c d):spE c.L c.P c.Q d=0:=by
 unfold Go.Pw.spE
 rw [if_pos (FU h.ok).wev,if_pos h.sym]
theorem il.syms {c:AX} {d:List Int} (h:il c d):c.syms≤8:=by
 have h1:=h.nf
 have h2:=(FU h.ok).syms
 unfold ZP at h1
 rw [h.ok] at h1
 simp only [Bool.or_eq_false_iff,Bool.true_and,decide_eq_false_iff_not] at h1
 omega
theorem il.tot {c:AX} {d:List Int} (h:il c d):c.tot≤176:=by
 have h1:=h.syms
 have hk:=FU h.ok
 have h2:=Gt hk.code;have h3:=hk.markl
 have:c.syms * c.code.sz≤8 * 20:=Nat.mul_le_mul h1 h2.2
 unfold AX.tot;omega
theorem il.wr {c:AX} {d:List Int} (h:il c d):aM c d=I3 c (TN c.L c.P c.Q d)∧kz c d=0∧(aM c d).length=c.tot:=by
 have h1:aM c d=I3 c (TN c.L c.P c.Q d):=by unfold aM;rw [if_pos h.ok,if_pos h.spE]
 refine⟨h1,by unfold kz;rw [if_pos h.ok,if_pos h.spE],?_⟩
 rw [h1,XY,O8 (FU h.ok).wev h.spE];rfl
def XS (out:List Int) (f:Int):List Int:=if 0≤f∧f < out.length then out.set f.toNat (1 - out[f.toNat]?.getD 0) else out
def PW (out fl:List Int):List Int:=fl.foldl XS out
theorem fB (out:List Int) (f:Int):(XS out f).length=out.length:=by unfold XS;split<;>simp
theorem PV (fl:List Int):∀out:List Int,(PW out fl).length=out.length:=by
 induction fl with
 |nil=>intro out;rfl
 |cons f fl ih=>intro out;show (PW (XS out f) fl).length=_;rw [ih,fB]
theorem YK (out fl:List Int) (f:Int):PW out (fl++[f])=XS (PW out fl) f:=by simp [PW]
theorem ak {out:List Int} (h:Ak out=true) (f:Int):Ak (XS out f)=true:=by
 unfold XS
 split
 ·rename_i hf
  refine VK h _ ?_
  have:=ET h (i:=f.toNat) (by omega)
  simp only [Cj,decide_eq_true_eq];omega
 ·exact h
theorem RJ (fl:List Int):∀{out:List Int},Ak out=true→Ak (PW out fl)=true:=by
 induction fl with
 |nil=>intro out h;exact h
 |cons f fl ih=>intro out h;exact ih (ak h f)
attribute [local congr] Bh A_ A' Ap Bi Av Ax Aw Ao Ah Ab AZ Ar Ac As BI BM BK BL BJ BN BF Af Au Ag BD BQ Ae BG BH BE BB BC A9 BA Aq Ad
attribute [local irreducible] IntKind.wrap A5 Option.getD and or
theorem Qv (c:AX):CF E0 Oc [FT c] (.bool (ZP c)):=by
 have c1:=Qw c.code
 have c2:=JO c
 refine AO Q3 Am (by simp) fun hwf=>?_
 rw [AW];unfold Mf ZP
 obtain⟨fr,hfr⟩:∃fr,c.code.far=fr:=⟨_,rfl⟩
 rw [hfr] at c1 ⊢
 clear hfr
 rcases hok:c.ok with _|_
 ·rw [(I5 hok).2] at c2
  cases fr with
  |true =>
   (try (simp -implicitDefEqProofs only [go_sem,AL,AK]));repeat' first|(with_reducible first|exact True.intro|refine And.intro ?_ ?_|intro _)|(((with_reducible refine isCall ?_);first|refine AF (c1) rfl ?_ ?_|refine AE (c1) rfl ?_|refine AB (c1) rfl ?_ ?_|refine AG (c1) rfl rfl ?_|refine AF (c2) rfl ?_ ?_|refine AE (c2) rfl ?_|refine AB (c2) rfl ?_ ?_|refine AG (c2) rfl rfl ?_)<;>try (simp -implicitDefEqProofs only [go_sem,AL,AK]))|(((with_reducible refine AS ?_ ?_)<;>intro _)<;>try (simp -implicitDefEqProofs only [go_sem,AL,AK]))|simp (disch:=omega) only [AC,AH,AP,AJ,AD,AQ,AI,AA]
   all_goals first|rfl|(simp only [Bool.true_or];done)|skip
  |false =>
   (try (simp -implicitDefEqProofs only [go_sem,AL,AK]));repeat' first|(with_reducible first|exact True.intro|refine And.intro ?_ ?_|intro _)|(((with_reducible refine isCall ?_);first|refine AF (c1) rfl ?_ ?_|refine AE (c1) rfl ?_|refine AB (c1) rfl ?_ ?_|refine AG (c1) rfl rfl ?_|refine AF (c2) rfl ?_ ?_|refine AE (c2) rfl ?_|refine AB (c2) rfl ?_ ?_|refine AG (c2) rfl rfl ?_)<;>try (simp -implicitDefEqProofs only [go_sem,AL,AK]))|(((with_reducible refine AS ?_ ?_)<;>intro _)<;>try (simp -implicitDefEqProofs only [go_sem,AL,AK]))|simp (disch:=omega) only [AC,AH,AP,AJ,AD,AQ,AI,AA]
   all_goals first|rfl|(congr 1;symm;simp;omega)|skip
 ·rw [(KO hok).2] at c2
  have c3:=ED c (FU hok).wev
  cases fr with
  |true =>
   (try (simp -implicitDefEqProofs only [go_sem,AL,AK]));repeat' first|(with_reducible first|exact True.intro|refine And.intro ?_ ?_|intro _)|(((with_reducible refine isCall ?_);first|refine AF (c1) rfl ?_ ?_|refine AE (c1) rfl ?_|refine AB (c1) rfl ?_ ?_|refine AG (c1) rfl rfl ?_|refine AF (c2) rfl ?_ ?_|refine AE (c2) rfl ?_|refine AB (c2) rfl ?_ ?_|refine AG (c2) rfl rfl ?_|refine AF (c3) rfl ?_ ?_|refine AE (c3) rfl ?_|refine AB (c3) rfl ?_ ?_|refine AG (c3) rfl rfl ?_)<;>try (simp -implicitDefEqProofs only [go_sem,AL,AK]))|(((with_reducible refine AS ?_ ?_)<;>intro _)<;>try (simp -implicitDefEqProofs only [go_sem,AL,AK]))|simp (disch:=omega) only [AC,AH,AP,AJ,AD,AQ,AI,AA]
   all_goals first|rfl|(simp only [Bool.true_or];done)|skip
  |false =>
   (try (simp -implicitDefEqProofs only [go_sem,AL,AK]));repeat' first|(with_reducible first|exact True.intro|refine And.intro ?_ ?_|intro _)|(((with_reducible refine isCall ?_);first|refine AF (c1) rfl ?_ ?_|refine AE (c1) rfl ?_|refine AB (c1) rfl ?_ ?_|refine AG (c1) rfl rfl ?_|refine AF (c2) rfl ?_ ?_|refine AE (c2) rfl ?_|refine AB (c2) rfl ?_ ?_|refine AG (c2) rfl rfl ?_|refine AF (c3) rfl ?_ ?_|refine AE (c3) rfl ?_|refine AB (c3) rfl ?_ ?_|refine AG (c3) rfl rfl ?_)<;>try (simp -implicitDefEqProofs only [go_sem,AL,AK]))|(((with_reducible refine AS ?_ ?_)<;>intro _)<;>try (simp -implicitDefEqProofs only [go_sem,AL,AK]))|simp (disch:=omega) only [AC,AH,AP,AJ,AD,AQ,AI,AA]
   all_goals first|rfl|(congr 1;symm;simp;omega)|skip
theorem On (c:AX) (nl:Bool) (d:List Int):CF E0 Ln [FT c,.list nl (Ai d)] (.bool (bU c d)):=by
 have c1:=Qv c
 have c2:=JO c
 refine AO Ox Am (by simp) fun hwf=>?_
 rw [AW];unfold KK bU
 obtain⟨fr,hfr⟩:∃fr,ZP c=fr:=⟨_,rfl⟩
 rw [hfr] at c1 ⊢
 clear hfr
 cases fr with
 |true =>
  (try (simp -implicitDefEqProofs only [go_sem,AL,AK]));repeat' first|(with_reducible first|exact True.intro|refine And.intro ?_ ?_|intro _)|(((with_reducible refine isCall ?_);first|refine AF (c1) rfl ?_ ?_|refine AE (c1) rfl ?_|refine AB (c1) rfl ?_ ?_|refine AG (c1) rfl rfl ?_)<;>try (simp -implicitDefEqProofs only [go_sem,AL,AK]))|(((with_reducible refine AS ?_ ?_)<;>intro _)<;>try (simp -implicitDefEqProofs only [go_sem,AL,AK]))|simp (disch:=omega) only [AC,AH,AP,AJ,AD,AQ,AI,AA]
  all_goals first|rfl|(simp only [Bool.not_true,Bool.false_and];done)|skip
 |false =>
  rcases hok:c.ok with _|_
  ·rw [(I5 hok).2] at c2
   (try (simp -implicitDefEqProofs only [go_sem,AL,AK]));repeat' first|(with_reducible first|exact True.intro|refine And.intro ?_ ?_|intro _)|(((with_reducible refine isCall ?_);first|refine AF (c1) rfl ?_ ?_|refine AE (c1) rfl ?_|refine AB (c1) rfl ?_ ?_|refine AG (c1) rfl rfl ?_|refine AF (c2) rfl ?_ ?_|refine AE (c2) rfl ?_|refine AB (c2) rfl ?_ ?_|refine AG (c2) rfl rfl ?_)<;>try (simp -implicitDefEqProofs only [go_sem,AL,AK]))|(((with_reducible refine AS ?_ ?_)<;>intro _)<;>try (simp -implicitDefEqProofs only [go_sem,AL,AK]))|simp (disch:=omega) only [AC,AH,AP,AJ,AD,AQ,AI,AA]
   all_goals first|rfl|(simp only [Bool.false_and,Bool.and_false];done)|skip
  ·rw [(KO hok).2] at c2
   have hb:=SC (FU hok).wev
   have w1:IntKind.i64.wrap (c.L - c.P)=c.L - c.P:=AC _ (by omega)
   have w2:IntKind.i64.wrap (c.Q * (c.L - c.P))=c.Q * (c.L - c.P):=AC _ (by
    have h1:0≤c.Q * (c.L - c.P):=Int.mul_nonneg (by omega) (by omega)
    have h2:c.Q * (c.L - c.P)≤8 * 15:=Int.mul_le_mul (by omega) (by omega) (by omega) (by omega)
    omega)
   have c3:=KE nl d (c.Q * (c.L - c.P))
   obtain⟨sb,hsb⟩:∃sb,CG d (c.Q * (c.L - c.P))=sb:=⟨_,rfl⟩
   rw [hsb] at c3 ⊢
   by_cases hl:d.length≤100
   ·have hl':(d.length:Int)≤100:=by omega
    (try (simp -implicitDefEqProofs only [go_sem,AL,AK,w1,w2,hl']));repeat' first|(with_reducible first|exact True.intro|refine And.intro ?_ ?_|intro _)|(((with_reducible refine isCall ?_);first|refine AF (c1) rfl ?_ ?_|refine AE (c1) rfl ?_|refine AB (c1) rfl ?_ ?_|refine AG (c1) rfl rfl ?_|refine AF (c2) rfl ?_ ?_|refine AE (c2) rfl ?_|refine AB (c2) rfl ?_ ?_|refine AG (c2) rfl rfl ?_|refine AF (c3) rfl ?_ ?_|refine AE (c3) rfl ?_|refine AB (c3) rfl ?_ ?_|refine AG (c3) rfl rfl ?_)<;>try (simp -implicitDefEqProofs only [go_sem,AL,AK,w1,w2,hl']))|(((with_reducible refine AS ?_ ?_)<;>intro _)<;>try (simp -implicitDefEqProofs only [go_sem,AL,AK,w1,w2,hl']))|simp (disch:=omega) only [AC,AH,AP,AJ,AD,AQ,AI,AA]
    all_goals first|rfl|(rename_i h;rw [h];simp [hl];done)|skip
   ·have hl':¬(d.length:Int)≤100:=by omega
    (try (simp -implicitDefEqProofs only [go_sem,AL,AK,w1,w2,hl']));repeat' first|(with_reducible first|exact True.intro|refine And.intro ?_ ?_|intro _)|(((with_reducible refine isCall ?_);first|refine AF (c1) rfl ?_ ?_|refine AE (c1) rfl ?_|refine AB (c1) rfl ?_ ?_|refine AG (c1) rfl rfl ?_|refine AF (c2) rfl ?_ ?_|refine AE (c2) rfl ?_|refine AB (c2) rfl ?_ ?_|refine AG (c2) rfl rfl ?_|refine AF (c3) rfl ?_ ?_|refine AE (c3) rfl ?_|refine AB (c3) rfl ?_ ?_|refine AG (c3) rfl rfl ?_)<;>try (simp -implicitDefEqProofs only [go_sem,AL,AK,w1,w2,hl']))|(((with_reducible refine AS ?_ ?_)<;>intro _)<;>try (simp -implicitDefEqProofs only [go_sem,AL,AK,w1,w2,hl']))|simp (disch:=omega) only [AC,AH,AP,AJ,AD,AQ,AI,AA]
    all_goals first|rfl|(simp [hl];done)|skip
theorem Mm (n1 n2:Bool) (bits fl:List Int) (hb:Ak bits=true) (h1000:bits.length≤1000000) (hne:¬bits=[]):CF E0 Ji [.list n1 (Ai bits),.list n2 (Ai fl)] (.list false (Ai (PW bits fl))):=by
 refine AO M5 Am (by simp) fun hwf=>?_
 simp only [Dl,DB,DA,Cw,D7,D6,Fi,D5,Bd,Bo,Bp,DC,B1,List.length_map,Bx,true_and,and_true] at hwf
 rw [AW];unfold IG
 (try (simp -implicitDefEqProofs only [go_sem,hne]));repeat' first|(with_reducible first|exact True.intro|refine And.intro ?_ ?_|intro _)|(((with_reducible refine AS ?_ ?_)<;>intro _)<;>try (simp -implicitDefEqProofs only [go_sem,hne]))|simp (disch:=omega) only [AC,AH,AP,AJ,AD,AQ,AI,AA]|((with_reducible refine An ?_);refine⟨(_,_),rfl,?_,?_⟩)
 all_goals first|omega|(simp;done)|(simp;omega)|skip
 have hl0:=PV
 refine AY (α:=Nat×(List Int)) (l0:=?l1) (m0:=?m1) (fun x=>[(6,.d (.int .i64 (x.1:Int)))]) (fun x=>[(9,.row 3 1 false (Ai x.2))]) (fun x=>x.1≤fl.length∧x.2=PW bits (fl.take x.1)) (fun x=>fl.length - x.1) (0,bits) ?h01 ?he1 ?he21 ?hI1 ?step1
 case h01=>(simp -implicitDefEqProofs only [go_sem];rfl)
 case he1=>rfl
 case he21=>rfl
 case' step1=>(rintro⟨k,R⟩ hI;try dsimp only at hI)
 case' hI1=>try dsimp only
 ·exact⟨Nat.zero_le _,rfl⟩
 ·obtain⟨k1,k2⟩:=hI
  change R=PW bits (fl.take k) at k2
  have hRl:R.length=bits.length:=by rw [k2,PV]
  have hRb:Ak R=true:=by rw [k2];exact RJ _ hb
  by_cases hk:k < fl.length
  ·have hk':(k:Int) < (fl.length:Int):=by omega
   have hwk:IntKind.i64.wrap ((k:Int)+1)=((k+1:Nat):Int):=by rw [AC _ (by omega)];omega
   obtain⟨f,hf⟩:∃f,fl[k]?.getD 0=f:=⟨_,rfl⟩
   have hst:XS R f=PW bits (fl.take (k+1)):=by
    rw [k2,←YK,←hf,List.take_add_one,List.getElem?_eq_getElem hk];simp [Option.getD]
   by_cases h0:0≤f
   ·by_cases h1:f < (R.length:Int)
    ·have hv:=ET hRb (i:=f.toNat) (by omega)
     have hwv:IntKind.i64.wrap (1 - R[f.toNat]?.getD 0)=1 - R[f.toNat]?.getD 0:=AC _ (by omega)
     have hs2:XS R f=R.set f.toNat (1 - R[f.toNat]?.getD 0):=by unfold XS;rw [if_pos ⟨h0,h1⟩]
     (try (simp -implicitDefEqProofs only [go_sem,hk',hk,hwk,hf,h0,h1,hwv]));repeat' first|(with_reducible first|exact True.intro|refine And.intro ?_ ?_|intro _)|(((with_reducible refine AS ?_ ?_)<;>intro _)<;>try (simp -implicitDefEqProofs only [go_sem,hk',hk,hwk,hf,h0,h1,hwv]))|simp (disch:=omega) only [AC,AH,AP,AJ,AD,AQ,AI,AA]|((with_reducible refine An ?_);refine⟨(_,_),rfl,?_,?_⟩)
     all_goals first|omega|(simp;done)|(simp;omega)|skip
     rw [←hs2,hst]
    ·have hs2:XS R f=R:=by unfold XS;rw [if_neg fun h=>h1 h.2]
     (try (simp -implicitDefEqProofs only [go_sem,hk',hk,hwk,hf,h0,h1]));repeat' first|(with_reducible first|exact True.intro|refine And.intro ?_ ?_|intro _)|(((with_reducible refine AS ?_ ?_)<;>intro _)<;>try (simp -implicitDefEqProofs only [go_sem,hk',hk,hwk,hf,h0,h1]))|simp (disch:=omega) only [AC,AH,AP,AJ,AD,AQ,AI,AA]|((with_reducible refine An ?_);refine⟨(_,_),rfl,?_,?_⟩)
     all_goals first|omega|(simp;done)|(simp;omega)|skip
     rw [←hst,hs2]
   ·have hs2:XS R f=R:=by unfold XS;rw [if_neg fun h=>h0 h.1]
    (try (simp -implicitDefEqProofs only [go_sem,hk',hk,hwk,hf,h0]));repeat' first|(with_reducible first|exact True.intro|refine And.intro ?_ ?_|intro _)|(((with_reducible refine AS ?_ ?_)<;>intro _)<;>try (simp -implicitDefEqProofs only [go_sem,hk',hk,hwk,hf,h0]))|simp (disch:=omega) only [AC,AH,AP,AJ,AD,AQ,AI,AA]|((with_reducible refine An ?_);refine⟨(_,_),rfl,?_,?_⟩)
    all_goals first|omega|(simp;done)|(simp;omega)|skip
    rw [←hst,hs2]
  ·have hk':¬(k:Int) < (fl.length:Int):=by omega
   have hte:fl.take k=fl:=List.take_of_length_le (by omega)
   rw [hte] at k2
   rw [←k2]
   (try (simp -implicitDefEqProofs only [go_sem,hk']));repeat' first|(with_reducible first|exact True.intro|refine And.intro ?_ ?_|intro _)|(((with_reducible refine AS ?_ ?_)<;>intro _)<;>try (simp -implicitDefEqProofs only [go_sem,hk']))|simp (disch:=omega) only [AC,AH,AP,AJ,AD,AQ,AI,AA]|((with_reducible refine An ?_);refine⟨(_,_),rfl,?_,?_⟩)
   all_goals first|omega|(simp;done)|(simp;omega)|skip
   all_goals first|rfl|skip
end Go.Pw
end
section
open Go Go.Pw Go.Proofs
namespace Go.Pw
set_option linter.unusedSimpArgs false
set_option linter.unusedVariables false
set_option maxRecDepth 100000
set_option maxHeartbeats 3200000
def Gj (c:AX) (a b:List Int) (i:Nat):Nat:=if c.part a 0 i=c.part b 0 i then 0 else 1
def GQ (c:AX) (a b:List Int) (n:Nat):List Int:=(List.range c.Q.toNat).map fun k=>((DY (Gj c a b) c.Q.toNat n k:Nat):Int)
theorem NO (c:AX) (a b:List Int) (n:Nat):(GQ c a b n).length=c.Q.toNat:=by simp [GQ]
theorem kr (c:AX) (a b:List Int):List.replicate c.Q.toNat (0:Int)=GQ c a b 0:=by
 unfold GQ
 rw [show (fun k=>((DY (Gj c a b) c.Q.toNat 0 k:Nat):Int))=fun _=>(0:Int) from rfl,List.map_const',List.length_range]
theorem Zz (c:AX) (a b:List Int) {i:Nat} (h:c.part a 0 i=c.part b 0 i):GQ c a b (i+1)=GQ c a b i:=by
 unfold GQ
 refine List.map_congr_left fun k _=>?_
 show ((DY (Gj c a b) c.Q.toNat i k+(if i % c.Q.toNat=k then Gj c a b i else 0):Nat):Int)=_
 have:Gj c a b i=0:=by unfold Gj;rw [if_pos h]
 rw [this];simp
theorem Z0 (c:AX) (a b:List Int) {i:Nat} (hq:0 < c.Q.toNat) (h:¬c.part a 0 i=c.part b 0 i):(GQ c a b i).set (i % c.Q.toNat) ((GQ c a b i)[i % c.Q.toNat]?.getD 0+1)=GQ c a b (i+1):=by
 have hm:=Nat.mod_lt i hq
 apply List.ext_getElem?
 intro k
 rw [List.getElem?_set,NO]
 have hf:Gj c a b i=1:=by unfold Gj;rw [if_neg h]
 by_cases hk:k < c.Q.toNat
 ·have e:∀n,(GQ c a b n)[k]?=some ((DY (Gj c a b) c.Q.toNat n k:Nat):Int):=fun n=>by simp [GQ,hk]
  have hs:DY (Gj c a b) c.Q.toNat (i+1) k=DY (Gj c a b) c.Q.toNat i k+(if i % c.Q.toNat=k then Gj c a b i else 0):=rfl
  rw [e (i+1),hs,hf]
  by_cases hik:i % c.Q.toNat=k
  ·rw [if_pos hik,if_pos (by omega),hik,e i,if_pos rfl];simp
  ·rw [if_neg hik,e i,if_neg hik];simp
 ·have e:∀n,(GQ c a b n)[k]?=none:=fun n=>List.getElem?_eq_none (by rw [NO];omega)
  rw [e,e]
  split
  ·omega
  ·rfl
theorem QP (c:AX) (a b:List Int) (n:Nat) {k:Nat} (hk:k < c.Q.toNat):(GQ c a b n)[k]?.getD 0=((DY (Gj c a b) c.Q.toNat n k:Nat):Int):=by simp [GQ,hk]
theorem dm (f:Nat→Nat) (hf:∀i,f i≤1) (q:Nat):∀n k,DY f q n k≤n
 |0,_=>Nat.le_refl _
 |n+1,k=>by
  have ih:=dm f hf q n k
  have:=hf n
  show DY f q n k+(if n % q=k then f n else 0)≤n+1
  split<;>omega
theorem iL (c:AX) (a b:List Int) (i:Nat):Gj c a b i≤1:=by unfold Gj;split<;>omega
def ZL (c:AX) (bits:List Int):D:=.tup [.int .i64 (match c.find bits with|some a=>(a:Int)|none=>0),.bool (c.find bits).isSome]
attribute [local congr] Bh A_ A' Ap Bi Av Ax Aw Ao Ah Ab AZ Ar Ac As BI BM BK BL BJ BN BF Af Au Ag BD BQ Ae BG BH BE BB BC A9 BA Aq Ad
attribute [local irreducible] IntKind.wrap A5 Option.getD and or
theorem Pi (c:AX) (hk:GL c) (nb:Bool) (bits:List Int) (hb:bits.length≤1000):CF E0 Na [FT c,.list nb (Ai bits)] (ZL c bits):=by
 have hm:=hk.markl
 have ht:=hk.tot
 have c1:=JN c hk.wev hk.code (by omega)
 refine AO QD Am (by simp) fun hwf=>?_
 rw [AW];unfold LY
 (try (simp -implicitDefEqProofs only [go_sem,AL,AK]));repeat' first|(with_reducible first|exact True.intro|refine And.intro ?_ ?_|intro _)|(((with_reducible refine AS ?_ ?_)<;>intro _)<;>try (simp -implicitDefEqProofs only [go_sem,AL,AK]))|simp (disch:=omega) only [AC,AH,AP,AJ,AD,AQ,AI,AA]|((with_reducible refine A4 ?_);refine⟨_,rfl,?_,?_⟩)
 all_goals first|omega|(simp;done)|(simp;omega)|skip
 refine AY (α:=Nat) (l0:=?l1) (m0:=?m1) (fun x=>[(6,.d (.int .i64 (x:Int)))]) (fun x=>[]) (fun x=>x≤bits.length+1∧∀j,j < x→c.errs < CX c.mark (bits.drop j)) (fun x=>bits.length+1 - x) 0 ?h01 ?he1 ?he21 ?hI1 ?step1
 case h01=>(simp -implicitDefEqProofs only [go_sem];rfl)
 case he1=>rfl
 case he21=>rfl
 case' step1=>(rintro a hI;try dsimp only at hI)
 case' hI1=>try dsimp only
 ·exact⟨Nat.zero_le _,fun j hj=>by omega⟩
 ·obtain⟨i1,i2⟩:=hI
  have w1:IntKind.i64.wrap ((a:Int)+(c.tot:Int))=((a+c.tot:Nat):Int):=by rw [AC _ (by omega)];omega
  have w3:IntKind.i64.wrap ((a:Int)+1)=((a+1:Nat):Int):=by rw [AC _ (by omega)];omega
  by_cases ha:a+c.tot≤bits.length
  ·have g1:((a+c.tot:Nat):Int)≤(bits.length:Int):=by omega
   have htm:c.mark.length≤c.tot:=by unfold AX.tot;omega
   have c2:=Lw c.nm nb c.mark bits (a:Int) (by omega) (by omega) (by omega) (by omega)
   rw [Int.toNat_natCast] at c2
   by_cases hd:CX c.mark (bits.drop a)≤c.errs
   ·have hf:=Um i2 ha hd
    have hr:ZL c bits=.tup [.int .i64 (a:Int),.bool true]:=by unfold ZL;rw [hf];rfl
    rw [hr]
    (try (simp -implicitDefEqProofs only [go_sem,AL,AK,w1,g1,hd]));repeat' first|(with_reducible first|exact True.intro|refine And.intro ?_ ?_|intro _)|(((with_reducible refine isCall ?_);first|refine AF (c1) rfl ?_ ?_|refine AE (c1) rfl ?_|refine AB (c1) rfl ?_ ?_|refine AG (c1) rfl rfl ?_|refine AF (c2) rfl ?_ ?_|refine AE (c2) rfl ?_|refine AB (c2) rfl ?_ ?_|refine AG (c2) rfl rfl ?_)<;>try (simp -implicitDefEqProofs only [go_sem,AL,AK,w1,g1,hd]))|(((with_reducible refine AS ?_ ?_)<;>intro _)<;>try (simp -implicitDefEqProofs only [go_sem,AL,AK,w1,g1,hd]))|simp (disch:=omega) only [AC,AH,AP,AJ,AD,AQ,AI,AA]|((with_reducible refine A4 ?_);refine⟨_,rfl,?_,?_⟩)
    all_goals first|omega|(simp;done)|(simp;omega)|skip
    all_goals first|rfl|skip
   ·(try (simp -implicitDefEqProofs only [go_sem,AL,AK,w1,g1,hd,w3]));repeat' first|(with_reducible first|exact True.intro|refine And.intro ?_ ?_|intro _)|(((with_reducible refine isCall ?_);first|refine AF (c1) rfl ?_ ?_|refine AE (c1) rfl ?_|refine AB (c1) rfl ?_ ?_|refine AG (c1) rfl rfl ?_|refine AF (c2) rfl ?_ ?_|refine AE (c2) rfl ?_|refine AB (c2) rfl ?_ ?_|refine AG (c2) rfl rfl ?_)<;>try (simp -implicitDefEqProofs only [go_sem,AL,AK,w1,g1,hd,w3]))|(((with_reducible refine AS ?_ ?_)<;>intro _)<;>try (simp -implicitDefEqProofs only [go_sem,AL,AK,w1,g1,hd,w3]))|simp (disch:=omega) only [AC,AH,AP,AJ,AD,AQ,AI,AA]|((with_reducible refine A4 ?_);refine⟨_,rfl,?_,?_⟩)
    all_goals first|omega|(simp;done)|(simp;omega)|skip
    rename_i j hj
    by_cases e:j=a
    ·rw [e];omega
    ·exact i2 j (by omega)
  ·have g1:¬((a+c.tot:Nat):Int)≤(bits.length:Int):=by omega
   have hf:=Ul i2 ha
   have hr:ZL c bits=.tup [.int .i64 0,.bool false]:=by unfold ZL;rw [hf];rfl
   rw [hr]
   (try (simp -implicitDefEqProofs only [go_sem,AL,AK,w1,g1]));repeat' first|(with_reducible first|exact True.intro|refine And.intro ?_ ?_|intro _)|(((with_reducible refine isCall ?_);first|refine AF (c1) rfl ?_ ?_|refine AE (c1) rfl ?_|refine AB (c1) rfl ?_ ?_|refine AG (c1) rfl rfl ?_)<;>try (simp -implicitDefEqProofs only [go_sem,AL,AK,w1,g1]))|(((with_reducible refine AS ?_ ?_)<;>intro _)<;>try (simp -implicitDefEqProofs only [go_sem,AL,AK,w1,g1]))|simp (disch:=omega) only [AC,AH,AP,AJ,AD,AQ,AI,AA]|((with_reducible refine A4 ?_);refine⟨_,rfl,?_,?_⟩)
   all_goals first|omega|(simp;done)|(simp;omega)|skip
   all_goals first|rfl|skip
theorem Mn (c:AX) (hk:GL c) (n1 n2:Bool) (a b:List Int) (ha:a.length=c.tot) (hb:b.length=c.tot):CF E0 Jj [FT c,.list n1 (Ai a),.list n2 (Ai b)] (.list false (Ai (GQ c a b c.syms))):=by
 have hm:=hk.markl
 have ht:=hk.tot
 have hs:=hk.syms
 have hz:=Gt hk.code
 have hw:=SC hk.wev
 have c1:=ED c hk.wev
 have c2:=KC c hk.code
 rw [hs.2.2] at c1
 have hq:c.Q=((c.Q.toNat:Nat):Int):=by omega
 have hq0:0≤c.Q:=by omega
 have hqb:c.Q≤1073741824:=by omega
 have hne0:¬c.Q=0:=by omega
 refine AO M6 Am (by simp) fun hwf=>?_
 rw [AW];unfold IH
 (try (simp -implicitDefEqProofs only [go_sem,AL,AK,hq0,hqb]));repeat' first|(with_reducible first|exact True.intro|refine And.intro ?_ ?_|intro _)|(((with_reducible refine AS ?_ ?_)<;>intro _)<;>try (simp -implicitDefEqProofs only [go_sem,AL,AK,hq0,hqb]))|simp (disch:=omega) only [AC,AH,AP,AJ,AD,AQ,AI,AA]|((with_reducible refine A4 ?_);refine⟨_,rfl,?_,?_⟩)
 all_goals first|omega|(simp;done)|(simp;omega)|skip
 rw [kr c a b]
 refine AY (α:=Nat) (l0:=?l2) (m0:=?m2) (fun x=>[(8,.d (.int .i64 (x:Int)))]) (fun x=>[(13,.row 3 1 false (Ai (GQ c a b x)))]) (fun x=>x≤c.syms) (fun x=>c.syms - x) 0 ?h02 ?he2 ?he22 ?hI2 ?step2
 case h02=>(simp -implicitDefEqProofs only [go_sem];rfl)
 case he2=>rfl
 case he22=>rfl
 case' step2=>(rintro i hI;try dsimp only at hI)
 case' hI2=>try dsimp only
 ·exact Nat.zero_le _
 ·have hcl:=NO c a b i
  by_cases hi:i < c.syms
  ·have hi':(i:Int) < (c.syms:Int):=by omega
   have h1:i * c.code.sz+c.code.sz≤c.syms * c.code.sz:=by have:=Nat.mul_le_mul_right c.code.sz (show i+1≤c.syms from hi);rw [Nat.add_mul,Nat.one_mul] at this;exact this
   have htt:c.tot=c.mark.length+c.syms * c.code.sz:=rfl
   have w1:IntKind.i64.wrap ((i:Int) * (c.code.sz:Int))=((i * c.code.sz:Nat):Int):=by rw [show (i:Int) * (c.code.sz:Int)=((i * c.code.sz:Nat):Int) by push_cast;rfl];exact AC _ (by omega)
   have w2:IntKind.i64.wrap ((c.mark.length:Int)+((i * c.code.sz:Nat):Int))=((c.mark.length+i * c.code.sz:Nat):Int):=by rw [AC _ (by omega)];omega
   have w3:IntKind.i64.wrap (((c.mark.length+i * c.code.sz:Nat):Int)+(c.code.sz:Int))=((c.mark.length+i * c.code.sz+c.code.sz:Nat):Int):=by rw [AC _ (by omega)];omega
   have hwi:IntKind.i64.wrap ((i:Int)+1)=((i+1:Nat):Int):=by rw [AC _ (by omega)];omega
   obtain⟨f,hf⟩:∃f,c.mark.length+i * c.code.sz=f:=⟨_,rfl⟩
   have hpa:(a.drop f).take c.code.sz=c.part a 0 i:=by unfold AX.part;rw [←hf,Nat.zero_add]
   have hpb:(b.drop f).take c.code.sz=c.part b 0 i:=by unfold AX.part;rw [←hf,Nat.zero_add]
   rw [hf] at w2 w3
   have hsub:f+c.code.sz - f=c.code.sz:=by omega
   have g1:((f+c.code.sz:Nat):Int)≤(a.length:Int):=by omega
   have g2:((f+c.code.sz:Nat):Int)≤(b.length:Int):=by omega
   have g3:(f:Int)≤((f+c.code.sz:Nat):Int):=by omega
   have c3:=EN n1 n2 (c.part a 0 i) (c.part b 0 i)
   have hmd:(i:Int).tmod c.Q=((i % c.Q.toNat:Nat):Int):=by rw [hq,Int.toNat_natCast];exact SF _ _
   have hml:=Nat.mod_lt i (show 0 < c.Q.toNat by omega)
   by_cases he:c.part a 0 i=c.part b 0 i
   ·have hst:=Zz c a b he
    rw [decide_eq_true he] at c3
    (try (simp -implicitDefEqProofs only [go_sem,AL,AK,hi',w1,w2,w3,hpa,hpb,hsub,g1,g2,g3,hwi]));repeat' first|(with_reducible first|exact True.intro|refine And.intro ?_ ?_|intro _)|(((with_reducible refine isCall ?_);first|refine AF (c1) rfl ?_ ?_|refine AE (c1) rfl ?_|refine AB (c1) rfl ?_ ?_|refine AG (c1) rfl rfl ?_|refine AF (c2) rfl ?_ ?_|refine AE (c2) rfl ?_|refine AB (c2) rfl ?_ ?_|refine AG (c2) rfl rfl ?_|refine AF (c3) rfl ?_ ?_|refine AE (c3) rfl ?_|refine AB (c3) rfl ?_ ?_|refine AG (c3) rfl rfl ?_)<;>try (simp -implicitDefEqProofs only [go_sem,AL,AK,hi',w1,w2,w3,hpa,hpb,hsub,g1,g2,g3,hwi]))|(((with_reducible refine AS ?_ ?_)<;>intro _)<;>try (simp -implicitDefEqProofs only [go_sem,AL,AK,hi',w1,w2,w3,hpa,hpb,hsub,g1,g2,g3,hwi]))|simp (disch:=omega) only [AC,AH,AP,AJ,AD,AQ,AI,AA]|((with_reducible refine A4 ?_);refine⟨_,rfl,?_,?_⟩)
    all_goals first|omega|(simp;done)|(simp;omega)|skip
    rw [←hst]
    exact⟨i+1,rfl,hi,by omega⟩
   ·have hst:=Z0 c a b (show 0 < c.Q.toNat by omega) he
    rw [decide_eq_false he] at c3
    have hcg:=QP c a b i hml
    have hcb:=dm _ (iL c a b) c.Q.toNat i (i % c.Q.toNat)
    have wv:IntKind.i64.wrap ((GQ c a b i)[i % c.Q.toNat]?.getD 0+1)=(GQ c a b i)[i % c.Q.toNat]?.getD 0+1:=AC _ (by omega)
    (try (simp -implicitDefEqProofs only [go_sem,AL,AK,hi',w1,w2,w3,hpa,hpb,hsub,g1,g2,g3,hwi,hmd,hne0,hcl,hml,wv,hst]));repeat' first|(with_reducible first|exact True.intro|refine And.intro ?_ ?_|intro _)|(((with_reducible refine isCall ?_);first|refine AF (c1) rfl ?_ ?_|refine AE (c1) rfl ?_|refine AB (c1) rfl ?_ ?_|refine AG (c1) rfl rfl ?_|refine AF (c2) rfl ?_ ?_|refine AE (c2) rfl ?_|refine AB (c2) rfl ?_ ?_|refine AG (c2) rfl rfl ?_|refine AF (c3) rfl ?_ ?_|refine AE (c3) rfl ?_|refine AB (c3) rfl ?_ ?_|refine AG (c3) rfl rfl ?_)<;>try (simp -implicitDefEqProofs only [go_sem,AL,AK,hi',w1,w2,w3,hpa,hpb,hsub,g1,g2,g3,hwi,hmd,hne0,hcl,hml,wv,hst]))|(((with_reducible refine AS ?_ ?_)<;>intro _)<;>try (simp -implicitDefEqProofs only [go_sem,AL,AK,hi',w1,w2,w3,hpa,hpb,hsub,g1,g2,g3,hwi,hmd,hne0,hcl,hml,wv,hst]))|simp (disch:=omega) only [AC,AH,AP,AJ,AD,AQ,AI,AA]|((with_reducible refine A4 ?_);refine⟨_,rfl,?_,?_⟩)
    all_goals first|omega|(simp;done)|(simp;omega)|skip
    all_goals skip
  ·have hi':¬(i:Int) < (c.syms:Int):=by omega
   have hie:i=c.syms:=by omega
   subst hie
   (try (simp -implicitDefEqProofs only [go_sem,AL,AK,hi']));repeat' first|(with_reducible first|exact True.intro|refine And.intro ?_ ?_|intro _)|(((with_reducible refine isCall ?_);first|refine AF (c1) rfl ?_ ?_|refine AE (c1) rfl ?_|refine AB (c1) rfl ?_ ?_|refine AG (c1) rfl rfl ?_)<;>try (simp -implicitDefEqProofs only [go_sem,AL,AK,hi']))|(((with_reducible refine AS ?_ ?_)<;>intro _)<;>try (simp -implicitDefEqProofs only [go_sem,AL,AK,hi']))|simp (disch:=omega) only [AC,AH,AP,AJ,AD,AQ,AI,AA]|((with_reducible refine A4 ?_);refine⟨_,rfl,?_,?_⟩)
   all_goals first|omega|(simp;done)|(simp;omega)|skip
   all_goals first|rfl|skip
end Go.Pw
end
