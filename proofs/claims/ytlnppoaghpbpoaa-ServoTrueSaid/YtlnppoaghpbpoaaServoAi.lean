/- A part of the proof. -/
import Derived.Test.YtlnppoaghpbpoaaServoAh
set_option linter.all false
open Go Go.Pw Go.Proofs
namespace Go.Pw
set_option linter.unusedSimpArgs false
set_option linter.unusedVariables false
set_option maxRecDepth 100000
set_option maxHeartbeats 3200000

def GServo.cp (s : GServo) : GServo := { s with nr := false }
theorem cp_servoC (s : GServo) : servoC s.cp = [.int .i64 s.tracks, .int .i64 s.step, .int .i64 s.move, .int .i64 s.noise, .int .i64 s.wrong, .list false (ints s.runout)] := rfl
theorem cp_check (s : GServo) (l : List Pair) : s.cp.check l = s.check l := rfl
theorem cp_zero (s : GServo) : s.cp.zero = s.zero := rfl
theorem cp_cost (s : GServo) (l : List Pair) (i p : Int) : s.cp.cost l i p = s.cost l i p := rfl
theorem cp_pre (s : GServo) (l : List Pair) : ∀ i, s.cp.pre l i = s.pre l i
  | 0 => rfl
  | i + 1 => by
    have ih := cp_pre s l i
    have hb : s.cp.base l i = s.base l i := by unfold GServo.base; rw [ih]; rfl
    rw [pre_succ, pre_succ, hb]; rfl
theorem cp_end (s : GServo) (l : List Pair) : s.cp.endL l = s.endL l := cp_pre s l l.length
theorem cp_later (s : GServo) (l : List Pair) (k : Int) : s.cp.laterL l k = s.laterL l k := by
  have : s.cp.endsL l = s.endsL l := by unfold GServo.endsL; rw [cp_end]; rfl
  unfold GServo.laterL; rw [this]; rfl
theorem cp_known (s : GServo) (l : List Pair) (b : Bool) : s.cp.known l b = s.known l b := by
  unfold GServo.known; rw [cp_check, cp_end]; rfl
theorem cp_ahead (s : GServo) (l : List Pair) (k : Int) : s.cp.ahead l k = s.ahead l k := by
  unfold GServo.ahead; rw [cp_known, cp_later]
theorem cp_fewest (s : GServo) (l : List Pair) : s.cp.fewest l = s.fewest l := by
  unfold GServo.fewest; rw [cp_check, cp_end]
theorem cp_gate (s : GServo) (l : List Pair) (t u : Int) : s.cp.gate l t u = s.gate l t u := by
  have : s.cp.stop l t u = s.stop l t u := by funext k; unfold GServo.stop; rw [cp_later]; rfl
  unfold GServo.gate; rw [cp_known, this]; rfl
theorem cp_bk (s : GServo) (l : List Pair) : ∀ k, s.cp.bk l k = s.bk l k
  | 0 => rfl
  | k + 1 => by rw [GServo.bk, GServo.bk, cp_bk s l k]; rfl
theorem cp_blame (s : GServo) (l : List Pair) : s.cp.blame l = s.blame l := by
  have : s.cp.goodAt l = s.goodAt l := by funext i p; unfold GServo.goodAt; rw [cp_cost, cp_pre, cp_bk]; rfl
  have h2 : s.cp.good l = s.good l := by funext i; unfold GServo.good; rw [this, cp_zero]
  unfold GServo.blame GServo.blameK; rw [cp_known, h2]
theorem cp_trace (s : GServo) (l : List Pair) (p : Int) : s.cp.trace l p = s.trace l p := by
  have ht : ∀ k, s.cp.tr l p k = s.tr l p k := fun k => by
    induction k with
    | zero => rfl
    | succ k ih => rw [GServo.tr, GServo.tr, ih, cp_pre]; rfl
  have hp : s.cp.path l p = s.path l p := by unfold GServo.path; simp only [ht]
  unfold GServo.trace; rw [cp_known, cp_end, hp]; rfl
theorem far_not {s : GServo} {l : List Pair} (h : s.far l = false) : s.runout.length ≤ 40 ∧ l.length ≤ 40 := by
  simp only [GServo.far, decide_eq_false_iff_not] at h; omega

attribute [local congr] cg_pw cg_seqI cg_seqE cg_stepI cg_ev cg_evBin cg_condB cg_condV cg_thenQ cg_blockQ cg_onSome cg_onCells cg_onRow cg_onMap cg_onOpt cg_ghosts cg_ghost cg_evCall cg_part cg_rng cg_guardV cg_frzV cg_frpV cg_ownV cg_owcV cg_occV cg_occX cg_resK cg_res1
attribute [local irreducible] IntKind.wrap bitsOp Option.getD and or
theorem ServoWheres_ret (s : GServo) (nl : Bool) (l : List Pair) (more : Int) : Ret E0 F_law02_ServoWheres [servoD s, .list nl (pairsD l), .int .i64 more] (.bool true) := by
  refine ret_of_pw dec_law02_ServoWheres mixed (by simp) fun hwf => ?_
  rw [enter_eq]; unfold pc_law02_ServoWheres
  have cF := law02_Far_ret s nl l
  have cw := law02_works_ret
  rw [servoD_eq, servoC_eq] at cF
  cases hf : s.far l with
  | true =>
    rw [hf] at cF
    (try (simp -implicitDefEqProofs only [go_sem, servoD_eq, servoC_eq])); repeat' first | with_reducible exact True.intro | with_reducible refine And.intro ?_ ?_ | with_reducible intro _ | (((with_reducible refine isCall ?_); first | refine call_b (cF) rfl ?_ ?_ | refine call_d (cF) rfl ?_ | refine call_sb (cF) rfl ?_ ?_ | refine call_s (cF) rfl rfl ?_ | refine call_b (cw) rfl ?_ ?_ | refine call_d (cw) rfl ?_ | refine call_sb (cw) rfl ?_ ?_ | refine call_s (cw) rfl rfl ?_) <;> try (simp -implicitDefEqProofs only [go_sem, servoD_eq, servoC_eq])) | (((with_reducible refine vc_b ?_ ?_) <;> intro _) <;> try (simp -implicitDefEqProofs only [go_sem, servoD_eq, servoC_eq])) | simp (disch := omega) only [wrapI, wrapU, shl1, shl1', shl1'', shrN, shrN', and_one] | ((with_reducible refine isEx ?_); refine ⟨_, rfl, ?_, ?_⟩)
    all_goals first | omega | (simp; done) | (simp; omega) | skip
  | false =>
    rw [hf] at cF
    obtain ⟨f1, f2⟩ := far_not hf
    have cC := ref02_Copy_ret s f1
    rw [servoD_eq s, servoC_eq s] at cC
    change Ret E0 _ _ (.agg [.int .i64 s.tracks, .int .i64 s.step, .int .i64 s.move, .int .i64 s.noise, .int .i64 s.wrong, .list false (ints s.runout)]) at cC
    have a1 := servo_Check_ret s.cp false l
    have a2 := ref02_Check_ret s nl l
    have a3 := servo_Where_ret s.cp false l
    have a4 := ref02_Where_ret s nl l
    have a5 := servo_Ahead_ret s.cp false l more
    have a6 := ref02_Ahead_ret s nl l more
    have a7 := servo_Fewest_ret s.cp false l
    have a8 := ref02_Fewest_ret s nl l
    have b1 := law02_sameSpans_ret (s.ahead l 0).1.isEmpty (s.ahead l 0).1.isEmpty (s.ahead l 0).1 (s.ahead l 0).1
    have b2 := law02_sameSpans_ret (s.ahead l more).1.isEmpty (s.ahead l more).1.isEmpty (s.ahead l more).1 (s.ahead l more).1
    have b3 := law02_sameInts_ret false s.nr s.runout s.runout
    rw [show decide ((s.ahead l 0).1 = (s.ahead l 0).1) = true by simp] at b1
    rw [show decide ((s.ahead l more).1 = (s.ahead l more).1) = true by simp] at b2
    rw [show decide (s.runout = s.runout) = true by simp] at b3
    rw [cp_check] at a1
    rw [cp_ahead] at a3 a5
    rw [cp_fewest] at a7
    rw [servoD_eq, cp_servoC] at a1 a3 a5 a7
    rw [servoD_eq, servoC_eq] at a2 a4 a6 a8
    generalize s.check l = CH at *
    generalize s.ahead l 0 = R0 at *
    generalize s.ahead l more = R1 at *
    generalize s.fewest l = R2 at *
    by_cases hl0 : l = []
    · subst hl0
      change Ret E0 _ [_, .list false []] _ at a1 a3 a7
      change Ret E0 _ [_, .list false [], _] _ at a5
      (try (simp -implicitDefEqProofs only [go_sem, servoD_eq, servoC_eq, pairsD_nil])); repeat' first | with_reducible exact True.intro | with_reducible refine And.intro ?_ ?_ | with_reducible intro _ | (((with_reducible refine isCall ?_); first | refine call_b (cF) rfl ?_ ?_ | refine call_d (cF) rfl ?_ | refine call_sb (cF) rfl ?_ ?_ | refine call_s (cF) rfl rfl ?_ | refine call_b (cw) rfl ?_ ?_ | refine call_d (cw) rfl ?_ | refine call_sb (cw) rfl ?_ ?_ | refine call_s (cw) rfl rfl ?_ | refine call_b (cC) rfl ?_ ?_ | refine call_d (cC) rfl ?_ | refine call_sb (cC) rfl ?_ ?_ | refine call_s (cC) rfl rfl ?_ | refine call_b (a1) rfl ?_ ?_ | refine call_d (a1) rfl ?_ | refine call_sb (a1) rfl ?_ ?_ | refine call_s (a1) rfl rfl ?_ | refine call_b (a2) rfl ?_ ?_ | refine call_d (a2) rfl ?_ | refine call_sb (a2) rfl ?_ ?_ | refine call_s (a2) rfl rfl ?_ | refine call_b (a3) rfl ?_ ?_ | refine call_d (a3) rfl ?_ | refine call_sb (a3) rfl ?_ ?_ | refine call_s (a3) rfl rfl ?_ | refine call_b (a4) rfl ?_ ?_ | refine call_d (a4) rfl ?_ | refine call_sb (a4) rfl ?_ ?_ | refine call_s (a4) rfl rfl ?_ | refine call_b (a5) rfl ?_ ?_ | refine call_d (a5) rfl ?_ | refine call_sb (a5) rfl ?_ ?_ | refine call_s (a5) rfl rfl ?_ | refine call_b (a6) rfl ?_ ?_ | refine call_d (a6) rfl ?_ | refine call_sb (a6) rfl ?_ ?_ | refine call_s (a6) rfl rfl ?_ | refine call_b (a7) rfl ?_ ?_ | refine call_d (a7) rfl ?_ | refine call_sb (a7) rfl ?_ ?_ | refine call_s (a7) rfl rfl ?_ | refine call_b (a8) rfl ?_ ?_ | refine call_d (a8) rfl ?_ | refine call_sb (a8) rfl ?_ ?_ | refine call_s (a8) rfl rfl ?_ | refine call_b (b1) rfl ?_ ?_ | refine call_d (b1) rfl ?_ | refine call_sb (b1) rfl ?_ ?_ | refine call_s (b1) rfl rfl ?_ | refine call_b (b2) rfl ?_ ?_ | refine call_d (b2) rfl ?_ | refine call_sb (b2) rfl ?_ ?_ | refine call_s (b2) rfl rfl ?_ | refine call_b (b3) rfl ?_ ?_ | refine call_d (b3) rfl ?_ | refine call_sb (b3) rfl ?_ ?_ | refine call_s (b3) rfl rfl ?_) <;> try (simp -implicitDefEqProofs only [go_sem, servoD_eq, servoC_eq, pairsD_nil])) | (((with_reducible refine vc_b ?_ ?_) <;> intro _) <;> try (simp -implicitDefEqProofs only [go_sem, servoD_eq, servoC_eq, pairsD_nil])) | simp (disch := omega) only [wrapI, wrapU, shl1, shl1', shl1'', shrN, shrN', and_one] | ((with_reducible refine isEx ?_); refine ⟨_, rfl, ?_, ?_⟩)
      all_goals first | omega | (simp; done) | (simp; omega) | skip
      refine pw_loopS (α := Int) (l0 := ?l1) (m0 := ?m1) (fun x => [(21, .d (.int .i64 x))]) (fun x => []) (fun x => x = 0) (fun x => 0) ?a1_0 ?h01 ?he1 ?he21 ?hI1 ?step1
      case h01 => (simp -implicitDefEqProofs only [go_sem, servoD_eq, servoC_eq, pairsD_nil]; rfl)
      case he1 => rfl
      case he21 => rfl
      case' step1 => (rintro i hI; try dsimp only at hI)
      case' hI1 => try dsimp only
      subst hI
      (try (simp -implicitDefEqProofs only [go_sem, servoD_eq, servoC_eq, pairsD_nil])); repeat' first | with_reducible exact True.intro | with_reducible refine And.intro ?_ ?_ | with_reducible intro _ | (((with_reducible refine isCall ?_); first | refine call_b (b3) rfl ?_ ?_ | refine call_d (b3) rfl ?_ | refine call_sb (b3) rfl ?_ ?_ | refine call_s (b3) rfl rfl ?_ | refine call_b (cw) rfl ?_ ?_ | refine call_d (cw) rfl ?_ | refine call_sb (cw) rfl ?_ ?_ | refine call_s (cw) rfl rfl ?_) <;> try (simp -implicitDefEqProofs only [go_sem, servoD_eq, servoC_eq, pairsD_nil])) | (((with_reducible refine vc_b ?_ ?_) <;> intro _) <;> try (simp -implicitDefEqProofs only [go_sem, servoD_eq, servoC_eq, pairsD_nil])) | simp (disch := omega) only [wrapI, wrapU, shl1, shl1', shl1'', shrN, shrN', and_one] | ((with_reducible refine isEx ?_); refine ⟨_, rfl, ?_, ?_⟩)
      all_goals first | omega | (simp; done) | (simp; omega) | skip
    · have hne : ¬ (pairsD l = []) := fun hp => hl0 (by cases hh : l with | nil => rfl | cons _ _ => rw [hh] at hp; cases hp)
      (try (simp -implicitDefEqProofs only [go_sem, servoD_eq, servoC_eq, pairsD_len, pairsD_unif, hne])); repeat' first | with_reducible exact True.intro | with_reducible refine And.intro ?_ ?_ | with_reducible intro _ | (((with_reducible refine isCall ?_); first | refine call_b (cF) rfl ?_ ?_ | refine call_d (cF) rfl ?_ | refine call_sb (cF) rfl ?_ ?_ | refine call_s (cF) rfl rfl ?_ | refine call_b (cw) rfl ?_ ?_ | refine call_d (cw) rfl ?_ | refine call_sb (cw) rfl ?_ ?_ | refine call_s (cw) rfl rfl ?_ | refine call_b (cC) rfl ?_ ?_ | refine call_d (cC) rfl ?_ | refine call_sb (cC) rfl ?_ ?_ | refine call_s (cC) rfl rfl ?_ | refine call_b (a1) rfl ?_ ?_ | refine call_d (a1) rfl ?_ | refine call_sb (a1) rfl ?_ ?_ | refine call_s (a1) rfl rfl ?_ | refine call_b (a2) rfl ?_ ?_ | refine call_d (a2) rfl ?_ | refine call_sb (a2) rfl ?_ ?_ | refine call_s (a2) rfl rfl ?_ | refine call_b (a3) rfl ?_ ?_ | refine call_d (a3) rfl ?_ | refine call_sb (a3) rfl ?_ ?_ | refine call_s (a3) rfl rfl ?_ | refine call_b (a4) rfl ?_ ?_ | refine call_d (a4) rfl ?_ | refine call_sb (a4) rfl ?_ ?_ | refine call_s (a4) rfl rfl ?_ | refine call_b (a5) rfl ?_ ?_ | refine call_d (a5) rfl ?_ | refine call_sb (a5) rfl ?_ ?_ | refine call_s (a5) rfl rfl ?_ | refine call_b (a6) rfl ?_ ?_ | refine call_d (a6) rfl ?_ | refine call_sb (a6) rfl ?_ ?_ | refine call_s (a6) rfl rfl ?_ | refine call_b (a7) rfl ?_ ?_ | refine call_d (a7) rfl ?_ | refine call_sb (a7) rfl ?_ ?_ | refine call_s (a7) rfl rfl ?_ | refine call_b (a8) rfl ?_ ?_ | refine call_d (a8) rfl ?_ | refine call_sb (a8) rfl ?_ ?_ | refine call_s (a8) rfl rfl ?_ | refine call_b (b1) rfl ?_ ?_ | refine call_d (b1) rfl ?_ | refine call_sb (b1) rfl ?_ ?_ | refine call_s (b1) rfl rfl ?_ | refine call_b (b2) rfl ?_ ?_ | refine call_d (b2) rfl ?_ | refine call_sb (b2) rfl ?_ ?_ | refine call_s (b2) rfl rfl ?_ | refine call_b (b3) rfl ?_ ?_ | refine call_d (b3) rfl ?_ | refine call_sb (b3) rfl ?_ ?_ | refine call_s (b3) rfl rfl ?_) <;> try (simp -implicitDefEqProofs only [go_sem, servoD_eq, servoC_eq, pairsD_len, pairsD_unif, hne])) | (((with_reducible refine vc_b ?_ ?_) <;> intro _) <;> try (simp -implicitDefEqProofs only [go_sem, servoD_eq, servoC_eq, pairsD_len, pairsD_unif, hne])) | simp (disch := omega) only [wrapI, wrapU, shl1, shl1', shl1'', shrN, shrN', and_one] | ((with_reducible refine isEx ?_); refine ⟨_, rfl, ?_, ?_⟩)
      all_goals first | omega | (simp; done) | (simp; omega) | skip
      refine pw_loopS (α := Int) (l0 := ?l2) (m0 := ?m2) (fun x => [(21, .d (.int .i64 x))]) (fun x => []) (fun x => 0 ≤ x ∧ x ≤ l.length) (fun x => (l.length - x).toNat) ?a2_0 ?h02 ?he2 ?he22 ?hI2 ?step2
      case h02 => (simp -implicitDefEqProofs only [go_sem, servoD_eq, servoC_eq, pairsD_len]; rfl)
      case he2 => rfl
      case he22 => rfl
      case' step2 => (rintro i hI2; try dsimp only at hI2)
      case' hI2 => try dsimp only
      · exact ⟨by omega, by omega⟩
      · obtain ⟨i1, i2⟩ := hI2
        by_cases hi : i < l.length
        · (try (simp -implicitDefEqProofs only [go_sem, servoD_eq, servoC_eq, pairsD_len, onSome_pairs, pairsD_unif, pairD_eq, keyEq_pair2, decide_true])); repeat' first | with_reducible exact True.intro | with_reducible refine And.intro ?_ ?_ | with_reducible intro _ | (((with_reducible refine vc_b ?_ ?_) <;> intro _) <;> try (simp -implicitDefEqProofs only [go_sem, servoD_eq, servoC_eq, pairsD_len, onSome_pairs, pairsD_unif, pairD_eq, keyEq_pair2, decide_true])) | simp (disch := omega) only [wrapI, wrapU, shl1, shl1', shl1'', shrN, shrN', and_one] | ((with_reducible refine isEx ?_); refine ⟨_, rfl, ?_, ?_⟩)
          all_goals first | omega | (simp; done) | (simp; omega) | skip
        · (try (simp -implicitDefEqProofs only [go_sem, servoD_eq, servoC_eq, pairsD_len])); repeat' first | with_reducible exact True.intro | with_reducible refine And.intro ?_ ?_ | with_reducible intro _ | (((with_reducible refine isCall ?_); first | refine call_b (b3) rfl ?_ ?_ | refine call_d (b3) rfl ?_ | refine call_sb (b3) rfl ?_ ?_ | refine call_s (b3) rfl rfl ?_ | refine call_b (cw) rfl ?_ ?_ | refine call_d (cw) rfl ?_ | refine call_sb (cw) rfl ?_ ?_ | refine call_s (cw) rfl rfl ?_) <;> try (simp -implicitDefEqProofs only [go_sem, servoD_eq, servoC_eq, pairsD_len])) | (((with_reducible refine vc_b ?_ ?_) <;> intro _) <;> try (simp -implicitDefEqProofs only [go_sem, servoD_eq, servoC_eq, pairsD_len])) | simp (disch := omega) only [wrapI, wrapU, shl1, shl1', shl1'', shrN, shrN', and_one] | ((with_reducible refine isEx ?_); refine ⟨_, rfl, ?_, ?_⟩)
          all_goals first | omega | (simp; done) | (simp; omega) | skip

theorem ServoGates_ret (s : GServo) (nl : Bool) (l : List Pair) (t u : Int) : Ret E0 F_law02_ServoGates [servoD s, .list nl (pairsD l), .agg [.int .i64 t, .int .i64 u]] (.bool true) := by
  refine ret_of_pw dec_law02_ServoGates mixed (by simp) fun hwf => ?_
  rw [enter_eq]; unfold pc_law02_ServoGates
  have cF := law02_Far_ret s nl l
  have cw := law02_works_ret
  rw [servoD_eq, servoC_eq] at cF
  cases hf : s.far l with
  | true =>
    rw [hf] at cF
    (try (simp -implicitDefEqProofs only [go_sem, servoD_eq, servoC_eq])); repeat' first | with_reducible exact True.intro | with_reducible refine And.intro ?_ ?_ | with_reducible intro _ | (((with_reducible refine isCall ?_); first | refine call_b (cF) rfl ?_ ?_ | refine call_d (cF) rfl ?_ | refine call_sb (cF) rfl ?_ ?_ | refine call_s (cF) rfl rfl ?_ | refine call_b (cw) rfl ?_ ?_ | refine call_d (cw) rfl ?_ | refine call_sb (cw) rfl ?_ ?_ | refine call_s (cw) rfl rfl ?_) <;> try (simp -implicitDefEqProofs only [go_sem, servoD_eq, servoC_eq])) | (((with_reducible refine vc_b ?_ ?_) <;> intro _) <;> try (simp -implicitDefEqProofs only [go_sem, servoD_eq, servoC_eq])) | simp (disch := omega) only [wrapI, wrapU, shl1, shl1', shl1'', shrN, shrN', and_one] 
    all_goals first | omega | (simp; done) | (simp; omega) | skip
  | false =>
    rw [hf] at cF
    obtain ⟨f1, f2⟩ := far_not hf
    have cC := ref02_Copy_ret s f1
    rw [servoD_eq s, servoC_eq s] at cC
    change Ret E0 _ _ (.agg [.int .i64 s.tracks, .int .i64 s.step, .int .i64 s.move, .int .i64 s.noise, .int .i64 s.wrong, .list false (ints s.runout)]) at cC
    have a3 := servo_Gate_ret s.cp false l t u
    have a4 := ref02_Gate_ret s nl l t u
    have a5 := servo_Blame_ret s.cp false l
    have a6 := ref02_Blame_ret s nl l
    have b1 := law02_sameInts_ret (s.blame l).1.isEmpty (s.blame l).1.isEmpty (s.blame l).1 (s.blame l).1
    rw [show decide ((s.blame l).1 = (s.blame l).1) = true by simp] at b1
    rw [cp_gate] at a3
    rw [cp_blame] at a5
    rw [servoD_eq, cp_servoC] at a3 a5
    rw [servoD_eq, servoC_eq] at a4 a6
    generalize s.gate l t u = R0 at *
    generalize s.blame l = R1 at *
    by_cases hl0 : l = []
    · subst hl0
      change Ret E0 _ [_, .list false []] _ at a5
      change Ret E0 _ [_, .list false [], _, _] _ at a3
      (try (simp -implicitDefEqProofs only [go_sem, servoD_eq, servoC_eq, pairsD_nil])); repeat' first | with_reducible exact True.intro | with_reducible refine And.intro ?_ ?_ | with_reducible intro _ | (((with_reducible refine isCall ?_); first | refine call_b (cF) rfl ?_ ?_ | refine call_d (cF) rfl ?_ | refine call_sb (cF) rfl ?_ ?_ | refine call_s (cF) rfl rfl ?_ | refine call_b (cw) rfl ?_ ?_ | refine call_d (cw) rfl ?_ | refine call_sb (cw) rfl ?_ ?_ | refine call_s (cw) rfl rfl ?_ | refine call_b (cC) rfl ?_ ?_ | refine call_d (cC) rfl ?_ | refine call_sb (cC) rfl ?_ ?_ | refine call_s (cC) rfl rfl ?_ | refine call_b (a3) rfl ?_ ?_ | refine call_d (a3) rfl ?_ | refine call_sb (a3) rfl ?_ ?_ | refine call_s (a3) rfl rfl ?_ | refine call_b (a4) rfl ?_ ?_ | refine call_d (a4) rfl ?_ | refine call_sb (a4) rfl ?_ ?_ | refine call_s (a4) rfl rfl ?_ | refine call_b (a5) rfl ?_ ?_ | refine call_d (a5) rfl ?_ | refine call_sb (a5) rfl ?_ ?_ | refine call_s (a5) rfl rfl ?_ | refine call_b (a6) rfl ?_ ?_ | refine call_d (a6) rfl ?_ | refine call_sb (a6) rfl ?_ ?_ | refine call_s (a6) rfl rfl ?_ | refine call_b (b1) rfl ?_ ?_ | refine call_d (b1) rfl ?_ | refine call_sb (b1) rfl ?_ ?_ | refine call_s (b1) rfl rfl ?_) <;> try (simp -implicitDefEqProofs only [go_sem, servoD_eq, servoC_eq, pairsD_nil])) | (((with_reducible refine vc_b ?_ ?_) <;> intro _) <;> try (simp -implicitDefEqProofs only [go_sem, servoD_eq, servoC_eq, pairsD_nil])) | simp (disch := omega) only [wrapI, wrapU, shl1, shl1', shl1'', shrN, shrN', and_one] 
      all_goals first | omega | (simp; done) | (simp; omega) | skip
    · have hne : ¬ (pairsD l = []) := fun hp => hl0 (by cases hh : l with | nil => rfl | cons _ _ => rw [hh] at hp; cases hp)
      (try (simp -implicitDefEqProofs only [go_sem, servoD_eq, servoC_eq, pairsD_len, pairsD_unif, hne])); repeat' first | with_reducible exact True.intro | with_reducible refine And.intro ?_ ?_ | with_reducible intro _ | (((with_reducible refine isCall ?_); first | refine call_b (cF) rfl ?_ ?_ | refine call_d (cF) rfl ?_ | refine call_sb (cF) rfl ?_ ?_ | refine call_s (cF) rfl rfl ?_ | refine call_b (cw) rfl ?_ ?_ | refine call_d (cw) rfl ?_ | refine call_sb (cw) rfl ?_ ?_ | refine call_s (cw) rfl rfl ?_ | refine call_b (cC) rfl ?_ ?_ | refine call_d (cC) rfl ?_ | refine call_sb (cC) rfl ?_ ?_ | refine call_s (cC) rfl rfl ?_ | refine call_b (a3) rfl ?_ ?_ | refine call_d (a3) rfl ?_ | refine call_sb (a3) rfl ?_ ?_ | refine call_s (a3) rfl rfl ?_ | refine call_b (a4) rfl ?_ ?_ | refine call_d (a4) rfl ?_ | refine call_sb (a4) rfl ?_ ?_ | refine call_s (a4) rfl rfl ?_ | refine call_b (a5) rfl ?_ ?_ | refine call_d (a5) rfl ?_ | refine call_sb (a5) rfl ?_ ?_ | refine call_s (a5) rfl rfl ?_ | refine call_b (a6) rfl ?_ ?_ | refine call_d (a6) rfl ?_ | refine call_sb (a6) rfl ?_ ?_ | refine call_s (a6) rfl rfl ?_ | refine call_b (b1) rfl ?_ ?_ | refine call_d (b1) rfl ?_ | refine call_sb (b1) rfl ?_ ?_ | refine call_s (b1) rfl rfl ?_) <;> try (simp -implicitDefEqProofs only [go_sem, servoD_eq, servoC_eq, pairsD_len, pairsD_unif, hne])) | (((with_reducible refine vc_b ?_ ?_) <;> intro _) <;> try (simp -implicitDefEqProofs only [go_sem, servoD_eq, servoC_eq, pairsD_len, pairsD_unif, hne])) | simp (disch := omega) only [wrapI, wrapU, shl1, shl1', shl1'', shrN, shrN', and_one] 
      all_goals first | omega | (simp; done) | (simp; omega) | skip

theorem ServoTraces_ret (s : GServo) (nl : Bool) (l : List Pair) (pos : Int) : Ret E0 F_law02_ServoTraces [servoD s, .list nl (pairsD l), .int .i64 pos] (.bool true) := by
  refine ret_of_pw dec_law02_ServoTraces mixed (by simp) fun hwf => ?_
  rw [enter_eq]; unfold pc_law02_ServoTraces
  have cF := law02_Far_ret s nl l
  have cw := law02_works_ret
  rw [servoD_eq, servoC_eq] at cF
  cases hf : s.far l with
  | true =>
    rw [hf] at cF
    (try (simp -implicitDefEqProofs only [go_sem, servoD_eq, servoC_eq])); repeat' first | with_reducible exact True.intro | with_reducible refine And.intro ?_ ?_ | with_reducible intro _ | (((with_reducible refine isCall ?_); first | refine call_b (cF) rfl ?_ ?_ | refine call_d (cF) rfl ?_ | refine call_sb (cF) rfl ?_ ?_ | refine call_s (cF) rfl rfl ?_ | refine call_b (cw) rfl ?_ ?_ | refine call_d (cw) rfl ?_ | refine call_sb (cw) rfl ?_ ?_ | refine call_s (cw) rfl rfl ?_) <;> try (simp -implicitDefEqProofs only [go_sem, servoD_eq, servoC_eq])) | (((with_reducible refine vc_b ?_ ?_) <;> intro _) <;> try (simp -implicitDefEqProofs only [go_sem, servoD_eq, servoC_eq])) | simp (disch := omega) only [wrapI, wrapU, shl1, shl1', shl1'', shrN, shrN', and_one] 
    all_goals first | omega | (simp; done) | (simp; omega) | skip
  | false =>
    rw [hf] at cF
    obtain ⟨f1, f2⟩ := far_not hf
    have cC := ref02_Copy_ret s f1
    rw [servoD_eq s, servoC_eq s] at cC
    change Ret E0 _ _ (.agg [.int .i64 s.tracks, .int .i64 s.step, .int .i64 s.move, .int .i64 s.noise, .int .i64 s.wrong, .list false (ints s.runout)]) at cC
    have a3 := servo_Trace_ret s.cp false l pos
    have a4 := ref02_CheckTrace_ret s nl l pos
    rw [cp_trace] at a3
    rw [servoD_eq, cp_servoC] at a3
    rw [servoD_eq, servoC_eq] at a4
    by_cases he : (s.trace l pos).2 = 0
    · have hk : s.known l (s.told3 l pos) = 0 := by
        rcases Classical.em (s.known l (s.told3 l pos) = 0) with h | h
        · exact h
        · simp only [GServo.trace, h, if_false] at he
      obtain ⟨hc, ht, hm⟩ := known_zero hk
      obtain ⟨hok, ha, h24⟩ := check_zero hc
      have hd := GServo.ok_head hok
      simp only [GServo.told3, Bool.and_eq_true, decide_eq_true_eq] at ht
      have hpos : 0 ≤ pos ∧ pos ≤ s.last := by simpa [inR] using ht.1
      have hw : ¬ s.wrong < (s.endL l)[pos.toNat]?.getD 0 := fun hw => by simp [GServo.trace, hk, hw] at he
      have htr : s.trace l pos = (s.path l pos, 0) := by simp [GServo.trace, hk, hw]
      have hpp := path_path hok l hpos
      obtain ⟨m1, m2⟩ := path_mis hok (l := l) (by omega) hpos
      rw [htr] at a3 a4
      have c1 := ref02_IsPath_ret s hok nl l (s.path l pos).isEmpty (s.path l pos) true ⟨fun _ => hpp, fun _ => rfl⟩
      have c2 := ref02_Misread_ret s nl l hc (s.path l pos).isEmpty (s.path l pos) hpp
      have hpl := path_len s l pos
      have hlw : s.misread l (s.path l pos) ≤ s.wrong := by omega
      rw [servoD_eq, servoC_eq] at c1 c2
      generalize s.misread l (s.path l pos) = MR at *
      generalize s.path l pos = PA at *
      dsimp only at a3 a4
      have w1 : IntKind.i64.wrap ((PA.length : Int) - 1) = (PA.length : Int) - 1 := wrapI _ (by omega)
      have e1 : ((PA.length : Int) - 1).toNat = l.length - 1 := by omega
      by_cases hl0 : l = []
      · subst hl0; simp at ht
      · have hne : ¬ (pairsD l = []) := fun hp => hl0 (by cases hh : l with | nil => rfl | cons _ _ => rw [hh] at hp; cases hp)
        (try (simp -implicitDefEqProofs only [go_sem, servoD_eq, servoC_eq, pairsD_len, pairsD_unif, hne, hlw, w1, e1, m2])); repeat' first | with_reducible exact True.intro | with_reducible refine And.intro ?_ ?_ | with_reducible intro _ | (((with_reducible refine isCall ?_); first | refine call_b (cF) rfl ?_ ?_ | refine call_d (cF) rfl ?_ | refine call_sb (cF) rfl ?_ ?_ | refine call_s (cF) rfl rfl ?_ | refine call_b (cw) rfl ?_ ?_ | refine call_d (cw) rfl ?_ | refine call_sb (cw) rfl ?_ ?_ | refine call_s (cw) rfl rfl ?_ | refine call_b (cC) rfl ?_ ?_ | refine call_d (cC) rfl ?_ | refine call_sb (cC) rfl ?_ ?_ | refine call_s (cC) rfl rfl ?_ | refine call_b (a3) rfl ?_ ?_ | refine call_d (a3) rfl ?_ | refine call_sb (a3) rfl ?_ ?_ | refine call_s (a3) rfl rfl ?_ | refine call_b (a4) rfl ?_ ?_ | refine call_d (a4) rfl ?_ | refine call_sb (a4) rfl ?_ ?_ | refine call_s (a4) rfl rfl ?_ | refine call_b (c1) rfl ?_ ?_ | refine call_d (c1) rfl ?_ | refine call_sb (c1) rfl ?_ ?_ | refine call_s (c1) rfl rfl ?_ | refine call_b (c2) rfl ?_ ?_ | refine call_d (c2) rfl ?_ | refine call_sb (c2) rfl ?_ ?_ | refine call_s (c2) rfl rfl ?_) <;> try (simp -implicitDefEqProofs only [go_sem, servoD_eq, servoC_eq, pairsD_len, pairsD_unif, hne, hlw, w1, e1, m2])) | (((with_reducible refine vc_b ?_ ?_) <;> intro _) <;> try (simp -implicitDefEqProofs only [go_sem, servoD_eq, servoC_eq, pairsD_len, pairsD_unif, hne, hlw, w1, e1, m2])) | simp (disch := omega) only [wrapI, wrapU, shl1, shl1', shl1'', shrN, shrN', and_one] 
        all_goals first | omega | (simp; done) | (simp; omega) | skip
    · have htr : (s.trace l pos).1 = [] := by
        unfold GServo.trace at he ⊢
        split
        · rename_i h1; rw [if_pos h1] at he
          split
          · rfl
          · rename_i h2; rw [if_neg h2] at he; exact absurd rfl he
        · rfl
      obtain ⟨TE, hTE⟩ : ∃ TE, (s.trace l pos).2 = TE := ⟨_, rfl⟩
      rw [htr, hTE] at a3
      rw [hTE] at a4 he
      change Ret E0 _ _ (.tup [.list true [], .int .i64 TE]) at a3
      by_cases hl0 : l = []
      · subst hl0
        change Ret E0 _ [_, .list false [], _] _ at a3
        (try (simp -implicitDefEqProofs only [go_sem, servoD_eq, servoC_eq, pairsD_nil, he])); repeat' first | with_reducible exact True.intro | with_reducible refine And.intro ?_ ?_ | with_reducible intro _ | (((with_reducible refine isCall ?_); first | refine call_b (cF) rfl ?_ ?_ | refine call_d (cF) rfl ?_ | refine call_sb (cF) rfl ?_ ?_ | refine call_s (cF) rfl rfl ?_ | refine call_b (cw) rfl ?_ ?_ | refine call_d (cw) rfl ?_ | refine call_sb (cw) rfl ?_ ?_ | refine call_s (cw) rfl rfl ?_ | refine call_b (cC) rfl ?_ ?_ | refine call_d (cC) rfl ?_ | refine call_sb (cC) rfl ?_ ?_ | refine call_s (cC) rfl rfl ?_ | refine call_b (a3) rfl ?_ ?_ | refine call_d (a3) rfl ?_ | refine call_sb (a3) rfl ?_ ?_ | refine call_s (a3) rfl rfl ?_ | refine call_b (a4) rfl ?_ ?_ | refine call_d (a4) rfl ?_ | refine call_sb (a4) rfl ?_ ?_ | refine call_s (a4) rfl rfl ?_) <;> try (simp -implicitDefEqProofs only [go_sem, servoD_eq, servoC_eq, pairsD_nil, he])) | (((with_reducible refine vc_b ?_ ?_) <;> intro _) <;> try (simp -implicitDefEqProofs only [go_sem, servoD_eq, servoC_eq, pairsD_nil, he])) | simp (disch := omega) only [wrapI, wrapU, shl1, shl1', shl1'', shrN, shrN', and_one] 
        all_goals first | omega | (simp; done) | (simp; omega) | skip
      · have hne : ¬ (pairsD l = []) := fun hp => hl0 (by cases hh : l with | nil => rfl | cons _ _ => rw [hh] at hp; cases hp)
        (try (simp -implicitDefEqProofs only [go_sem, servoD_eq, servoC_eq, pairsD_len, pairsD_unif, hne, he])); repeat' first | with_reducible exact True.intro | with_reducible refine And.intro ?_ ?_ | with_reducible intro _ | (((with_reducible refine isCall ?_); first | refine call_b (cF) rfl ?_ ?_ | refine call_d (cF) rfl ?_ | refine call_sb (cF) rfl ?_ ?_ | refine call_s (cF) rfl rfl ?_ | refine call_b (cw) rfl ?_ ?_ | refine call_d (cw) rfl ?_ | refine call_sb (cw) rfl ?_ ?_ | refine call_s (cw) rfl rfl ?_ | refine call_b (cC) rfl ?_ ?_ | refine call_d (cC) rfl ?_ | refine call_sb (cC) rfl ?_ ?_ | refine call_s (cC) rfl rfl ?_ | refine call_b (a3) rfl ?_ ?_ | refine call_d (a3) rfl ?_ | refine call_sb (a3) rfl ?_ ?_ | refine call_s (a3) rfl rfl ?_ | refine call_b (a4) rfl ?_ ?_ | refine call_d (a4) rfl ?_ | refine call_sb (a4) rfl ?_ ?_ | refine call_s (a4) rfl rfl ?_) <;> try (simp -implicitDefEqProofs only [go_sem, servoD_eq, servoC_eq, pairsD_len, pairsD_unif, hne, he])) | (((with_reducible refine vc_b ?_ ?_) <;> intro _) <;> try (simp -implicitDefEqProofs only [go_sem, servoD_eq, servoC_eq, pairsD_len, pairsD_unif, hne, he])) | simp (disch := omega) only [wrapI, wrapU, shl1, shl1', shl1'', shrN, shrN', and_one] 
        all_goals first | omega | (simp; done) | (simp; omega) | skip
end Go.Pw
