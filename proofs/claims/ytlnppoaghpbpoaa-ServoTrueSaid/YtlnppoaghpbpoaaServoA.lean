/- A part of the proof. -/
import Derived.Test.YtlnppoaghpbpoaaServoPC
import Derived.Test.YtlnppoaghpbpoaaPwVC
import Derived.Test.YtlnppoaghpbpoaaServoSpec
set_option linter.all false
open Go Go.Pw Go.Proofs
namespace Go.Pw
set_option linter.unusedSimpArgs false
set_option linter.unusedVariables false
set_option maxRecDepth 100000
set_option maxHeartbeats 400000
attribute [local congr] cg_pw cg_seqI cg_seqE cg_stepI cg_ev cg_evBin cg_condB cg_condV cg_thenQ cg_blockQ cg_onSome cg_onCells cg_onRow cg_onMap cg_onOpt cg_ghosts cg_ghost cg_evCall cg_part cg_rng cg_guardV cg_frzV cg_frpV cg_ownV cg_owcV cg_occV cg_occX cg_resK cg_res1
attribute [local irreducible] IntKind.wrap bitsOp Option.getD and or

theorem fdiv1 (c : Int) : c.fdiv (2 ^ min 1 64) = c / 2 := Int.fdiv_eq_ediv_of_nonneg _ (by decide)

theorem servo_within_ret (n lo hi : Int) : Ret E0 F_servo_within [.int .i64 n, .int .i64 lo, .int .i64 hi] (.bool (inR n lo hi)) := by
  refine ret_of_pw dec_servo_within mixed (by simp) fun hwf => ?_
  rw [enter_eq]; unfold pc_servo_within inR
  (try (simp -implicitDefEqProofs only [go_sem])); repeat' first | with_reducible exact True.intro | with_reducible refine And.intro ?_ ?_ | with_reducible intro _ | (((with_reducible refine vc_b ?_ ?_) <;> intro _) <;> try (simp -implicitDefEqProofs only [go_sem])) | simp (disch := omega) only [wrapI, wrapU, shl1, shl1', shl1'', shrN, shrN', and_one] 
  all_goals first | omega | (simp_all [inR]; done) | (simp_all [inR]; omega) | grind

theorem ref02_within_ret (n lo hi : Int) : Ret E0 F_ref02_within [.int .i64 n, .int .i64 lo, .int .i64 hi] (.bool (inR n lo hi)) := by
  refine ret_of_pw dec_ref02_within mixed (by simp) fun hwf => ?_
  rw [enter_eq]; unfold pc_ref02_within inR
  (try (simp -implicitDefEqProofs only [go_sem])); repeat' first | with_reducible exact True.intro | with_reducible refine And.intro ?_ ?_ | with_reducible intro _ | (((with_reducible refine vc_b ?_ ?_) <;> intro _) <;> try (simp -implicitDefEqProofs only [go_sem])) | simp (disch := omega) only [wrapI, wrapU, shl1, shl1', shl1'', shrN, shrN', and_one] 
  all_goals first | omega | (simp_all [inR]; done) | (simp_all [inR]; omega) | grind

theorem ref02_abs_ret (n : Int) (h : -4611686018427387904 ≤ n ∧ n ≤ 4611686018427387904) : Ret E0 F_ref02_abs [.int .i64 n] (.int .i64 (max n (-n))) := by
  refine ret_of_pw dec_ref02_abs mixed (by simp) fun hwf => ?_
  have hw : IntKind.i64.wrap (-n) = -n := wrapI _ (by omega)
  rw [enter_eq]; unfold pc_ref02_abs
  (try (simp -implicitDefEqProofs only [go_sem, hw])); repeat' first | with_reducible exact True.intro | with_reducible refine And.intro ?_ ?_ | with_reducible intro _ | (((with_reducible refine vc_b ?_ ?_) <;> intro _) <;> try (simp -implicitDefEqProofs only [go_sem, hw])) | simp (disch := omega) only [wrapI, wrapU, shl1, shl1', shl1'', shrN, shrN', and_one] 
  all_goals first | omega | (simp; done) | (simp; omega) | skip

theorem servo_gray_ret (n : Int) (h : 0 ≤ n ∧ n ≤ 127) : Ret E0 F_servo_gray [.int .i64 n] (.int .i64 (grayI n)) := by
  refine ret_of_pw dec_servo_gray mixed (by simp) fun hwf => ?_
  rw [enter_eq]; unfold pc_servo_gray grayI
  (try (simp -implicitDefEqProofs only [go_sem, fdiv1])); repeat' first | with_reducible exact True.intro | with_reducible refine And.intro ?_ ?_ | with_reducible intro _ | (((with_reducible refine vc_b ?_ ?_) <;> intro _) <;> try (simp -implicitDefEqProofs only [go_sem, fdiv1])) | simp (disch := omega) only [wrapI, wrapU, shl1, shl1', shl1'', shrN, shrN', and_one] 
  all_goals first | omega | (simp; done) | (simp; omega) | skip

theorem ref02_Code_ret (n : Int) (h : 0 ≤ n ∧ n ≤ 127) : Ret E0 F_ref02_Code [.int .i64 n] (.int .i64 (grayI n)) := by
  refine ret_of_pw dec_ref02_Code mixed (by simp) fun hwf => ?_
  have hq : n.tdiv 2 = n / 2 := Int.tdiv_eq_ediv_of_nonneg h.1
  rw [enter_eq]; unfold pc_ref02_Code grayI
  (try (simp -implicitDefEqProofs only [go_sem, hq])); repeat' first | with_reducible exact True.intro | with_reducible refine And.intro ?_ ?_ | with_reducible intro _ | (((with_reducible refine vc_b ?_ ?_) <;> intro _) <;> try (simp -implicitDefEqProofs only [go_sem, hq])) | simp (disch := omega) only [wrapI, wrapU, shl1, shl1', shl1'', shrN, shrN', and_one] 
  all_goals first | omega | (simp; done) | (simp; omega) | skip

theorem trk_fuel : ∀ (k : Nat) (c n : Int), c < 2 ^ k → trk (k + 1) c n = trk k c n
  | 0, c, n, h => by
    have : ¬ 0 < c := by simp at h; omega
    simp [trk, this]
  | k + 1, c, n, h => by
    show (if 0 < c then trk (k + 1) (c / 2) (bitsOp .xor .i64 n c) else n) = (if 0 < c then trk k (c / 2) (bitsOp .xor .i64 n c) else n)
    have h2 : c / 2 < 2 ^ k := by rw [Int.pow_succ] at h; omega
    rw [trk_fuel k _ _ h2]

theorem servo_track_ret (c0 : Int) (h : 0 ≤ c0 ∧ c0 ≤ 127) : Ret E0 F_servo_track [.int .i64 c0] (.int .i64 (trackI c0)) := by
  refine ret_of_pw dec_servo_track mixed (by simp) fun hwf => ?_
  rw [enter_eq]; unfold pc_servo_track
  (try (simp -implicitDefEqProofs only [go_sem])); repeat' first | with_reducible exact True.intro | with_reducible refine And.intro ?_ ?_ | with_reducible intro _ | (((with_reducible refine vc_b ?_ ?_) <;> intro _) <;> try (simp -implicitDefEqProofs only [go_sem])) | simp (disch := omega) only [wrapI, wrapU, shl1, shl1', shl1'', shrN, shrN', and_one] | ((with_reducible refine isEx2 ?_); refine ⟨(_, _), rfl, ?_, ?_⟩)
  refine pw_loopS (α := Int × Int) (l0 := ?l1) (m0 := ?m1) (fun x => [(0, .d (.int .i64 x.1)), (2, .d (.int .i64 x.2))]) (fun x => []) (fun x => 0 ≤ x.1 ∧ x.1 ≤ 127 ∧ trk 8 x.1 x.2 = trackI c0) (fun x => x.1.toNat) (?a1_0, ?a1_1) ?h01 ?he1 ?he21 ?hI1 ?step1
  case h01 => (simp -implicitDefEqProofs only [go_sem]; rfl)
  case he1 => rfl
  case he21 => rfl
  case' step1 => (rintro ⟨c, n⟩ hI; try dsimp only at hI)
  case' hI1 => try dsimp only
  · exact ⟨by omega, by omega, rfl⟩
  · obtain ⟨h1, h2, h3⟩ := hI
    by_cases hc : 0 < c
    · have hs : trk 8 c n = trk 8 (c / 2) (bitsOp .xor .i64 n c) := by
        rw [trk, if_pos hc, trk_fuel 7 _ _ (by omega)]
      (try (simp -implicitDefEqProofs only [go_sem, fdiv1])); repeat' first | with_reducible exact True.intro | with_reducible refine And.intro ?_ ?_ | with_reducible intro _ | (((with_reducible refine vc_b ?_ ?_) <;> intro _) <;> try (simp -implicitDefEqProofs only [go_sem, fdiv1])) | simp (disch := omega) only [wrapI, wrapU, shl1, shl1', shl1'', shrN, shrN', and_one] | ((with_reducible refine isEx2 ?_); refine ⟨(_, _), rfl, ?_, ?_⟩)
      all_goals first | omega | (simp; done) | (simp; omega) | skip
      all_goals (rw [← h3, hs])
    · have h0 : c = 0 := by omega
      subst h0
      (try (simp -implicitDefEqProofs only [go_sem])); repeat' first | with_reducible exact True.intro | with_reducible refine And.intro ?_ ?_ | with_reducible intro _ | (((with_reducible refine vc_b ?_ ?_) <;> intro _) <;> try (simp -implicitDefEqProofs only [go_sem])) | simp (disch := omega) only [wrapI, wrapU, shl1, shl1', shl1'', shrN, shrN', and_one] | ((with_reducible refine isEx2 ?_); refine ⟨(_, _), rfl, ?_, ?_⟩)
      all_goals first | omega | (simp; done) | (simp; omega) | skip
      all_goals (rw [← h3]; simp [trk])

theorem servo_Gray_ret (n : Int) : Ret E0 F_servo_Gray [.int .i64 n] (.tup [.int .i64 (if inR n 0 127 then grayI n else 0), .int .i64 (if inR n 0 127 then 0 else 1)]) := by
  refine ret_of_pw dec_servo_Gray mixed (by simp) fun hwf => ?_
  rw [enter_eq]; unfold pc_servo_Gray
  cases h : inR n 0 127 with
  | false =>
    have cw := servo_within_ret n 0 127
    rw [h] at cw
    (try (simp -implicitDefEqProofs only [go_sem])); repeat' first | with_reducible exact True.intro | with_reducible refine And.intro ?_ ?_ | with_reducible intro _ | (((with_reducible refine isCall ?_); first | refine call_b (cw) rfl ?_ ?_ | refine call_d (cw) rfl ?_ | refine call_sb (cw) rfl ?_ ?_ | refine call_s (cw) rfl rfl ?_) <;> try (simp -implicitDefEqProofs only [go_sem])) | (((with_reducible refine vc_b ?_ ?_) <;> intro _) <;> try (simp -implicitDefEqProofs only [go_sem])) | simp (disch := omega) only [wrapI, wrapU, shl1, shl1', shl1'', shrN, shrN', and_one] 
    all_goals first | omega | (simp; done) | (simp; omega) | skip
  | true =>
    have cw := servo_within_ret n 0 127
    rw [h] at cw
    have hn : 0 ≤ n ∧ n ≤ 127 := by simpa [inR] using h
    (try (simp -implicitDefEqProofs only [go_sem])); repeat' first | with_reducible exact True.intro | with_reducible refine And.intro ?_ ?_ | with_reducible intro _ | (((with_reducible refine isCall ?_); first | refine call_b (cw) rfl ?_ ?_ | refine call_d (cw) rfl ?_ | refine call_sb (cw) rfl ?_ ?_ | refine call_s (cw) rfl rfl ?_ | refine call_b (servo_gray_ret n hn) rfl ?_ ?_ | refine call_d (servo_gray_ret n hn) rfl ?_ | refine call_sb (servo_gray_ret n hn) rfl ?_ ?_ | refine call_s (servo_gray_ret n hn) rfl rfl ?_) <;> try (simp -implicitDefEqProofs only [go_sem])) | (((with_reducible refine vc_b ?_ ?_) <;> intro _) <;> try (simp -implicitDefEqProofs only [go_sem])) | simp (disch := omega) only [wrapI, wrapU, shl1, shl1', shl1'', shrN, shrN', and_one] 
    all_goals first | omega | (simp; done) | (simp; omega) | skip

theorem ref02_Gray_ret (n : Int) : Ret E0 F_ref02_Gray [.int .i64 n] (.tup [.int .i64 (if inR n 0 127 then grayI n else 0), .int .i64 (if inR n 0 127 then 0 else 1)]) := by
  refine ret_of_pw dec_ref02_Gray mixed (by simp) fun hwf => ?_
  rw [enter_eq]; unfold pc_ref02_Gray
  cases h : inR n 0 127 with
  | false =>
    have cw := ref02_within_ret n 0 127
    rw [h] at cw
    (try (simp -implicitDefEqProofs only [go_sem])); repeat' first | with_reducible exact True.intro | with_reducible refine And.intro ?_ ?_ | with_reducible intro _ | (((with_reducible refine isCall ?_); first | refine call_b (cw) rfl ?_ ?_ | refine call_d (cw) rfl ?_ | refine call_sb (cw) rfl ?_ ?_ | refine call_s (cw) rfl rfl ?_) <;> try (simp -implicitDefEqProofs only [go_sem])) | (((with_reducible refine vc_b ?_ ?_) <;> intro _) <;> try (simp -implicitDefEqProofs only [go_sem])) | simp (disch := omega) only [wrapI, wrapU, shl1, shl1', shl1'', shrN, shrN', and_one] 
    all_goals first | omega | (simp; done) | (simp; omega) | skip
  | true =>
    have cw := ref02_within_ret n 0 127
    rw [h] at cw
    have hn : 0 ≤ n ∧ n ≤ 127 := by simpa [inR] using h
    (try (simp -implicitDefEqProofs only [go_sem])); repeat' first | with_reducible exact True.intro | with_reducible refine And.intro ?_ ?_ | with_reducible intro _ | (((with_reducible refine isCall ?_); first | refine call_b (cw) rfl ?_ ?_ | refine call_d (cw) rfl ?_ | refine call_sb (cw) rfl ?_ ?_ | refine call_s (cw) rfl rfl ?_ | refine call_b (ref02_Code_ret n hn) rfl ?_ ?_ | refine call_d (ref02_Code_ret n hn) rfl ?_ | refine call_sb (ref02_Code_ret n hn) rfl ?_ ?_ | refine call_s (ref02_Code_ret n hn) rfl rfl ?_) <;> try (simp -implicitDefEqProofs only [go_sem])) | (((with_reducible refine vc_b ?_ ?_) <;> intro _) <;> try (simp -implicitDefEqProofs only [go_sem])) | simp (disch := omega) only [wrapI, wrapU, shl1, shl1', shl1'', shrN, shrN', and_one] 
    all_goals first | omega | (simp; done) | (simp; omega) | skip

theorem servo_Track_ret (n : Int) : Ret E0 F_servo_Track [.int .i64 n] (.tup [.int .i64 (if inR n 0 127 then trackI n else 0), .int .i64 (if inR n 0 127 then 0 else 1)]) := by
  refine ret_of_pw dec_servo_Track mixed (by simp) fun hwf => ?_
  rw [enter_eq]; unfold pc_servo_Track
  cases h : inR n 0 127 with
  | false =>
    have cw := servo_within_ret n 0 127
    rw [h] at cw
    (try (simp -implicitDefEqProofs only [go_sem])); repeat' first | with_reducible exact True.intro | with_reducible refine And.intro ?_ ?_ | with_reducible intro _ | (((with_reducible refine isCall ?_); first | refine call_b (cw) rfl ?_ ?_ | refine call_d (cw) rfl ?_ | refine call_sb (cw) rfl ?_ ?_ | refine call_s (cw) rfl rfl ?_) <;> try (simp -implicitDefEqProofs only [go_sem])) | (((with_reducible refine vc_b ?_ ?_) <;> intro _) <;> try (simp -implicitDefEqProofs only [go_sem])) | simp (disch := omega) only [wrapI, wrapU, shl1, shl1', shl1'', shrN, shrN', and_one] 
    all_goals first | omega | (simp; done) | (simp; omega) | skip
  | true =>
    have cw := servo_within_ret n 0 127
    rw [h] at cw
    have hn : 0 ≤ n ∧ n ≤ 127 := by simpa [inR] using h
    (try (simp -implicitDefEqProofs only [go_sem])); repeat' first | with_reducible exact True.intro | with_reducible refine And.intro ?_ ?_ | with_reducible intro _ | (((with_reducible refine isCall ?_); first | refine call_b (cw) rfl ?_ ?_ | refine call_d (cw) rfl ?_ | refine call_sb (cw) rfl ?_ ?_ | refine call_s (cw) rfl rfl ?_ | refine call_b (servo_track_ret n hn) rfl ?_ ?_ | refine call_d (servo_track_ret n hn) rfl ?_ | refine call_sb (servo_track_ret n hn) rfl ?_ ?_ | refine call_s (servo_track_ret n hn) rfl rfl ?_) <;> try (simp -implicitDefEqProofs only [go_sem])) | (((with_reducible refine vc_b ?_ ?_) <;> intro _) <;> try (simp -implicitDefEqProofs only [go_sem])) | simp (disch := omega) only [wrapI, wrapU, shl1, shl1', shl1'', shrN, shrN', and_one] 
    all_goals first | omega | (simp; done) | (simp; omega) | skip

theorem ref02_Track_ret (c : Int) : Ret E0 F_ref02_Track [.int .i64 c] (.tup [.int .i64 (if inR c 0 127 then trackI c else 0), .int .i64 (if inR c 0 127 then 0 else 1)]) := by
  refine ret_of_pw dec_ref02_Track mixed (by simp) fun hwf => ?_
  rw [enter_eq]; unfold pc_ref02_Track
  (try (simp -implicitDefEqProofs only [go_sem])); repeat' first | with_reducible exact True.intro | with_reducible refine And.intro ?_ ?_ | with_reducible intro _ | (((with_reducible refine vc_b ?_ ?_) <;> intro _) <;> try (simp -implicitDefEqProofs only [go_sem])) | simp (disch := omega) only [wrapI, wrapU, shl1, shl1', shl1'', shrN, shrN', and_one] | ((with_reducible refine isEx ?_); refine ⟨_, rfl, ?_, ?_⟩)
  refine pw_loopS (α := Int) (l0 := ?l2) (m0 := ?m2) (fun x => [(4, .d (.int .i64 x))]) (fun x => []) (fun x => 0 ≤ x ∧ x ≤ 128 ∧ ∀ j : Int, 0 ≤ j → j < x → grayI j ≠ c) (fun x => (128 - x).toNat) ?a2_0 ?h02 ?he2 ?he22 ?hI2 ?step2
  case h02 => (simp -implicitDefEqProofs only [go_sem]; rfl)
  case he2 => rfl
  case he22 => rfl
  case' step2 => (rintro i hI; try dsimp only at hI)
  case' hI2 => try dsimp only
  · exact ⟨by omega, by omega, fun j h1 h2 => by omega⟩
  · obtain ⟨h1, h2, h3⟩ := hI
    by_cases hi : i < 128
    · have hg := gray_all (n := i) (by omega)
      by_cases hc : grayI i = c
      · have hr : inR c 0 127 = true := by simp [inR]; omega
        have ht : trackI c = i := by rw [← hc]; exact hg.1
        rw [hr]
        (try (simp -implicitDefEqProofs only [go_sem, hc, ht])); repeat' first | with_reducible exact True.intro | with_reducible refine And.intro ?_ ?_ | with_reducible intro _ | (((with_reducible refine isCall ?_); first | refine call_b (ref02_Code_ret i (by omega)) rfl ?_ ?_ | refine call_d (ref02_Code_ret i (by omega)) rfl ?_ | refine call_sb (ref02_Code_ret i (by omega)) rfl ?_ ?_ | refine call_s (ref02_Code_ret i (by omega)) rfl rfl ?_) <;> try (simp -implicitDefEqProofs only [go_sem, hc, ht])) | (((with_reducible refine vc_b ?_ ?_) <;> intro _) <;> try (simp -implicitDefEqProofs only [go_sem, hc, ht])) | simp (disch := omega) only [wrapI, wrapU, shl1, shl1', shl1'', shrN, shrN', and_one] | ((with_reducible refine isEx ?_); refine ⟨_, rfl, ?_, ?_⟩)
        all_goals first | omega | (simp; done) | (simp; omega) | skip
      · (try (simp -implicitDefEqProofs only [go_sem, hc])); repeat' first | with_reducible exact True.intro | with_reducible refine And.intro ?_ ?_ | with_reducible intro _ | (((with_reducible refine isCall ?_); first | refine call_b (ref02_Code_ret i (by omega)) rfl ?_ ?_ | refine call_d (ref02_Code_ret i (by omega)) rfl ?_ | refine call_sb (ref02_Code_ret i (by omega)) rfl ?_ ?_ | refine call_s (ref02_Code_ret i (by omega)) rfl rfl ?_) <;> try (simp -implicitDefEqProofs only [go_sem, hc])) | (((with_reducible refine vc_b ?_ ?_) <;> intro _) <;> try (simp -implicitDefEqProofs only [go_sem, hc])) | simp (disch := omega) only [wrapI, wrapU, shl1, shl1', shl1'', shrN, shrN', and_one] | ((with_reducible refine isEx ?_); refine ⟨_, rfl, ?_, ?_⟩)
        all_goals first | omega | (simp; done) | (simp; omega) | skip
        all_goals
          rename_i j hj0 hj1
          rcases (show j < i ∨ j = i by omega) with h | h
          · exact h3 j hj0 h
          · rw [h]; exact hc
    · have hr : inR c 0 127 = false := by
        cases hh : inR c 0 127 with
        | false => rfl
        | true =>
          have hn : 0 ≤ c ∧ c ≤ 127 := by simpa [inR] using hh
          have hg := gray_all hn
          exact absurd hg.2.2.2.2.2 (h3 (trackI c) hg.2.2.2.1 (by omega))
      rw [hr]
      (try (simp -implicitDefEqProofs only [go_sem])); repeat' first | with_reducible exact True.intro | with_reducible refine And.intro ?_ ?_ | with_reducible intro _ | (((with_reducible refine vc_b ?_ ?_) <;> intro _) <;> try (simp -implicitDefEqProofs only [go_sem])) | simp (disch := omega) only [wrapI, wrapU, shl1, shl1', shl1'', shrN, shrN', and_one] | ((with_reducible refine isEx ?_); refine ⟨_, rfl, ?_, ?_⟩)
      all_goals first | omega | (simp; done) | (simp; omega) | skip
end Go.Pw
