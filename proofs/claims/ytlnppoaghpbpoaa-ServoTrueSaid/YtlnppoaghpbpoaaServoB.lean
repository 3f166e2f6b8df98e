/- A part of the proof. -/
import Derived.Test.YtlnppoaghpbpoaaServoA
set_option linter.all false
open Go Go.Pw Go.Proofs
namespace Go.Pw
set_option linter.unusedSimpArgs false
set_option linter.unusedVariables false
set_option maxRecDepth 100000
set_option maxHeartbeats 1600000
attribute [local congr] cg_pw cg_seqI cg_seqE cg_stepI cg_ev cg_evBin cg_condB cg_condV cg_thenQ cg_blockQ cg_onSome cg_onCells cg_onRow cg_onMap cg_onOpt cg_ghosts cg_ghost cg_evCall cg_part cg_rng cg_guardV cg_frzV cg_frpV cg_ownV cg_owcV cg_occV cg_occX cg_resK cg_res1
attribute [local irreducible] IntKind.wrap bitsOp Option.getD and or

theorem servo_isServo_1_ret (n : Int) : Ret E0 F_servo_isServo_1 [.int .i64 n] (.bool (inR n (-16) 16)) := by
  refine ret_of_pw dec_servo_isServo_1 mixed (by simp) fun hwf => ?_
  rw [enter_eq]; unfold pc_servo_isServo_1
  (try (simp -implicitDefEqProofs only [go_sem])); repeat' first | with_reducible exact True.intro | with_reducible refine And.intro ?_ ?_ | with_reducible intro _ | (((with_reducible refine isCall ?_); first | refine call_b (servo_within_ret n (-16) 16) rfl ?_ ?_ | refine call_d (servo_within_ret n (-16) 16) rfl ?_ | refine call_sb (servo_within_ret n (-16) 16) rfl ?_ ?_ | refine call_s (servo_within_ret n (-16) 16) rfl rfl ?_) <;> try (simp -implicitDefEqProofs only [go_sem])) | (((with_reducible refine vc_b ?_ ?_) <;> intro _) <;> try (simp -implicitDefEqProofs only [go_sem])) | simp (disch := omega) only [wrapI, wrapU, shl1, shl1', shl1'', shrN, shrN', and_one] 
  all_goals simp [*]

theorem servo_isServo_ret (s : GServo) : Ret E0 F_servo_isServo [servoD s] (.bool s.ok) := by
  refine ret_of_pw dec_servo_isServo mixed (by simp) fun hwf => ?_
  simp only [wf_int, wf_bool, wf_ints, wf_list, wf_agg, wf_ptr, wf_fn, wf_tup, wf_all_cons, wf_all_nil, wf_all_map, inK_i64, maxLen_eq, List.length_map, ints_len, true_and, and_true, servoD_eq, servoC_eq] at hwf
  have hb72 : hasBody E0.P 72 = true := by kernel_rfl
  rw [enter_eq]; unfold pc_servo_isServo
  (try (simp -implicitDefEqProofs only [go_sem, servoD_eq, servoC_eq])); repeat' first | with_reducible exact True.intro | with_reducible refine And.intro ?_ ?_ | with_reducible intro _ | (((with_reducible refine vc_b ?_ ?_) <;> intro _) <;> try (simp -implicitDefEqProofs only [go_sem, servoD_eq, servoC_eq])) | simp (disch := omega) only [wrapI, wrapU, shl1, shl1', shl1'', shrN, shrN', and_one] | ((with_reducible refine isEx ?_); refine ⟨_, rfl, ?_, ?_⟩)
  refine pw_loopS (α := Int) (l0 := ?l1) (m0 := ?m1) (fun x => [(9, .d (.int .i64 x))]) (fun x => []) (fun x => 0 ≤ x ∧ x ≤ s.runout.length ∧ ∀ (j : Nat), (j : Int) < x → inR (s.runout[j]?.getD 0) (-16) 16 = true) (fun x => (s.runout.length - x).toNat) ?a1_0 ?h01 ?he1 ?he21 ?hI1 ?step1
  case h01 => (simp -implicitDefEqProofs only [go_sem, servoD_eq, servoC_eq]; rfl)
  case he1 => rfl
  case he21 => rfl
  case' step1 => (rintro i hI; try dsimp only at hI)
  case' hI1 => try dsimp only
  · exact ⟨by omega, by omega, fun j hj => by omega⟩
  · obtain ⟨h1, h2, h3⟩ := hI
    by_cases hi : i < s.runout.length
    · have c1 := servo_isServo_1_ret (s.runout[i.toNat]?.getD 0)
      cases hb : inR (s.runout[i.toNat]?.getD 0) (-16) 16 with
      | true =>
        rw [hb] at c1
        (try (simp -implicitDefEqProofs only [go_sem, servoC_eq, hb72])); repeat' first | with_reducible exact True.intro | with_reducible refine And.intro ?_ ?_ | with_reducible intro _ | (((with_reducible refine isCall ?_); first | refine call_b (c1) rfl ?_ ?_ | refine call_d (c1) rfl ?_ | refine call_sb (c1) rfl ?_ ?_ | refine call_s (c1) rfl rfl ?_) <;> try (simp -implicitDefEqProofs only [go_sem, servoC_eq, hb72])) | (((with_reducible refine vc_b ?_ ?_) <;> intro _) <;> try (simp -implicitDefEqProofs only [go_sem, servoC_eq, hb72])) | simp (disch := omega) only [wrapI, wrapU, shl1, shl1', shl1'', shrN, shrN', and_one] | ((with_reducible refine isEx ?_); refine ⟨_, rfl, ?_, ?_⟩)
        all_goals first | omega | (simp; done) | (simp; omega) | skip
        all_goals
          rename_i j hj
          rcases (show (j : Int) < i ∨ j = i.toNat by omega) with h | h
          · exact h3 j h
          · rw [h]; exact hb
      | false =>
        rw [hb] at c1
        have hbad : s.ok = false := by rw [GServo.ok, all_bad (j := i.toNat) (by omega) hb]; simp
        rw [hbad]
        (try (simp -implicitDefEqProofs only [go_sem, servoC_eq, hb72])); repeat' first | with_reducible exact True.intro | with_reducible refine And.intro ?_ ?_ | with_reducible intro _ | (((with_reducible refine isCall ?_); first | refine call_b (c1) rfl ?_ ?_ | refine call_d (c1) rfl ?_ | refine call_sb (c1) rfl ?_ ?_ | refine call_s (c1) rfl rfl ?_) <;> try (simp -implicitDefEqProofs only [go_sem, servoC_eq, hb72])) | (((with_reducible refine vc_b ?_ ?_) <;> intro _) <;> try (simp -implicitDefEqProofs only [go_sem, servoC_eq, hb72])) | simp (disch := omega) only [wrapI, wrapU, shl1, shl1', shl1'', shrN, shrN', and_one] | ((with_reducible refine isEx ?_); refine ⟨_, rfl, ?_, ?_⟩)
        all_goals first | omega | (simp; done) | (simp; omega) | skip
    · have hall : s.runout.all (fun n => inR n (-16) 16) = true := all_iff.2 fun j hj => h3 j (by omega)
      have hok : s.ok = s.head := by rw [GServo.ok, hall]; simp
      rw [hok, GServo.head]
      (try (simp -implicitDefEqProofs only [go_sem, servoC_eq])); repeat' first | with_reducible exact True.intro | with_reducible refine And.intro ?_ ?_ | with_reducible intro _ | (((with_reducible refine isCall ?_); first | refine call_b (servo_within_ret _ _ _) rfl ?_ ?_ | refine call_d (servo_within_ret _ _ _) rfl ?_ | refine call_sb (servo_within_ret _ _ _) rfl ?_ ?_ | refine call_s (servo_within_ret _ _ _) rfl rfl ?_) <;> try (simp -implicitDefEqProofs only [go_sem, servoC_eq])) | (((with_reducible refine vc_b ?_ ?_) <;> intro _) <;> try (simp -implicitDefEqProofs only [go_sem, servoC_eq])) | simp (disch := omega) only [wrapI, wrapU, shl1, shl1', shl1'', shrN, shrN', and_one] | ((with_reducible refine isEx ?_); refine ⟨_, rfl, ?_, ?_⟩)
      all_goals first | omega | (simp_all; done)

theorem ref02_IsServo_ret (s : GServo) : Ret E0 F_ref02_IsServo [servoD s] (.bool s.ok) := by
  refine ret_of_pw dec_ref02_IsServo mixed (by simp) fun hwf => ?_
  simp only [wf_int, wf_bool, wf_ints, wf_list, wf_agg, wf_ptr, wf_fn, wf_tup, wf_all_cons, wf_all_nil, wf_all_map, inK_i64, maxLen_eq, List.length_map, ints_len, true_and, and_true, servoD_eq, servoC_eq] at hwf
  rw [enter_eq]; unfold pc_ref02_IsServo
  (try (simp -implicitDefEqProofs only [go_sem, servoD_eq, servoC_eq])); repeat' first | with_reducible exact True.intro | with_reducible refine And.intro ?_ ?_ | with_reducible intro _ | (((with_reducible refine vc_b ?_ ?_) <;> intro _) <;> try (simp -implicitDefEqProofs only [go_sem, servoD_eq, servoC_eq])) | simp (disch := omega) only [wrapI, wrapU, shl1, shl1', shl1'', shrN, shrN', and_one] | ((with_reducible refine isEx ?_); refine ⟨_, rfl, ?_, ?_⟩)
  refine pw_loopS (α := Int) (l0 := ?l2) (m0 := ?m2) (fun x => [(3, .d (.int .i64 x))]) (fun x => []) (fun x => 0 ≤ x ∧ x ≤ s.runout.length ∧ ∀ (j : Nat), (j : Int) < x → inR (s.runout[j]?.getD 0) (-16) 16 = true) (fun x => (s.runout.length - x).toNat) ?a2_0 ?h02 ?he2 ?he22 ?hI2 ?step2
  case h02 => (simp -implicitDefEqProofs only [go_sem, servoD_eq, servoC_eq]; rfl)
  case he2 => rfl
  case he22 => rfl
  case' step2 => (rintro i hI; try dsimp only at hI)
  case' hI2 => try dsimp only
  · exact ⟨by omega, by omega, fun j hj => by omega⟩
  · obtain ⟨h1, h2, h3⟩ := hI
    by_cases hi : i < s.runout.length
    · have c1 := ref02_within_ret (s.runout[i.toNat]?.getD 0) (-16) 16
      cases hb : inR (s.runout[i.toNat]?.getD 0) (-16) 16 with
      | true =>
        rw [hb] at c1
        (try (simp -implicitDefEqProofs only [go_sem, servoC_eq])); repeat' first | with_reducible exact True.intro | with_reducible refine And.intro ?_ ?_ | with_reducible intro _ | (((with_reducible refine isCall ?_); first | refine call_b (c1) rfl ?_ ?_ | refine call_d (c1) rfl ?_ | refine call_sb (c1) rfl ?_ ?_ | refine call_s (c1) rfl rfl ?_) <;> try (simp -implicitDefEqProofs only [go_sem, servoC_eq])) | (((with_reducible refine vc_b ?_ ?_) <;> intro _) <;> try (simp -implicitDefEqProofs only [go_sem, servoC_eq])) | simp (disch := omega) only [wrapI, wrapU, shl1, shl1', shl1'', shrN, shrN', and_one] | ((with_reducible refine isEx ?_); refine ⟨_, rfl, ?_, ?_⟩)
        all_goals first | omega | (simp; done) | (simp; omega) | skip
        all_goals
          rename_i j hj
          rcases (show (j : Int) < i ∨ j = i.toNat by omega) with h | h
          · exact h3 j h
          · rw [h]; exact hb
      | false =>
        rw [hb] at c1
        have hbad : s.ok = false := by rw [GServo.ok, all_bad (j := i.toNat) (by omega) hb]; simp
        rw [hbad]
        (try (simp -implicitDefEqProofs only [go_sem, servoC_eq])); repeat' first | with_reducible exact True.intro | with_reducible refine And.intro ?_ ?_ | with_reducible intro _ | (((with_reducible refine isCall ?_); first | refine call_b (c1) rfl ?_ ?_ | refine call_d (c1) rfl ?_ | refine call_sb (c1) rfl ?_ ?_ | refine call_s (c1) rfl rfl ?_) <;> try (simp -implicitDefEqProofs only [go_sem, servoC_eq])) | (((with_reducible refine vc_b ?_ ?_) <;> intro _) <;> try (simp -implicitDefEqProofs only [go_sem, servoC_eq])) | simp (disch := omega) only [wrapI, wrapU, shl1, shl1', shl1'', shrN, shrN', and_one] | ((with_reducible refine isEx ?_); refine ⟨_, rfl, ?_, ?_⟩)
        all_goals first | omega | (simp; done) | (simp; omega) | skip
    · have hall : s.runout.all (fun n => inR n (-16) 16) = true := all_iff.2 fun j hj => h3 j (by omega)
      have hok : s.ok = s.head := by rw [GServo.ok, hall]; simp
      rw [hok, GServo.head]
      (try (simp -implicitDefEqProofs only [go_sem, servoC_eq])); repeat' first | with_reducible exact True.intro | with_reducible refine And.intro ?_ ?_ | with_reducible intro _ | (((with_reducible refine isCall ?_); first | refine call_b (ref02_within_ret _ _ _) rfl ?_ ?_ | refine call_d (ref02_within_ret _ _ _) rfl ?_ | refine call_sb (ref02_within_ret _ _ _) rfl ?_ ?_ | refine call_s (ref02_within_ret _ _ _) rfl rfl ?_) <;> try (simp -implicitDefEqProofs only [go_sem, servoC_eq])) | (((with_reducible refine vc_b ?_ ?_) <;> intro _) <;> try (simp -implicitDefEqProofs only [go_sem, servoC_eq])) | simp (disch := omega) only [wrapI, wrapU, shl1, shl1', shl1'', shrN, shrN', and_one] | ((with_reducible refine isEx ?_); refine ⟨_, rfl, ?_, ?_⟩)
      all_goals first | omega | (simp_all; done)
end Go.Pw
