/- A part of the proof. -/
import Derived.Test.YtlnppoaghpbpoaaServoD
set_option linter.all false
open Go Go.Pw Go.Proofs
namespace Go.Pw
set_option linter.unusedSimpArgs false
set_option linter.unusedVariables false
set_option maxRecDepth 100000
set_option maxHeartbeats 1600000
attribute [local congr] cg_pw cg_seqI cg_seqE cg_stepI cg_ev cg_evBin cg_condB cg_condV cg_thenQ cg_blockQ cg_onSome cg_onCells cg_onRow cg_onMap cg_onOpt cg_ghosts cg_ghost cg_evCall cg_part cg_rng cg_guardV cg_frzV cg_frpV cg_ownV cg_owcV cg_occV cg_occX cg_resK cg_res1
attribute [local irreducible] IntKind.wrap bitsOp Option.getD and or

def headC (s : GServo) (nl : Bool) (l : List Pair) : List D := [.int .i64 s.tracks, .int .i64 s.step, .int .i64 s.move, .int .i64 s.noise, .int .i64 s.wrong, .list s.nr (ints s.runout), .list nl (pairsD l), .int .i64 s.last]
theorem headC_eq (s : GServo) (nl : Bool) (l : List Pair) : headC s nl l = [.int .i64 s.tracks, .int .i64 s.step, .int .i64 s.move, .int .i64 s.noise, .int .i64 s.wrong, .list s.nr (ints s.runout), .list nl (pairsD l), .int .i64 s.last] := rfl

theorem GServo.ok_head {s : GServo} (h : s.ok = true) : (1 ≤ s.tracks ∧ s.tracks ≤ 64) ∧ (1 ≤ s.step ∧ s.step ≤ 16) ∧ (0 ≤ s.move ∧ s.move ≤ 64) ∧ (0 ≤ s.noise ∧ s.noise ≤ 16) ∧ (0 ≤ s.wrong ∧ s.wrong ≤ 3) ∧ (1 ≤ s.runout.length ∧ s.runout.length ≤ 16) := by
  simp [GServo.ok, GServo.head, inR] at h
  omega
theorem GServo.ok_run {s : GServo} (h : s.ok = true) (j : Nat) (hj : j < s.runout.length) : -16 ≤ s.runout[j]?.getD 0 ∧ s.runout[j]?.getD 0 ≤ 16 := by
  simp only [GServo.ok, Bool.and_eq_true] at h
  have := all_iff.1 h.1 j hj
  simpa [inR] using this
theorem mul_step {s : GServo} (h : s.ok = true) {t : Int} (ht : 0 ≤ t ∧ t ≤ 127) : 0 ≤ t * s.step ∧ t * s.step ≤ 2032 := by
  have hd := GServo.ok_head h
  have h1 : t * s.step ≤ 127 * s.step := Int.mul_le_mul_of_nonneg_right ht.2 (by omega)
  have h2 : 0 ≤ t * s.step := Int.mul_nonneg ht.1 (by omega)
  omega

theorem servo_lies_ret (s : GServo) (h : s.ok = true) (nl : Bool) (l : List Pair) (t w : Int) (ht : 0 ≤ t ∧ t ≤ 127) (hw : 0 ≤ w ∧ w ≤ 1000000) :
    Ret E0 F_servo_head_lies [.ptr (headC s nl l), .int .i64 t, .int .i64 w] (.int .i64 (s.center t w)) := by
  refine ret_of_pw dec_servo_head_lies mixed (by simp) fun hwf => ?_
  have hd := GServo.ok_head h
  have hm := mul_step h ht
  have hmod : w.tmod s.runout.length = w % s.runout.length := Int.tmod_eq_emod_of_nonneg hw.1
  have hm1 : 0 ≤ w % s.runout.length := Int.emod_nonneg _ (by omega)
  have hm2 : w % s.runout.length < s.runout.length := Int.emod_lt_of_pos _ (by omega)
  have hr := GServo.ok_run h (w % s.runout.length).toNat (by omega)
  have hmax : max 0 w = w := by omega
  rw [enter_eq]; unfold pc_servo_head_lies GServo.center
  rw [hmax]
  have w1 : IntKind.i64.wrap (t * s.step) = t * s.step := wrapI _ (by omega)
  have w2 : IntKind.i64.wrap (w % s.runout.length) = w % s.runout.length := wrapI _ (by omega)
  have w3 : IntKind.i64.wrap (t * s.step + s.runout[(w % s.runout.length).toNat]?.getD 0) = t * s.step + s.runout[(w % s.runout.length).toNat]?.getD 0 := wrapI _ (by omega)
  (try (simp -implicitDefEqProofs only [go_sem, headC_eq, hmod, w1, w2, w3])); repeat' first | with_reducible exact True.intro | with_reducible refine And.intro ?_ ?_ | with_reducible intro _ | (((with_reducible refine vc_b ?_ ?_) <;> intro _) <;> try (simp -implicitDefEqProofs only [go_sem, headC_eq, hmod, w1, w2, w3])) | simp (disch := omega) only [wrapI, wrapU, shl1, shl1', shl1'', shrN, shrN', and_one] 
  all_goals first | omega | (simp; done) | (simp; omega) | skip

theorem ref02_Center_ret (s : GServo) (h : s.ok = true) (t w : Int) (ht : 0 ≤ t ∧ t ≤ 127) (hw : -1 ≤ w ∧ w ≤ 1000000) :
    Ret E0 F_ref02_Center [servoD s, .int .i64 t, .int .i64 w] (.int .i64 (s.center t w)) := by
  refine ret_of_pw dec_ref02_Center mixed (by simp) fun hwf => ?_
  have hd := GServo.ok_head h
  have hm := mul_step h ht
  obtain ⟨m, hmax⟩ : ∃ m, max 0 w = m := ⟨_, rfl⟩
  have hmod : m.tmod s.runout.length = m % s.runout.length := Int.tmod_eq_emod_of_nonneg (by omega)
  have hm1 : 0 ≤ m % s.runout.length := Int.emod_nonneg _ (by omega)
  have hm2 : m % s.runout.length < s.runout.length := Int.emod_lt_of_pos _ (by omega)
  have hr := GServo.ok_run h (m % s.runout.length).toNat (by omega)
  rw [enter_eq]; unfold pc_ref02_Center GServo.center
  rw [hmax]
  have w1 : IntKind.i64.wrap (t * s.step) = t * s.step := wrapI _ (by omega)
  have w2 : IntKind.i64.wrap (m % s.runout.length) = m % s.runout.length := wrapI _ (by omega)
  have w3 : IntKind.i64.wrap (t * s.step + s.runout[(m % s.runout.length).toNat]?.getD 0) = t * s.step + s.runout[(m % s.runout.length).toNat]?.getD 0 := wrapI _ (by omega)
  (try (simp -implicitDefEqProofs only [go_sem, servoD_eq, servoC_eq, hmax, hmod, w1, w2, w3])); repeat' first | with_reducible exact True.intro | with_reducible refine And.intro ?_ ?_ | with_reducible intro _ | (((with_reducible refine vc_b ?_ ?_) <;> intro _) <;> try (simp -implicitDefEqProofs only [go_sem, servoD_eq, servoC_eq, hmax, hmod, w1, w2, w3])) | simp (disch := omega) only [wrapI, wrapU, shl1, shl1', shl1'', shrN, shrN', and_one] 
  all_goals first | omega | (simp; done) | (simp; omega) | skip

theorem ref02_Last_ret (s : GServo) (h : s.ok = true) : Ret E0 F_ref02_Last [servoD s] (.int .i64 s.last) := by
  refine ret_of_pw dec_ref02_Last mixed (by simp) fun hwf => ?_
  have hd := GServo.ok_head h
  rw [enter_eq]; unfold pc_ref02_Last GServo.last
  have w1 : IntKind.i64.wrap (s.tracks - 1) = s.tracks - 1 := wrapI _ (by omega)
  have h1 : s.step * (s.tracks - 1) ≤ 16 * (s.tracks - 1) := Int.mul_le_mul_of_nonneg_right (by omega) (by omega)
  have h2 : 0 ≤ s.step * (s.tracks - 1) := Int.mul_nonneg (by omega) (by omega)
  have w2 : IntKind.i64.wrap (s.step * (s.tracks - 1)) = s.step * (s.tracks - 1) := wrapI _ (by omega)
  (try (simp -implicitDefEqProofs only [go_sem, servoD_eq, servoC_eq, w1, w2])); repeat' first | with_reducible exact True.intro | with_reducible refine And.intro ?_ ?_ | with_reducible intro _ | (((with_reducible refine vc_b ?_ ?_) <;> intro _) <;> try (simp -implicitDefEqProofs only [go_sem, servoD_eq, servoC_eq, w1, w2])) | simp (disch := omega) only [wrapI, wrapU, shl1, shl1', shl1'', shrN, shrN', and_one] 
  all_goals first | omega | (simp; done) | (simp; omega) | skip
end Go.Pw
