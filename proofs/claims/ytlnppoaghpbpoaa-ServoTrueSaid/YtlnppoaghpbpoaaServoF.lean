/- A part of the proof. -/
import Derived.Test.YtlnppoaghpbpoaaServoE
set_option linter.all false
open Go Go.Pw Go.Proofs
namespace Go.Pw
set_option linter.unusedSimpArgs false
set_option linter.unusedVariables false
set_option maxRecDepth 100000
set_option maxHeartbeats 1600000
attribute [local congr] cg_pw cg_seqI cg_seqE cg_stepI cg_ev cg_evBin cg_condB cg_condV cg_thenQ cg_blockQ cg_onSome cg_onCells cg_onRow cg_onMap cg_onOpt cg_ghosts cg_ghost cg_evCall cg_part cg_rng cg_guardV cg_frzV cg_frpV cg_ownV cg_owcV cg_occV cg_occX cg_resK cg_res1
attribute [local irreducible] IntKind.wrap bitsOp Option.getD and or

theorem center_bound {s : GServo} (h : s.ok = true) {t : Int} (ht : 0 ≤ t ∧ t ≤ 127) (w : Int) : -16 ≤ s.center t w ∧ s.center t w ≤ 2048 := by
  have hd := GServo.ok_head h
  have hm := mul_step h ht
  have hm1 : 0 ≤ (max 0 w) % s.runout.length := Int.emod_nonneg _ (by omega)
  have hm2 : (max 0 w) % s.runout.length < s.runout.length := Int.emod_lt_of_pos _ (by omega)
  have hr := GServo.ok_run h ((max 0 w) % s.runout.length).toNat (by omega)
  unfold GServo.center
  omega
theorem agrees_eq (s : GServo) (cd b i p : Int) (hcd : cd ≠ -1) : s.agrees (cd, b) i p = (decide (trackI cd < s.tracks) && decide (2 * max (p - s.center (trackI cd) i) (-(p - s.center (trackI cd) i)) ≤ s.step) && decide (max (b - (p - s.center (trackI cd) i)) (-(b - (p - s.center (trackI cd) i))) ≤ s.noise)) := by
  simp [GServo.agrees, hcd]

theorem servo_costs_ret (s : GServo) (h : s.ok = true) (nl : Bool) (l : List Pair) (hl : l.all wedgeOk = true) (h24 : l.length ≤ 24) (i p : Int) (hi : 0 ≤ i ∧ i < l.length) (hp : 0 ≤ p ∧ p ≤ 1008) :
    Ret E0 F_servo_head_costs [.ptr (headC s nl l), .int .i64 i, .int .i64 p] (.int .i64 (if s.agrees (l[i.toNat]?.getD default) i p then 0 else 1)) := by
  refine ret_of_pw dec_servo_head_costs mixed (by simp) fun hwf => ?_
  have hd := GServo.ok_head h
  have hwo := allD_iff.1 hl i.toNat (by omega)
  obtain ⟨⟨cd, b⟩, hw⟩ : ∃ w, l[i.toNat]?.getD default = w := ⟨_, rfl⟩
  rw [hw] at hwo ⊢
  have hcb : (-1 ≤ cd ∧ cd ≤ 127) ∧ -100 ≤ b ∧ b ≤ 100 := by simpa [wedgeOk, inR] using hwo
  rw [enter_eq]; unfold pc_servo_head_costs
  by_cases hcd : cd < 0
  · have : s.agrees (cd, b) i p = true := by simp [GServo.agrees, show cd = -1 by omega]
    rw [this]
    (try (simp -implicitDefEqProofs only [go_sem, headC_eq, pairsD_len, onSome_pairs, hw, pairD_eq, hcd])); repeat' first | with_reducible exact True.intro | with_reducible refine And.intro ?_ ?_ | with_reducible intro _ | (((with_reducible refine vc_b ?_ ?_) <;> intro _) <;> try (simp -implicitDefEqProofs only [go_sem, headC_eq, pairsD_len, onSome_pairs, hw, pairD_eq, hcd])) | simp (disch := omega) only [wrapI, wrapU, shl1, shl1', shl1'', shrN, shrN', and_one] 
    all_goals first | omega | (simp; done) | (simp; omega) | skip
  · have ht := gray_all (n := cd) (by omega)
    have hcen := center_bound h (t := trackI cd) ⟨ht.2.2.2.1, ht.2.2.2.2.1⟩ i
    have c1 := servo_track_ret cd (by omega)
    have c2 := servo_lies_ret s h nl l (trackI cd) i ⟨ht.2.2.2.1, ht.2.2.2.2.1⟩ (by omega)
    rw [agrees_eq _ _ _ _ _ (by omega)]
    generalize s.center (trackI cd) i = C at *
    generalize trackI cd = T at *
    rw [headC_eq] at c2
    have w1 : IntKind.i64.wrap (p - C) = p - C := wrapI _ (by omega)
    have w2 : IntKind.i64.wrap (0 - (p - C)) = -(p - C) := by rw [wrapI (0 - (p - C)) (by omega)]; omega
    have w3 : IntKind.i64.wrap (2 * max (p - C) (-(p - C))) = 2 * max (p - C) (-(p - C)) := wrapI _ (by omega)
    have w4 : IntKind.i64.wrap (b - (p - C)) = b - (p - C) := wrapI _ (by omega)
    have w5 : IntKind.i64.wrap (0 - s.noise) = -s.noise := by rw [wrapI (0 - s.noise) (by omega)]; omega
    have c3 := servo_within_ret (b - (p - C)) (-s.noise) s.noise
    have hin : inR (b - (p - C)) (-s.noise) s.noise = decide (max (b - (p - C)) (-(b - (p - C))) ≤ s.noise) := by
      unfold inR; rw [decide_eq_decide]; omega
    rw [hin] at c3
    have hn0 : ¬ cd < 0 := hcd
    by_cases hA : T < s.tracks
    · by_cases hB : 2 * max (p - C) (-(p - C)) ≤ s.step
      · by_cases hC : max (b - (p - C)) (-(b - (p - C))) ≤ s.noise
        · have e : (if (decide (T < s.tracks) && decide (2 * max (p - C) (-(p - C)) ≤ s.step) && decide (max (b - (p - C)) (-(b - (p - C))) ≤ s.noise)) = true then (0 : Int) else 1) = 0 := by simp [hA, hB, hC]
          rw [e]; simp only [hC, decide_true] at c3
          (try (simp -implicitDefEqProofs only [go_sem, headC_eq, pairsD_len, onSome_pairs, hw, pairD_eq, hn0, w1, w2, w3, w4, w5, hA, hB])); repeat' first | with_reducible exact True.intro | with_reducible refine And.intro ?_ ?_ | with_reducible intro _ | (((with_reducible refine isCall ?_); first | refine call_b (c1) rfl ?_ ?_ | refine call_d (c1) rfl ?_ | refine call_sb (c1) rfl ?_ ?_ | refine call_s (c1) rfl rfl ?_ | refine call_b (c2) rfl ?_ ?_ | refine call_d (c2) rfl ?_ | refine call_sb (c2) rfl ?_ ?_ | refine call_s (c2) rfl rfl ?_ | refine call_b (c3) rfl ?_ ?_ | refine call_d (c3) rfl ?_ | refine call_sb (c3) rfl ?_ ?_ | refine call_s (c3) rfl rfl ?_) <;> try (simp -implicitDefEqProofs only [go_sem, headC_eq, pairsD_len, onSome_pairs, hw, pairD_eq, hn0, w1, w2, w3, w4, w5, hA, hB])) | (((with_reducible refine vc_b ?_ ?_) <;> intro _) <;> try (simp -implicitDefEqProofs only [go_sem, headC_eq, pairsD_len, onSome_pairs, hw, pairD_eq, hn0, w1, w2, w3, w4, w5, hA, hB])) | simp (disch := omega) only [wrapI, wrapU, shl1, shl1', shl1'', shrN, shrN', and_one] 
          all_goals first | omega | (simp; done) | (simp; omega) | skip
        · have e : (if (decide (T < s.tracks) && decide (2 * max (p - C) (-(p - C)) ≤ s.step) && decide (max (b - (p - C)) (-(b - (p - C))) ≤ s.noise)) = true then (0 : Int) else 1) = 1 := by simp [hA, hB, hC]
          rw [e]; simp only [hC, decide_false] at c3
          (try (simp -implicitDefEqProofs only [go_sem, headC_eq, pairsD_len, onSome_pairs, hw, pairD_eq, hn0, w1, w2, w3, w4, w5, hA, hB])); repeat' first | with_reducible exact True.intro | with_reducible refine And.intro ?_ ?_ | with_reducible intro _ | (((with_reducible refine isCall ?_); first | refine call_b (c1) rfl ?_ ?_ | refine call_d (c1) rfl ?_ | refine call_sb (c1) rfl ?_ ?_ | refine call_s (c1) rfl rfl ?_ | refine call_b (c2) rfl ?_ ?_ | refine call_d (c2) rfl ?_ | refine call_sb (c2) rfl ?_ ?_ | refine call_s (c2) rfl rfl ?_ | refine call_b (c3) rfl ?_ ?_ | refine call_d (c3) rfl ?_ | refine call_sb (c3) rfl ?_ ?_ | refine call_s (c3) rfl rfl ?_) <;> try (simp -implicitDefEqProofs only [go_sem, headC_eq, pairsD_len, onSome_pairs, hw, pairD_eq, hn0, w1, w2, w3, w4, w5, hA, hB])) | (((with_reducible refine vc_b ?_ ?_) <;> intro _) <;> try (simp -implicitDefEqProofs only [go_sem, headC_eq, pairsD_len, onSome_pairs, hw, pairD_eq, hn0, w1, w2, w3, w4, w5, hA, hB])) | simp (disch := omega) only [wrapI, wrapU, shl1, shl1', shl1'', shrN, shrN', and_one] 
          all_goals first | omega | (simp; done) | (simp; omega) | skip
      · have e : (if (decide (T < s.tracks) && decide (2 * max (p - C) (-(p - C)) ≤ s.step) && decide (max (b - (p - C)) (-(b - (p - C))) ≤ s.noise)) = true then (0 : Int) else 1) = 1 := by simp [hA, hB]
        rw [e]
        (try (simp -implicitDefEqProofs only [go_sem, headC_eq, pairsD_len, onSome_pairs, hw, pairD_eq, hn0, w1, w2, w3, w4, w5, hA, hB])); repeat' first | with_reducible exact True.intro | with_reducible refine And.intro ?_ ?_ | with_reducible intro _ | (((with_reducible refine isCall ?_); first | refine call_b (c1) rfl ?_ ?_ | refine call_d (c1) rfl ?_ | refine call_sb (c1) rfl ?_ ?_ | refine call_s (c1) rfl rfl ?_ | refine call_b (c2) rfl ?_ ?_ | refine call_d (c2) rfl ?_ | refine call_sb (c2) rfl ?_ ?_ | refine call_s (c2) rfl rfl ?_ | refine call_b (c3) rfl ?_ ?_ | refine call_d (c3) rfl ?_ | refine call_sb (c3) rfl ?_ ?_ | refine call_s (c3) rfl rfl ?_) <;> try (simp -implicitDefEqProofs only [go_sem, headC_eq, pairsD_len, onSome_pairs, hw, pairD_eq, hn0, w1, w2, w3, w4, w5, hA, hB])) | (((with_reducible refine vc_b ?_ ?_) <;> intro _) <;> try (simp -implicitDefEqProofs only [go_sem, headC_eq, pairsD_len, onSome_pairs, hw, pairD_eq, hn0, w1, w2, w3, w4, w5, hA, hB])) | simp (disch := omega) only [wrapI, wrapU, shl1, shl1', shl1'', shrN, shrN', and_one] 
        all_goals first | omega | (simp; done) | (simp; omega) | skip
    · have e : (if (decide (T < s.tracks) && decide (2 * max (p - C) (-(p - C)) ≤ s.step) && decide (max (b - (p - C)) (-(b - (p - C))) ≤ s.noise)) = true then (0 : Int) else 1) = 1 := by simp [hA]
      rw [e]
      (try (simp -implicitDefEqProofs only [go_sem, headC_eq, pairsD_len, onSome_pairs, hw, pairD_eq, hn0, w1, w2, w3, w4, w5, hA])); repeat' first | with_reducible exact True.intro | with_reducible refine And.intro ?_ ?_ | with_reducible intro _ | (((with_reducible refine isCall ?_); first | refine call_b (c1) rfl ?_ ?_ | refine call_d (c1) rfl ?_ | refine call_sb (c1) rfl ?_ ?_ | refine call_s (c1) rfl rfl ?_ | refine call_b (c2) rfl ?_ ?_ | refine call_d (c2) rfl ?_ | refine call_sb (c2) rfl ?_ ?_ | refine call_s (c2) rfl rfl ?_ | refine call_b (c3) rfl ?_ ?_ | refine call_d (c3) rfl ?_ | refine call_sb (c3) rfl ?_ ?_ | refine call_s (c3) rfl rfl ?_) <;> try (simp -implicitDefEqProofs only [go_sem, headC_eq, pairsD_len, onSome_pairs, hw, pairD_eq, hn0, w1, w2, w3, w4, w5, hA])) | (((with_reducible refine vc_b ?_ ?_) <;> intro _) <;> try (simp -implicitDefEqProofs only [go_sem, headC_eq, pairsD_len, onSome_pairs, hw, pairD_eq, hn0, w1, w2, w3, w4, w5, hA])) | simp (disch := omega) only [wrapI, wrapU, shl1, shl1', shl1'', shrN, shrN', and_one] 
      all_goals first | omega | (simp; done) | (simp; omega) | skip
end Go.Pw
