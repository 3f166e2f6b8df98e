/- A part of the proof. -/
import Derived.Test.YtlmkpaimjpdhiaaDoorCorrectPC
import Derived.Test.YtlmkpaimjpdhiaaDoorCorrectSpec
set_option linter.all false
section
open Go Go.Pw Go.Proofs
namespace Go.Pw
set_option linter.unusedSimpArgs false
set_option linter.unusedVariables false
set_option maxRecDepth 100000
set_option maxHeartbeats 1600000

theorem tmod15 (n : Nat) : (Int.tmod (n : Int) 15) = ((n % 15 : Nat) : Int) := by rw [Int.tmod_eq_emod_of_nonneg (by omega)]; omega
/-- The product by 2, as the specification has it. -/
theorem tw_lo : ∀ a : F, a.val < 8 → (2 * (a.val : Int)) = ((fm 2 a).val : Int) := by decide +kernel
theorem tw_hi : ∀ a : F, ¬ a.val < 8 → bitsOp .xor .i64 (2 * (a.val : Int) - 16) 3 = ((fm 2 a).val : Int) := by decide +kernel
/-- The product as the specification has it: over the bits of b. -/
def tmS : Nat → F → Nat → F → F
  | 0, _, _, n => n
  | k + 1, a, b, n => tmS k (fm 2 a) (b / 2) (if b % 2 = 1 then fa n a else n)
theorem tmS_fm : ∀ a b : F, tmS 4 a b.val 0 = fm a b := by decide +kernel
attribute [local congr] cg_pw cg_seqI cg_seqE cg_stepI cg_ev cg_evBin cg_condB cg_condV cg_thenQ cg_blockQ cg_onSome cg_onCells cg_onRow cg_onRow2 cg_onMtx cg_frmV cg_fraV cg_frcV cg_frcO cg_frcX cg_fraO cg_owmV cg_ghosts cg_ghost cg_evCall cg_part cg_rng cg_guardV cg_frzV cg_frpV cg_ownV cg_resK cg_res1
attribute [local irreducible] IntKind.wrap bitsOp Option.getD and or

theorem correct_power_ret (n : Nat) (hn : n ≤ 1000000) : Ret E0 F_correct_power [.int .i64 n] (.int .u8 ((gp n).val : Int)) := by
  refine ret_of_pw dec_correct_power mixed (by simp) fun hwf => ?_
  rw [enter_eq]; unfold pc_correct_power
  (try (simp -implicitDefEqProofs only [go_sem, tmod15, pws_get])); repeat' first | with_reducible exact True.intro | with_reducible refine And.intro ?_ ?_ | with_reducible intro _ | (((with_reducible refine vc_b ?_ ?_) <;> intro _) <;> try (simp -implicitDefEqProofs only [go_sem, tmod15, pws_get])) | simp (disch := omega) only [wrapI, wrapU, shl1, shl1', shl1'', shrN, shrN', and_one] 
  all_goals first | omega | (simp; done) | (simp; omega) | skip

theorem correct_inverse_ret (a : F) : Ret E0 F_correct_symbol_inverse [.int .u8 (a.val : Int)] (.int .u8 ((fi a).val : Int)) := by
  refine ret_of_pw dec_correct_symbol_inverse mixed (by simp) fun hwf => ?_
  rw [enter_eq]; unfold pc_correct_symbol_inverse fi
  have hl := lg_lt a
  have hv := val_ne a
  have hw : IntKind.i64.wrap (15 - (lg a : Int)) = ((15 - lg a : Nat) : Int) := by rw [wrapI _ (by omega)]; omega
  have c1 := correct_power_ret (15 - lg a) (by omega)
  (try (simp -implicitDefEqProofs only [go_sem, hw])); repeat' first | with_reducible exact True.intro | with_reducible refine And.intro ?_ ?_ | with_reducible intro _ | (((with_reducible refine isCall ?_); first | refine call_b (c1) rfl ?_ ?_ | refine call_d (c1) rfl ?_ | refine call_sb (c1) rfl ?_ ?_ | refine call_s (c1) rfl rfl ?_) <;> try (simp -implicitDefEqProofs only [go_sem, hw])) | (((with_reducible refine vc_b ?_ ?_) <;> intro _) <;> try (simp -implicitDefEqProofs only [go_sem, hw])) | simp (disch := omega) only [wrapI, wrapU, shl1, shl1', shl1'', shrN, shrN', and_one] 
  all_goals first | omega | (simp; done) | (simp; omega) | skip

theorem correct_times_ret (a b : F) : Ret E0 F_correct_symbol_times [.int .u8 (a.val : Int), .int .u8 (b.val : Int)] (.int .u8 ((fm a b).val : Int)) := by
  refine ret_of_pw dec_correct_symbol_times mixed (by simp) fun hwf => ?_
  rw [enter_eq]; unfold pc_correct_symbol_times
  have hl := lg_lt a
  have hl2 := lg_lt b
  have hv := val_ne a
  have hv2 := val_ne b
  have hw : IntKind.i64.wrap ((lg a : Int) + (lg b : Int)) = ((lg a + lg b : Nat) : Int) := by rw [wrapI _ (by omega)]; omega
  have c1 := correct_power_ret (lg a + lg b) (by omega)
  by_cases ha : a = 0
  · subst ha
    (try (simp -implicitDefEqProofs only [go_sem, zero_fm])); repeat' first | with_reducible exact True.intro | with_reducible refine And.intro ?_ ?_ | with_reducible intro _ | (((with_reducible refine vc_b ?_ ?_) <;> intro _) <;> try (simp -implicitDefEqProofs only [go_sem, zero_fm])) | simp (disch := omega) only [wrapI, wrapU, shl1, shl1', shl1'', shrN, shrN', and_one] 
    all_goals first | rfl | (simp at *; done)
  · by_cases hb : b = 0
    · subst hb
      (try (simp -implicitDefEqProofs only [go_sem, fm_zero, ha])); repeat' first | with_reducible exact True.intro | with_reducible refine And.intro ?_ ?_ | with_reducible intro _ | (((with_reducible refine vc_b ?_ ?_) <;> intro _) <;> try (simp -implicitDefEqProofs only [go_sem, fm_zero, ha])) | simp (disch := omega) only [wrapI, wrapU, shl1, shl1', shl1'', shrN, shrN', and_one] 
      all_goals first | rfl | (simp at *; done)
    · have hf : fm a b = gp (lg a + lg b) := by unfold fm; rw [if_neg (by simp [ha, hb])]
      (try (simp -implicitDefEqProofs only [go_sem, hw, ha, hb, hf])); repeat' first | with_reducible exact True.intro | with_reducible refine And.intro ?_ ?_ | with_reducible intro _ | (((with_reducible refine isCall ?_); first | refine call_b (c1) rfl ?_ ?_ | refine call_d (c1) rfl ?_ | refine call_sb (c1) rfl ?_ ?_ | refine call_s (c1) rfl rfl ?_) <;> try (simp -implicitDefEqProofs only [go_sem, hw, ha, hb, hf])) | (((with_reducible refine vc_b ?_ ?_) <;> intro _) <;> try (simp -implicitDefEqProofs only [go_sem, hw, ha, hb, hf])) | simp (disch := omega) only [wrapI, wrapU, shl1, shl1', shl1'', shrN, shrN', and_one] 
      all_goals first | omega | (simp; done) | (simp; omega) | skip
      all_goals first | rfl | (simp at *; done)
end Go.Pw
end
section
open Go Go.Pw Go.Proofs
namespace Go.Pw
set_option linter.unusedSimpArgs false
set_option linter.unusedVariables false
set_option maxRecDepth 100000
set_option maxHeartbeats 1600000
/-- A code. -/
def codD (L P : Nat) : D := .agg [.int .i64 L, .int .i64 P]
theorem codD_eq (L P : Nat) : codD L P = .agg [.int .i64 L, .int .i64 P] := rfl
theorem gp_tw : ∀ n : Nat, gp (n + 1) = fm 2 (gp n) := gp_succ
theorem bitF (b : F) (i : Nat) (hi : i < 4) : bitsOp .and .i64 ((b.val : Int).fdiv (2 ^ min i IntKind.i64.bits)) 1 = ((b.val / 2 ^ i % 2 : Nat) : Int) := by
  have hm : min i IntKind.i64.bits = i := by
    have : IntKind.i64.bits = 64 := rfl
    rw [this]; omega
  rw [and_one, hm, shr_eq]
  simp
theorem bitF' (b : F) (i : Nat) (hi : i < 4) : bitsOp .and .i64 ((b.val : Int).fdiv (2 ^ min i 64)) 1 = ((b.val / 2 ^ i % 2 : Nat) : Int) := bitF b i hi
theorem tmS_eq (k : Nat) (a : F) (b : Nat) (n : F) : tmS (k + 1) a b n = tmS k (fm 2 a) (b / 2) (if b % 2 = 1 then fa n a else n) := rfl
attribute [local congr] cg_pw cg_seqI cg_seqE cg_stepI cg_ev cg_evBin cg_condB cg_condV cg_thenQ cg_blockQ cg_onSome cg_onCells cg_onRow cg_onRow2 cg_onMtx cg_frmV cg_fraV cg_frcV cg_frcO cg_frcX cg_fraO cg_owmV cg_ghosts cg_ghost cg_evCall cg_part cg_rng cg_guardV cg_frzV cg_frpV cg_ownV cg_resK cg_res1
attribute [local irreducible] IntKind.wrap bitsOp Option.getD and or

theorem correct_factor_ret (L P i j : Nat) (hL : L ≤ 100) (hi : i ≤ 100) (hj : j < L) : Ret E0 F_correct_code_factor [codD L P, .int .i64 i, .int .i64 j] (.int .u8 ((gp (i * (L - 1 - j))).val : Int)) := by
  refine ret_of_pw dec_correct_code_factor mixed (by simp) fun hwf => ?_
  rw [enter_eq]; unfold pc_correct_code_factor
  have hb : i * (L - 1 - j) ≤ 100 * 100 := Nat.mul_le_mul hi (by omega)
  have hw1 : IntKind.i64.wrap ((L : Int) - 1) = ((L - 1 : Nat) : Int) := by rw [wrapI _ (by omega)]; omega
  have hw2 : IntKind.i64.wrap (((L - 1 : Nat) : Int) - (j : Int)) = ((L - 1 - j : Nat) : Int) := by rw [wrapI _ (by omega)]; omega
  have hw3 : IntKind.i64.wrap ((i : Int) * ((L - 1 - j : Nat) : Int)) = ((i * (L - 1 - j) : Nat) : Int) := by rw [← Int.natCast_mul, wrapI _ (by omega)]
  have c1 := correct_power_ret (i * (L - 1 - j)) (by omega)
  (try (simp -implicitDefEqProofs only [go_sem, codD_eq, hw1, hw2, hw3])); repeat' first | with_reducible exact True.intro | with_reducible refine And.intro ?_ ?_ | with_reducible intro _ | (((with_reducible refine isCall ?_); first | refine call_b (c1) rfl ?_ ?_ | refine call_d (c1) rfl ?_ | refine call_sb (c1) rfl ?_ ?_ | refine call_s (c1) rfl rfl ?_) <;> try (simp -implicitDefEqProofs only [go_sem, codD_eq, hw1, hw2, hw3])) | (((with_reducible refine vc_b ?_ ?_) <;> intro _) <;> try (simp -implicitDefEqProofs only [go_sem, codD_eq, hw1, hw2, hw3])) | simp (disch := omega) only [wrapI, wrapU, shl1, shl1', shl1'', shrN, shrN', and_one] 
  all_goals first | omega | (simp; done) | (simp; omega) | skip

theorem ref05_twice_ret (a : F) : Ret E0 F_ref05_twice [.int .i64 (a.val : Int)] (.int .i64 ((fm 2 a).val : Int)) := by
  refine ret_of_pw dec_ref05_twice mixed (by simp) fun hwf => ?_
  rw [enter_eq]; unfold pc_ref05_twice
  have hv := val_ne a
  by_cases h : a.val < 8
  · have h' : (a.val : Int) < 8 := by omega
    have hw : IntKind.i64.wrap (2 * (a.val : Int)) = 2 * (a.val : Int) := wrapI _ (by omega)
    (try (simp -implicitDefEqProofs only [go_sem, hw, h', tw_lo a h])); repeat' first | with_reducible exact True.intro | with_reducible refine And.intro ?_ ?_ | with_reducible intro _ | (((with_reducible refine vc_b ?_ ?_) <;> intro _) <;> try (simp -implicitDefEqProofs only [go_sem, hw, h', tw_lo a h])) | simp (disch := omega) only [wrapI, wrapU, shl1, shl1', shl1'', shrN, shrN', and_one] 
    all_goals first | omega | (simp; done) | (simp; omega) | skip
  · have h' : ¬ (a.val : Int) < 8 := by omega
    have hw : IntKind.i64.wrap (2 * (a.val : Int)) = 2 * (a.val : Int) := wrapI _ (by omega)
    have hw2 : IntKind.i64.wrap (2 * (a.val : Int) - 16) = 2 * (a.val : Int) - 16 := wrapI _ (by omega)
    (try (simp -implicitDefEqProofs only [go_sem, hw, hw2, h', tw_hi a h])); repeat' first | with_reducible exact True.intro | with_reducible refine And.intro ?_ ?_ | with_reducible intro _ | (((with_reducible refine vc_b ?_ ?_) <;> intro _) <;> try (simp -implicitDefEqProofs only [go_sem, hw, hw2, h', tw_hi a h])) | simp (disch := omega) only [wrapI, wrapU, shl1, shl1', shl1'', shrN, shrN', and_one] 
    all_goals first | omega | (simp; done) | (simp; omega) | skip

theorem ref05_Power_ret (n : Nat) (hn : n ≤ 1000000) : Ret E0 F_ref05_Power [.int .i64 n] (.int .i64 ((gp n).val : Int)) := by
  refine ret_of_pw dec_ref05_Power mixed (by simp) fun hwf => ?_
  rw [enter_eq]; unfold pc_ref05_Power
  (try (simp -implicitDefEqProofs only [go_sem])); repeat' first | with_reducible exact True.intro | with_reducible refine And.intro ?_ ?_ | with_reducible intro _ | (((with_reducible refine vc_b ?_ ?_) <;> intro _) <;> try (simp -implicitDefEqProofs only [go_sem])) | simp (disch := omega) only [wrapI, wrapU, shl1, shl1', shl1'', shrN, shrN', and_one] | ((with_reducible refine isEx2 ?_); refine ⟨(_, _), rfl, ?_, ?_⟩)
  refine pw_loopS (α := Nat × F) (l0 := ?l1) (m0 := ?m1) (fun x => [(4, .d (.int .i64 (x.1 : Int))), (3, .d (.int .i64 (x.2.val : Int)))]) (fun x => []) (fun x => x.1 ≤ n ∧ x.2 = gp x.1) (fun x => n - x.1) (0, 1) ?h01 ?he1 ?he21 ?hI1 ?step1
  case h01 => (simp -implicitDefEqProofs only [go_sem]; rfl)
  case he1 => rfl
  case he21 => rfl
  case' step1 => (rintro ⟨k, a⟩ hI; try dsimp only at hI)
  case' hI1 => try dsimp only
  · exact ⟨by omega, gp_zero.symm⟩
  · obtain ⟨h1, h2⟩ := hI
    subst h2
    by_cases h : k < n
    · have h' : (k : Int) < (n : Int) := by omega
      have hw : IntKind.i64.wrap ((k : Int) + 1) = ((k + 1 : Nat) : Int) := by rw [wrapI _ (by omega)]; omega
      have c1 := ref05_twice_ret (gp k)
      (try (simp -implicitDefEqProofs only [go_sem, h', hw, ← gp_tw])); repeat' first | with_reducible exact True.intro | with_reducible refine And.intro ?_ ?_ | with_reducible intro _ | (((with_reducible refine isCall ?_); first | refine call_b (c1) rfl ?_ ?_ | refine call_d (c1) rfl ?_ | refine call_sb (c1) rfl ?_ ?_ | refine call_s (c1) rfl rfl ?_) <;> try (simp -implicitDefEqProofs only [go_sem, h', hw, ← gp_tw])) | (((with_reducible refine vc_b ?_ ?_) <;> intro _) <;> try (simp -implicitDefEqProofs only [go_sem, h', hw, ← gp_tw])) | simp (disch := omega) only [wrapI, wrapU, shl1, shl1', shl1'', shrN, shrN', and_one] | ((with_reducible refine isEx2 ?_); refine ⟨(_, _), rfl, ?_, ?_⟩)
      all_goals first | omega | (simp; done) | (simp; omega) | skip
      all_goals first | rfl | (simp at *; done) | skip
    · have h' : ¬ (k : Int) < (n : Int) := by omega
      have hk : k = n := by omega
      subst hk
      (try (simp -implicitDefEqProofs only [go_sem, h'])); repeat' first | with_reducible exact True.intro | with_reducible refine And.intro ?_ ?_ | with_reducible intro _ | (((with_reducible refine vc_b ?_ ?_) <;> intro _) <;> try (simp -implicitDefEqProofs only [go_sem, h'])) | simp (disch := omega) only [wrapI, wrapU, shl1, shl1', shl1'', shrN, shrN', and_one] | ((with_reducible refine isEx2 ?_); refine ⟨(_, _), rfl, ?_, ?_⟩)
      all_goals first | omega | (simp; done) | (simp; omega) | skip

theorem ref05_Times_ret (a0 b : F) : Ret E0 F_ref05_Times [.int .i64 (a0.val : Int), .int .i64 (b.val : Int)] (.int .i64 ((fm a0 b).val : Int)) := by
  refine ret_of_pw dec_ref05_Times mixed (by simp) fun hwf => ?_
  rw [enter_eq]; unfold pc_ref05_Times
  (try (simp -implicitDefEqProofs only [go_sem])); repeat' first | with_reducible exact True.intro | with_reducible refine And.intro ?_ ?_ | with_reducible intro _ | (((with_reducible refine vc_b ?_ ?_) <;> intro _) <;> try (simp -implicitDefEqProofs only [go_sem])) | simp (disch := omega) only [wrapI, wrapU, shl1, shl1', shl1'', shrN, shrN', and_one] | ((with_reducible refine isEx3 ?_); refine ⟨(_, _, _), rfl, ?_, ?_⟩)
  refine pw_loopS (α := Nat × F × F) (l0 := ?l2) (m0 := ?m2) (fun x => [(6, .d (.int .i64 (x.1 : Int))), (0, .d (.int .i64 (x.2.1.val : Int))), (5, .d (.int .i64 (x.2.2.val : Int)))]) (fun x => []) (fun x => x.1 ≤ 4 ∧ tmS (4 - x.1) x.2.1 (b.val / 2 ^ x.1) x.2.2 = fm a0 b) (fun x => 4 - x.1) (0, a0, 0) ?h02 ?he2 ?he22 ?hI2 ?step2
  case h02 => (simp -implicitDefEqProofs only [go_sem]; rfl)
  case he2 => rfl
  case he22 => rfl
  case' step2 => (rintro ⟨k, a, n⟩ hI; try dsimp only at hI)
  case' hI2 => try dsimp only
  · exact ⟨by omega, by simpa using tmS_fm a0 b⟩
  · obtain ⟨h1, h2⟩ := hI
    by_cases h : k < 4
    · have h' : (k : Int) < 4 := by omega
      have hw : IntKind.i64.wrap ((k : Int) + 1) = ((k + 1 : Nat) : Int) := by rw [wrapI _ (by omega)]; omega
      have hu : IntKind.u64.wrap (k : Int) = (k : Int) := wrapU _ (by omega)
      have c1 := ref05_twice_ret a
      have hs : tmS (4 - k) a (b.val / 2 ^ k) n = tmS (4 - (k + 1)) (fm 2 a) (b.val / 2 ^ (k + 1)) (if b.val / 2 ^ k % 2 = 1 then fa n a else n) := by
        rw [show 4 - k = (4 - (k + 1)) + 1 by omega, tmS_eq, Nat.div_div_eq_div_mul, ← Nat.pow_succ]
      have hbf := bitF b k h
      have hbf' := bitF' b k h
      rw [hs] at h2
      have h01 : b.val / 2 ^ k % 2 = 0 ∨ b.val / 2 ^ k % 2 = 1 := by omega
      rcases h01 with h01 | h01
      · rw [h01] at hbf hbf' h2
        simp only [Nat.zero_ne_one, if_false] at h2
        (try (simp -implicitDefEqProofs only [go_sem, h', hw, hu, hbf, hbf'])); repeat' first | with_reducible exact True.intro | with_reducible refine And.intro ?_ ?_ | with_reducible intro _ | (((with_reducible refine isCall ?_); first | refine call_b (c1) rfl ?_ ?_ | refine call_d (c1) rfl ?_ | refine call_sb (c1) rfl ?_ ?_ | refine call_s (c1) rfl rfl ?_) <;> try (simp -implicitDefEqProofs only [go_sem, h', hw, hu, hbf, hbf'])) | (((with_reducible refine vc_b ?_ ?_) <;> intro _) <;> try (simp -implicitDefEqProofs only [go_sem, h', hw, hu, hbf, hbf'])) | simp (disch := omega) only [wrapI, wrapU, shl1, shl1', shl1'', shrN, shrN', and_one] | ((with_reducible refine isEx3 ?_); refine ⟨(_, _, _), rfl, ?_, ?_⟩)
        all_goals first | omega | (simp; done) | (simp; omega) | skip
        all_goals first | exact h2 | (simp at *; done) | skip
      · rw [h01] at hbf hbf' h2
        simp only [if_true] at h2
        (try (simp -implicitDefEqProofs only [go_sem, h', hw, hu, hbf, hbf'])); repeat' first | with_reducible exact True.intro | with_reducible refine And.intro ?_ ?_ | with_reducible intro _ | (((with_reducible refine isCall ?_); first | refine call_b (c1) rfl ?_ ?_ | refine call_d (c1) rfl ?_ | refine call_sb (c1) rfl ?_ ?_ | refine call_s (c1) rfl rfl ?_) <;> try (simp -implicitDefEqProofs only [go_sem, h', hw, hu, hbf, hbf'])) | (((with_reducible refine vc_b ?_ ?_) <;> intro _) <;> try (simp -implicitDefEqProofs only [go_sem, h', hw, hu, hbf, hbf'])) | simp (disch := omega) only [wrapI, wrapU, shl1, shl1', shl1'', shrN, shrN', and_one] | ((with_reducible refine isEx3 ?_); refine ⟨(_, _, _), rfl, ?_, ?_⟩)
        all_goals first | omega | (simp; done) | (simp; omega) | skip
        all_goals first | exact h2 | (simp at *; done) | skip
    · have h' : ¬ (k : Int) < 4 := by omega
      have hk : k = 4 := by omega
      subst hk
      (try (simp -implicitDefEqProofs only [go_sem, h'])); repeat' first | with_reducible exact True.intro | with_reducible refine And.intro ?_ ?_ | with_reducible intro _ | (((with_reducible refine vc_b ?_ ?_) <;> intro _) <;> try (simp -implicitDefEqProofs only [go_sem, h'])) | simp (disch := omega) only [wrapI, wrapU, shl1, shl1', shl1'', shrN, shrN', and_one] | ((with_reducible refine isEx3 ?_); refine ⟨(_, _, _), rfl, ?_, ?_⟩)
      all_goals first | omega | (simp; done) | (simp; omega) | skip
      all_goals (rw [← h2]; rfl)
end Go.Pw
end
section
open Go Go.Pw Go.Proofs
namespace Go.Pw
set_option linter.unusedSimpArgs false
set_option linter.unusedVariables false
set_option maxRecDepth 100000
set_option maxHeartbeats 1600000
/-- The quotient of two symbols, as the specification finds it. -/
def ov (a b : F) : F := if b = 0 then 0 else fm a (fi b)
theorem ov_hit : ∀ a b n : F, fm n b = a → (∀ m : F, m.val < n.val → fm m b ≠ a) → n = ov a b := by decide +kernel
theorem ov_miss : ∀ a b : F, (∀ m : F, m.val < 16 → fm m b ≠ a) → ov a b = 0 := by decide +kernel
def codOK (L P : Int) : Bool := decide (2 ≤ L ∧ L ≤ 15 ∧ 1 ≤ P ∧ P ≤ 8 ∧ P < L)
def symB (n : Int) : Bool := decide (0 ≤ n ∧ n ≤ 15)
def symsB (l : List Int) (m : Int) : Bool := decide ((l.length : Int) = m) && l.all symB
def mkB (l : List Int) (m : Int) (i : Nat) : Bool := decide (0 ≤ l[i]?.getD 0 ∧ l[i]?.getD 0 < m ∧ (0 < i → l[i - 1]?.getD 0 < l[i]?.getD 0))
def marksB (l : List Int) (m : Int) : Bool := (List.range l.length).all (mkB l m)
theorem all_none {α : Type} {p : α → Bool} {l : List α} {i : Nat} {d : α} (hi : i < l.length) (h : p (l[i]?.getD d) = false) : l.all p = false := by
  rw [List.all_eq_false]
  refine ⟨l[i]?.getD d, ?_, by simp [h]⟩
  rw [List.getElem?_eq_getElem hi]; simp
theorem all_yes {α : Type} {p : α → Bool} {l : List α} {d : α} (h : ∀ i, i < l.length → p (l[i]?.getD d) = true) : l.all p = true := by
  rw [List.all_eq_true]
  intro x hx
  obtain ⟨i, hi, rfl⟩ := List.getElem_of_mem hx
  have := h i hi
  rwa [List.getElem?_eq_getElem hi] at this
theorem marks_no {l : List Int} {m : Int} {i : Nat} (hi : i < l.length) (h : mkB l m i = false) : marksB l m = false := by
  unfold marksB; rw [List.all_eq_false]; exact ⟨i, by simpa using hi, by simp [h]⟩
theorem marks_yes {l : List Int} {m : Int} (h : ∀ i, i < l.length → mkB l m i = true) : marksB l m = true := by
  unfold marksB; rw [List.all_eq_true]; intro i hi; exact h i (by simpa using hi)
def inB (l : List Int) (n : Int) : Bool := l.contains n
theorem inB_no {l : List Int} {n : Int} (h : ∀ i, i < l.length → l[i]?.getD 0 ≠ n) : inB l n = false := by
  unfold inB
  rw [List.contains_eq_any_beq, List.any_eq_false]
  intro x hx
  obtain ⟨i, hi, rfl⟩ := List.getElem_of_mem hx
  have := h i hi
  rw [List.getElem?_eq_getElem hi] at this
  simpa using fun e => this e.symm
theorem inB_yes {l : List Int} {n : Int} {i : Nat} (hi : i < l.length) (h : l[i]?.getD 0 = n) : inB l n = true := by
  unfold inB
  rw [List.contains_iff_mem, ← h, List.getElem?_eq_getElem hi]; simp
theorem wrap8 : ∀ a : F, IntKind.u8.wrap (a.val : Int) = (a.val : Int) := by decide +kernel
theorem wrap64 : ∀ a : F, IntKind.i64.wrap (a.val : Int) = (a.val : Int) := by decide +kernel
theorem val_eq (a b : F) : ((a.val : Int) = (b.val : Int)) = (a = b) := by
  simp only [eq_iff_iff]
  exact ⟨fun h => Fin.ext (by omega), fun h => by rw [h]⟩
attribute [local congr] cg_pw cg_seqI cg_seqE cg_stepI cg_ev cg_evBin cg_condB cg_condV cg_thenQ cg_blockQ cg_onSome cg_onCells cg_onRow cg_onRow2 cg_onMtx cg_frmV cg_fraV cg_frcV cg_frcO cg_frcX cg_fraO cg_owmV cg_ghosts cg_ghost cg_evCall cg_part cg_rng cg_guardV cg_frzV cg_frpV cg_ownV cg_resK cg_res1
attribute [local irreducible] IntKind.wrap bitsOp Option.getD and or

theorem ref05_over_ret (a b : F) : Ret E0 F_ref05_over [.int .i64 (a.val : Int), .int .i64 (b.val : Int)] (.int .i64 ((ov a b).val : Int)) := by
  refine ret_of_pw dec_ref05_over mixed (by simp) fun hwf => ?_
  rw [enter_eq]; unfold pc_ref05_over
  (try (simp -implicitDefEqProofs only [go_sem])); repeat' first | with_reducible exact True.intro | with_reducible refine And.intro ?_ ?_ | with_reducible intro _ | (((with_reducible refine vc_b ?_ ?_) <;> intro _) <;> try (simp -implicitDefEqProofs only [go_sem])) | simp (disch := omega) only [wrapI, wrapU, shl1, shl1', shl1'', shrN, shrN', and_one] | ((with_reducible refine isEx ?_); refine ⟨_, rfl, ?_, ?_⟩)
  refine pw_loopS (α := Nat) (l0 := ?l1) (m0 := ?m1) (fun x => [(5, .d (.int .i64 (x : Int)))]) (fun x => []) (fun x => x ≤ 16 ∧ ∀ m : F, m.val < x → fm m b ≠ a) (fun x => 16 - x) 0 ?h01 ?he1 ?he21 ?hI1 ?step1
  case h01 => (simp -implicitDefEqProofs only [go_sem]; rfl)
  case he1 => rfl
  case he21 => rfl
  case' step1 => (rintro n hI; try dsimp only at hI)
  case' hI1 => try dsimp only
  · exact ⟨by omega, fun m hm => absurd hm (by omega)⟩
  · obtain ⟨h1, h2⟩ := hI
    by_cases h : n < 16
    · have h' : (n : Int) < 16 := by omega
      have hw : IntKind.i64.wrap ((n : Int) + 1) = ((n + 1 : Nat) : Int) := by rw [wrapI _ (by omega)]; omega
      have c1 : Ret E0 F_ref05_Times [.int .i64 (n : Int), .int .i64 (b.val : Int)] (.int .i64 ((fm ⟨n, h⟩ b).val : Int)) := ref05_Times_ret ⟨n, h⟩ b
      by_cases he : fm ⟨n, h⟩ b = a
      · have hov := ov_hit a b ⟨n, h⟩ he h2
        rw [he] at c1
        (try (simp -implicitDefEqProofs only [go_sem, h', hw])); repeat' first | with_reducible exact True.intro | with_reducible refine And.intro ?_ ?_ | with_reducible intro _ | (((with_reducible refine isCall ?_); first | refine call_b (c1) rfl ?_ ?_ | refine call_d (c1) rfl ?_ | refine call_sb (c1) rfl ?_ ?_ | refine call_s (c1) rfl rfl ?_) <;> try (simp -implicitDefEqProofs only [go_sem, h', hw])) | (((with_reducible refine vc_b ?_ ?_) <;> intro _) <;> try (simp -implicitDefEqProofs only [go_sem, h', hw])) | simp (disch := omega) only [wrapI, wrapU, shl1, shl1', shl1'', shrN, shrN', and_one] | ((with_reducible refine isEx ?_); refine ⟨_, rfl, ?_, ?_⟩)
        all_goals first | omega | (simp; done) | (simp; omega) | skip
        all_goals first | (rw [← hov]; done) | (rw [← hov]; rfl) | (simp at *; done) | skip
      · have hne : ¬ ((fm ⟨n, h⟩ b).val : Int) = (a.val : Int) := by rw [val_eq]; exact he
        (try (simp -implicitDefEqProofs only [go_sem, h', hw, hne])); repeat' first | with_reducible exact True.intro | with_reducible refine And.intro ?_ ?_ | with_reducible intro _ | (((with_reducible refine isCall ?_); first | refine call_b (c1) rfl ?_ ?_ | refine call_d (c1) rfl ?_ | refine call_sb (c1) rfl ?_ ?_ | refine call_s (c1) rfl rfl ?_) <;> try (simp -implicitDefEqProofs only [go_sem, h', hw, hne])) | (((with_reducible refine vc_b ?_ ?_) <;> intro _) <;> try (simp -implicitDefEqProofs only [go_sem, h', hw, hne])) | simp (disch := omega) only [wrapI, wrapU, shl1, shl1', shl1'', shrN, shrN', and_one] | ((with_reducible refine isEx ?_); refine ⟨_, rfl, ?_, ?_⟩)
        all_goals first | omega | (simp; done) | (simp; omega) | skip
        all_goals first
          | (rename_i m hm
             rcases Nat.lt_succ_iff_lt_or_eq.1 hm with hm | hm
             · exact h2 m hm
             · have : m = ⟨n, h⟩ := Fin.ext hm
               rw [this]; exact he)
          | skip
    · have h' : ¬ (n : Int) < 16 := by omega
      have hk : n = 16 := by omega
      subst hk
      have hov := ov_miss a b h2
      (try (simp -implicitDefEqProofs only [go_sem, h', hov])); repeat' first | with_reducible exact True.intro | with_reducible refine And.intro ?_ ?_ | with_reducible intro _ | (((with_reducible refine vc_b ?_ ?_) <;> intro _) <;> try (simp -implicitDefEqProofs only [go_sem, h', hov])) | simp (disch := omega) only [wrapI, wrapU, shl1, shl1', shl1'', shrN, shrN', and_one] | ((with_reducible refine isEx ?_); refine ⟨_, rfl, ?_, ?_⟩)
      all_goals first | omega | (simp; done) | (simp; omega) | skip
      all_goals rfl

theorem ref05_within_ret (n lo hi : Int) : Ret E0 F_ref05_within [.int .i64 n, .int .i64 lo, .int .i64 hi] (.bool (decide (lo ≤ n ∧ n ≤ hi))) := by
  refine ret_of_pw dec_ref05_within mixed (by simp) fun hwf => ?_
  rw [enter_eq]; unfold pc_ref05_within
  (try (simp -implicitDefEqProofs only [go_sem])); repeat' first | with_reducible exact True.intro | with_reducible refine And.intro ?_ ?_ | with_reducible intro _ | (((with_reducible refine vc_b ?_ ?_) <;> intro _) <;> try (simp -implicitDefEqProofs only [go_sem])) | simp (disch := omega) only [wrapI, wrapU, shl1, shl1', shl1'', shrN, shrN', and_one] 
  all_goals first | omega | (simp_all; done) | (simp_all; omega)

theorem correct_Check_ret (L P : Int) : Ret E0 F_correct_Check [.agg [.int .i64 L, .int .i64 P]] (.int .i64 (if codOK L P then 0 else 50)) := by
  refine ret_of_pw dec_correct_Check mixed (by simp) fun hwf => ?_
  rw [enter_eq]; unfold pc_correct_Check codOK
  (try (simp -implicitDefEqProofs only [go_sem])); repeat' first | with_reducible exact True.intro | with_reducible refine And.intro ?_ ?_ | with_reducible intro _ | (((with_reducible refine vc_b ?_ ?_) <;> intro _) <;> try (simp -implicitDefEqProofs only [go_sem])) | simp (disch := omega) only [wrapI, wrapU, shl1, shl1', shl1'', shrN, shrN', and_one] 
  all_goals first | omega | (simp_all; done) | (simp_all; omega) | grind

theorem ref05_Check_ret (L P : Int) : Ret E0 F_ref05_Check [.agg [.int .i64 L, .int .i64 P]] (.int .i64 (if codOK L P then 0 else 50)) := by
  refine ret_of_pw dec_ref05_Check mixed (by simp) fun hwf => ?_
  rw [enter_eq]; unfold pc_ref05_Check codOK
  have c1 := ref05_within_ret
  (try (simp -implicitDefEqProofs only [go_sem])); repeat' first | with_reducible exact True.intro | with_reducible refine And.intro ?_ ?_ | with_reducible intro _ | (((with_reducible refine isCall ?_); first | refine call_b (c1 _ _ _) rfl ?_ ?_ | refine call_d (c1 _ _ _) rfl ?_ | refine call_sb (c1 _ _ _) rfl ?_ ?_ | refine call_s (c1 _ _ _) rfl rfl ?_) <;> try (simp -implicitDefEqProofs only [go_sem])) | (((with_reducible refine vc_b ?_ ?_) <;> intro _) <;> try (simp -implicitDefEqProofs only [go_sem])) | simp (disch := omega) only [wrapI, wrapU, shl1, shl1', shl1'', shrN, shrN', and_one] 
  all_goals first | omega | (simp_all; done) | (simp_all; omega) | grind

theorem correct_are_1_ret (n : Int) : Ret E0 F_correct_are_1 [.int .i64 n] (.bool (!symB n)) := by
  refine ret_of_pw dec_correct_are_1 mixed (by simp) fun hwf => ?_
  rw [enter_eq]; unfold pc_correct_are_1 symB
  (try (simp -implicitDefEqProofs only [go_sem])); repeat' first | with_reducible exact True.intro | with_reducible refine And.intro ?_ ?_ | with_reducible intro _ | (((with_reducible refine vc_b ?_ ?_) <;> intro _) <;> try (simp -implicitDefEqProofs only [go_sem])) | simp (disch := omega) only [wrapI, wrapU, shl1, shl1', shl1'', shrN, shrN', and_one] 
  all_goals first | omega | (simp_all; done) | (simp_all; omega) | grind
theorem body_are_1 : hasBody E0.P F_correct_are_1 = true := by kernel_rfl
theorem body_numbers_1 : hasBody E0.P F_correct_numbers_1 = true := by kernel_rfl
theorem body_symbols_1 : hasBody E0.P F_correct_symbols_1 = true := by kernel_rfl
theorem body_solve_1 : hasBody E0.P F_correct_code_solve_1 = true := by kernel_rfl

theorem IndexFunc_int_ret (nl : Bool) (xs : List Int) (f : FuncId) (cs : List D) (p : Int → Bool) (hb : hasBody E0.P f = true) (hcs : listM AV.toD1 (cs.map .d) = some cs) (h : ∀ x, x ∈ xs → Ret E0 f (.int .i64 x :: cs) (.bool (p x))) :
    Ret E0 F_slices_IndexFunc_int_int [.list nl (ints xs), .fn f cs] (.int .i64 (match xs.findIdx? p with | some i => i | none => -1)) := by
  refine ret_of_pw dec_slices_IndexFunc_int_int mixed (by simp) fun hwf => ?_
  simp only [wf_int, wf_bool, wf_ints, wf_list, wf_agg, wf_ptr, wf_fn, wf_tup, wf_all_cons, wf_all_nil, wf_all_map, inK_i64, maxLen_eq, List.length_map, ints_len, true_and, and_true] at hwf
  rw [enter_eq]; unfold pc_slices_IndexFunc_int_int
  simp -implicitDefEqProofs only [go_sem]
  refine pw_loopS (α := Int) (l0 := ?l2) (m0 := ?m2) (fun x => [(8, .d (.int .i64 x))]) (fun x => []) (fun x => 0 ≤ x ∧ x ≤ xs.length ∧ ∀ (j : Nat) (hj : j < xs.length), (j : Int) < x → p xs[j] = false) (fun x => (xs.length - x).toNat) ?a2_0 ?h02 ?he2 ?he22 ?hI2 ?step2
  case h02 => (simp -implicitDefEqProofs only [go_sem]; rfl)
  case he2 => rfl
  case he22 => rfl
  case' step2 => (rintro i hI; try dsimp only at hI)
  case' hI2 => try dsimp only
  · simp
    omega
  · (try (simp -implicitDefEqProofs only [go_sem])); repeat' first | with_reducible exact True.intro | with_reducible refine And.intro ?_ ?_ | with_reducible intro _ | (((with_reducible refine vc_b ?_ ?_) <;> intro _) <;> try (simp -implicitDefEqProofs only [go_sem])) | simp (disch := omega) only [wrapI, wrapU, shl1, shl1', shl1'', shrN, shrN', and_one] | ((with_reducible refine isEx ?_); refine ⟨_, rfl, ?_, ?_⟩)
    all_goals first | omega | (simp; done) | (simp; omega) | skip
    · have hx : xs[i.toNat]?.getD 0 = xs[i.toNat]'(by omega) := by rw [List.getElem?_eq_getElem (by omega), Option.getD_some]
      rw [hx]
      refine call_b (h _ (List.getElem_mem _)) (argsD0_cons rfl hcs) (fun hp => ?_) (fun hp => ?_)
      · simp -implicitDefEqProofs only [go_sem]
        have : xs.findIdx? p = some i.toNat := by rw [List.findIdx?_eq_some_iff_getElem]; exact ⟨by omega, hp, fun j hj => by simp [hI.2.2 j (by omega) (by omega)]⟩
        rw [this]; simp; omega
      · (try (simp -implicitDefEqProofs only [go_sem])); repeat' first | with_reducible exact True.intro | with_reducible refine And.intro ?_ ?_ | with_reducible intro _ | (((with_reducible refine vc_b ?_ ?_) <;> intro _) <;> try (simp -implicitDefEqProofs only [go_sem])) | simp (disch := omega) only [wrapI, wrapU, shl1, shl1', shl1'', shrN, shrN', and_one] | ((with_reducible refine isEx ?_); refine ⟨_, rfl, ?_, ?_⟩)
        all_goals first | omega | (simp; done) | (simp; omega) | skip
        rename_i j hj hlt
        by_cases hjk : j = i.toNat
        · subst hjk; exact hp
        · exact hI.2.2 j hj (by omega)
    · have : xs.findIdx? p = none := by
        rw [List.findIdx?_eq_none_iff]; intro x hx; obtain ⟨j, hj, rfl⟩ := List.getElem_of_mem hx; exact hI.2.2 j hj (by omega)
      rw [this]

theorem ContainsFunc_int_ret (nl : Bool) (xs : List Int) (f : FuncId) (cs : List D) (p : Int → Bool) (hb : hasBody E0.P f = true) (hcs : listM AV.toD1 (cs.map .d) = some cs) (h : ∀ x, x ∈ xs → Ret E0 f (.int .i64 x :: cs) (.bool (p x))) :
    Ret E0 F_slices_ContainsFunc_int_int [.list nl (ints xs), .fn f cs] (.bool (xs.any p)) := by
  refine ret_of_pw dec_slices_ContainsFunc_int_int mixed (by simp) fun hwf => ?_
  rw [enter_eq]; unfold pc_slices_ContainsFunc_int_int
  simp -implicitDefEqProofs only [go_sem]
  refine call_d (IndexFunc_int_ret nl xs f cs p hb hcs h) rfl ?_
  simp -implicitDefEqProofs only [go_sem]
  have key : (0 : Int) ≤ (match xs.findIdx? p with | some i => (i : Int) | none => -1) ↔ xs.any p = true := by
    cases hf : xs.findIdx? p with
    | none => rw [List.findIdx?_eq_none_iff] at hf; simp; intro x hx; simp [hf x hx]
    | some i => rw [List.findIdx?_eq_some_iff_getElem] at hf; simp; exact ⟨_, List.getElem_mem hf.1, hf.2.1⟩
  grind

theorem any_not (xs : List Int) (p : Int → Bool) : (!xs.any fun n => !p n) = xs.all p := by
  rw [List.all_eq_not_any_not]

theorem correct_are_ret (nl : Bool) (xs : List Int) (m : Int) : Ret E0 F_correct_are [.list nl (ints xs), .int .i64 m] (.bool (symsB xs m)) := by
  refine ret_of_pw dec_correct_are mixed (by simp) fun hwf => ?_
  rw [enter_eq]; unfold pc_correct_are
  have c1 : Ret E0 F_slices_ContainsFunc_int_int [.list nl (ints xs), .fn F_correct_are_1 []] (.bool (xs.any fun n => !symB n)) :=
    ContainsFunc_int_ret nl xs F_correct_are_1 [] (fun n => !symB n) body_are_1 rfl fun x _ => correct_are_1_ret x
  have ha := any_not xs symB
  by_cases hm : (xs.length : Int) = m
  · have hs : symsB xs m = xs.all symB := by unfold symsB; simp [hm]
    rw [hs]
    cases hx : xs.any fun n => !symB n with
    | true =>
      rw [hx] at c1 ha
      (try (simp -implicitDefEqProofs only [go_sem, hm])); repeat' first | with_reducible exact True.intro | with_reducible refine And.intro ?_ ?_ | with_reducible intro _ | (((with_reducible refine isCall ?_); first | refine call_b (c1) rfl ?_ ?_ | refine call_d (c1) rfl ?_ | refine call_sb (c1) rfl ?_ ?_ | refine call_s (c1) rfl rfl ?_) <;> try (simp -implicitDefEqProofs only [go_sem, hm])) | (((with_reducible refine vc_b ?_ ?_) <;> intro _) <;> try (simp -implicitDefEqProofs only [go_sem, hm])) | simp (disch := omega) only [wrapI, wrapU, shl1, shl1', shl1'', shrN, shrN', and_one] 
      all_goals first | (rw [← ha]; done) | (rw [← ha]; rfl) | (simp at *; done) | omega
    | false =>
      rw [hx] at c1 ha
      (try (simp -implicitDefEqProofs only [go_sem, hm])); repeat' first | with_reducible exact True.intro | with_reducible refine And.intro ?_ ?_ | with_reducible intro _ | (((with_reducible refine isCall ?_); first | refine call_b (c1) rfl ?_ ?_ | refine call_d (c1) rfl ?_ | refine call_sb (c1) rfl ?_ ?_ | refine call_s (c1) rfl rfl ?_) <;> try (simp -implicitDefEqProofs only [go_sem, hm])) | (((with_reducible refine vc_b ?_ ?_) <;> intro _) <;> try (simp -implicitDefEqProofs only [go_sem, hm])) | simp (disch := omega) only [wrapI, wrapU, shl1, shl1', shl1'', shrN, shrN', and_one] 
      all_goals first | (rw [← ha]; done) | (rw [← ha]; rfl) | (simp at *; done) | omega
  · have hs : symsB xs m = false := by unfold symsB; simp [hm]
    rw [hs]
    (try (simp -implicitDefEqProofs only [go_sem, hm])); repeat' first | with_reducible exact True.intro | with_reducible refine And.intro ?_ ?_ | with_reducible intro _ | (((with_reducible refine vc_b ?_ ?_) <;> intro _) <;> try (simp -implicitDefEqProofs only [go_sem, hm])) | simp (disch := omega) only [wrapI, wrapU, shl1, shl1', shl1'', shrN, shrN', and_one] 
    all_goals first | rfl | (simp at *; done) | omega

theorem ref05_AreSymbols_ret (nl : Bool) (xs : List Int) (m : Int) : Ret E0 F_ref05_AreSymbols [.list nl (ints xs), .int .i64 m] (.bool (symsB xs m)) := by
  refine ret_of_pw dec_ref05_AreSymbols mixed (by simp) fun hwf => ?_
  simp only [wf_int, wf_bool, wf_ints, wf_list, wf_agg, wf_ptr, wf_fn, wf_tup, wf_all_cons, wf_all_nil, wf_all_map, inK_i64, maxLen_eq, List.length_map, ints_len, true_and, and_true] at hwf
  rw [enter_eq]; unfold pc_ref05_AreSymbols
  (try (simp -implicitDefEqProofs only [go_sem])); repeat' first | with_reducible exact True.intro | with_reducible refine And.intro ?_ ?_ | with_reducible intro _ | (((with_reducible refine vc_b ?_ ?_) <;> intro _) <;> try (simp -implicitDefEqProofs only [go_sem])) | simp (disch := omega) only [wrapI, wrapU, shl1, shl1', shl1'', shrN, shrN', and_one] | ((with_reducible refine isEx ?_); refine ⟨_, rfl, ?_, ?_⟩)
  refine pw_loopS (α := Nat) (l0 := ?l3) (m0 := ?m3) (fun x => [(5, .d (.int .i64 (x : Int)))]) (fun x => []) (fun x => x ≤ xs.length ∧ ∀ j, j < x → symB (xs[j]?.getD 0) = true) (fun x => xs.length - x) 0 ?h03 ?he3 ?he23 ?hI3 ?step3
  case h03 => (simp -implicitDefEqProofs only [go_sem]; rfl)
  case he3 => rfl
  case he23 => rfl
  case' step3 => (rintro i hI; try dsimp only at hI)
  case' hI3 => try dsimp only
  · exact ⟨by omega, fun j hj => absurd hj (by omega)⟩
  · obtain ⟨h1, h2⟩ := hI
    by_cases h : i < xs.length
    · have h' : (i : Int) < (xs.length : Int) := by omega
      have hw : IntKind.i64.wrap ((i : Int) + 1) = ((i + 1 : Nat) : Int) := by rw [wrapI _ (by omega)]; omega
      have c1 : Ret E0 F_ref05_within [.int .i64 (xs[i]?.getD 0), .int .i64 0, .int .i64 15] (.bool (symB (xs[i]?.getD 0))) := ref05_within_ret _ _ _
      cases hb : symB (xs[i]?.getD 0) with
      | true =>
        rw [hb] at c1
        (try (simp -implicitDefEqProofs only [go_sem, h', hw])); repeat' first | with_reducible exact True.intro | with_reducible refine And.intro ?_ ?_ | with_reducible intro _ | (((with_reducible refine isCall ?_); first | refine call_b (c1) rfl ?_ ?_ | refine call_d (c1) rfl ?_ | refine call_sb (c1) rfl ?_ ?_ | refine call_s (c1) rfl rfl ?_) <;> try (simp -implicitDefEqProofs only [go_sem, h', hw])) | (((with_reducible refine vc_b ?_ ?_) <;> intro _) <;> try (simp -implicitDefEqProofs only [go_sem, h', hw])) | simp (disch := omega) only [wrapI, wrapU, shl1, shl1', shl1'', shrN, shrN', and_one] | ((with_reducible refine isEx ?_); refine ⟨_, rfl, ?_, ?_⟩)
        all_goals first | omega | (simp; done) | (simp; omega) | skip
        all_goals first
          | (rename_i j hj
             rcases Nat.lt_succ_iff_lt_or_eq.1 hj with hj | rfl
             · exact h2 j hj
             · exact hb)
          | skip
      | false =>
        rw [hb] at c1
        have hs : symsB xs m = false := by unfold symsB; rw [all_none h hb]; simp
        (try (simp -implicitDefEqProofs only [go_sem, h', hw, hs])); repeat' first | with_reducible exact True.intro | with_reducible refine And.intro ?_ ?_ | with_reducible intro _ | (((with_reducible refine isCall ?_); first | refine call_b (c1) rfl ?_ ?_ | refine call_d (c1) rfl ?_ | refine call_sb (c1) rfl ?_ ?_ | refine call_s (c1) rfl rfl ?_) <;> try (simp -implicitDefEqProofs only [go_sem, h', hw, hs])) | (((with_reducible refine vc_b ?_ ?_) <;> intro _) <;> try (simp -implicitDefEqProofs only [go_sem, h', hw, hs])) | simp (disch := omega) only [wrapI, wrapU, shl1, shl1', shl1'', shrN, shrN', and_one] | ((with_reducible refine isEx ?_); refine ⟨_, rfl, ?_, ?_⟩)
        all_goals first | omega | (simp; done) | (simp; omega) | skip
    · have h' : ¬ (i : Int) < (xs.length : Int) := by omega
      have hk : i = xs.length := by omega
      have hs : symsB xs m = decide ((xs.length : Int) = m) := by unfold symsB; rw [all_yes (d := 0) (fun j hj => h2 j (by omega))]; simp
      (try (simp -implicitDefEqProofs only [go_sem, h', hs])); repeat' first | with_reducible exact True.intro | with_reducible refine And.intro ?_ ?_ | with_reducible intro _ | (((with_reducible refine vc_b ?_ ?_) <;> intro _) <;> try (simp -implicitDefEqProofs only [go_sem, h', hs])) | simp (disch := omega) only [wrapI, wrapU, shl1, shl1', shl1'', shrN, shrN', and_one] | ((with_reducible refine isEx ?_); refine ⟨_, rfl, ?_, ?_⟩)
      all_goals first | omega | (simp; done) | (simp; omega) | skip
      all_goals rfl

theorem correct_places_ret (nl : Bool) (xs : List Int) (m : Int) : Ret E0 F_correct_places [.list nl (ints xs), .int .i64 m] (.bool (marksB xs m)) := by
  refine ret_of_pw dec_correct_places mixed (by simp) fun hwf => ?_
  simp only [wf_int, wf_bool, wf_ints, wf_list, wf_agg, wf_ptr, wf_fn, wf_tup, wf_all_cons, wf_all_nil, wf_all_map, inK_i64, maxLen_eq, List.length_map, ints_len, true_and, and_true] at hwf
  rw [enter_eq]; unfold pc_correct_places
  (try (simp -implicitDefEqProofs only [go_sem])); repeat' first | with_reducible exact True.intro | with_reducible refine And.intro ?_ ?_ | with_reducible intro _ | (((with_reducible refine vc_b ?_ ?_) <;> intro _) <;> try (simp -implicitDefEqProofs only [go_sem])) | simp (disch := omega) only [wrapI, wrapU, shl1, shl1', shl1'', shrN, shrN', and_one] | ((with_reducible refine isEx ?_); refine ⟨_, rfl, ?_, ?_⟩)
  refine pw_loopS (α := Nat) (l0 := ?l4) (m0 := ?m4) (fun x => [(9, .d (.int .i64 (x : Int)))]) (fun x => []) (fun x => x ≤ xs.length ∧ ∀ j, j < x → mkB xs m j = true) (fun x => xs.length - x) 0 ?h04 ?he4 ?he24 ?hI4 ?step4
  case h04 => (simp -implicitDefEqProofs only [go_sem]; rfl)
  case he4 => rfl
  case he24 => rfl
  case' step4 => (rintro i hI; try dsimp only at hI)
  case' hI4 => try dsimp only
  · exact ⟨by omega, fun j hj => absurd hj (by omega)⟩
  · obtain ⟨h1, h2⟩ := hI
    by_cases h : i < xs.length
    · have h' : (i : Int) < (xs.length : Int) := by omega
      have hw : IntKind.i64.wrap ((i : Int) + 1) = ((i + 1 : Nat) : Int) := by rw [wrapI _ (by omega)]; omega
      cases hb : mkB xs m i with
      | true =>
        have hb2 := hb
        unfold mkB at hb2
        simp only [decide_eq_true_eq] at hb2
        obtain ⟨k1, k2, k3⟩ := hb2
        have q1 : ¬ xs[i]?.getD 0 < 0 := by omega
        have q2 : ¬ m ≤ xs[i]?.getD 0 := by omega
        by_cases h0 : 0 < i
        · have h0' : (0 : Int) < (i : Int) := by omega
          have k4 := k3 h0
          have q3 : ¬ xs[i]?.getD 0 ≤ xs[i - 1]?.getD 0 := by omega
          have hw2 : IntKind.i64.wrap ((i : Int) - 1) = ((i - 1 : Nat) : Int) := by rw [wrapI _ (by omega)]; omega
          (try (simp -implicitDefEqProofs only [go_sem, h', hw, hw2, q1, q2, h0', q3])); repeat' first | with_reducible exact True.intro | with_reducible refine And.intro ?_ ?_ | with_reducible intro _ | (((with_reducible refine vc_b ?_ ?_) <;> intro _) <;> try (simp -implicitDefEqProofs only [go_sem, h', hw, hw2, q1, q2, h0', q3])) | simp (disch := omega) only [wrapI, wrapU, shl1, shl1', shl1'', shrN, shrN', and_one] | ((with_reducible refine isEx ?_); refine ⟨_, rfl, ?_, ?_⟩)
          all_goals first | omega | (simp; done) | (simp; omega) | skip
          all_goals first
            | (rename_i j hj
               rcases Nat.lt_succ_iff_lt_or_eq.1 hj with hj | rfl
               · exact h2 j hj
               · exact hb)
            | (simp at *; done) | (simp at *; omega) | skip
        · have h0' : ¬ (0 : Int) < (i : Int) := by omega
          (try (simp -implicitDefEqProofs only [go_sem, h', hw, q1, q2, h0'])); repeat' first | with_reducible exact True.intro | with_reducible refine And.intro ?_ ?_ | with_reducible intro _ | (((with_reducible refine vc_b ?_ ?_) <;> intro _) <;> try (simp -implicitDefEqProofs only [go_sem, h', hw, q1, q2, h0'])) | simp (disch := omega) only [wrapI, wrapU, shl1, shl1', shl1'', shrN, shrN', and_one] | ((with_reducible refine isEx ?_); refine ⟨_, rfl, ?_, ?_⟩)
          all_goals first | omega | (simp; done) | (simp; omega) | skip
          all_goals first
            | (rename_i j hj
               rcases Nat.lt_succ_iff_lt_or_eq.1 hj with hj | rfl
               · exact h2 j hj
               · exact hb)
            | (simp at *; done) | (simp at *; omega) | skip
      | false =>
        have hs := marks_no h hb
        unfold mkB at hb
        simp only [decide_eq_false_iff_not] at hb
        have hw2 : 0 < i → IntKind.i64.wrap ((i : Int) - 1) = ((i - 1 : Nat) : Int) := fun _ => by rw [wrapI _ (by omega)]; omega
        by_cases q1 : xs[i]?.getD 0 < 0
        · (try (simp -implicitDefEqProofs only [go_sem, h', hw, q1, hs])); repeat' first | with_reducible exact True.intro | with_reducible refine And.intro ?_ ?_ | with_reducible intro _ | (((with_reducible refine vc_b ?_ ?_) <;> intro _) <;> try (simp -implicitDefEqProofs only [go_sem, h', hw, q1, hs])) | simp (disch := omega) only [wrapI, wrapU, shl1, shl1', shl1'', shrN, shrN', and_one] | ((with_reducible refine isEx ?_); refine ⟨_, rfl, ?_, ?_⟩)
          all_goals first | omega | (simp; done) | (simp; omega) | skip
        · by_cases q2 : m ≤ xs[i]?.getD 0
          · (try (simp -implicitDefEqProofs only [go_sem, h', hw, q1, q2, hs])); repeat' first | with_reducible exact True.intro | with_reducible refine And.intro ?_ ?_ | with_reducible intro _ | (((with_reducible refine vc_b ?_ ?_) <;> intro _) <;> try (simp -implicitDefEqProofs only [go_sem, h', hw, q1, q2, hs])) | simp (disch := omega) only [wrapI, wrapU, shl1, shl1', shl1'', shrN, shrN', and_one] | ((with_reducible refine isEx ?_); refine ⟨_, rfl, ?_, ?_⟩)
            all_goals first | omega | (simp; done) | (simp; omega) | skip
          · have h0 : 0 < i := by
              by_cases h0 : 0 < i
              · exact h0
              · exact absurd ⟨by omega, by omega, fun h => absurd h h0⟩ hb
            have h0' : (0 : Int) < (i : Int) := by omega
            have q3 : xs[i]?.getD 0 ≤ xs[i - 1]?.getD 0 := by
              by_cases q3 : xs[i]?.getD 0 ≤ xs[i - 1]?.getD 0
              · exact q3
              · exact absurd ⟨by omega, by omega, fun h => by omega⟩ hb
            (try (simp -implicitDefEqProofs only [go_sem, h', hw, hw2 h0, q1, q2, h0', q3, hs])); repeat' first | with_reducible exact True.intro | with_reducible refine And.intro ?_ ?_ | with_reducible intro _ | (((with_reducible refine vc_b ?_ ?_) <;> intro _) <;> try (simp -implicitDefEqProofs only [go_sem, h', hw, hw2 h0, q1, q2, h0', q3, hs])) | simp (disch := omega) only [wrapI, wrapU, shl1, shl1', shl1'', shrN, shrN', and_one] | ((with_reducible refine isEx ?_); refine ⟨_, rfl, ?_, ?_⟩)
            all_goals first | omega | (simp; done) | (simp; omega) | skip
            all_goals first | (simp at *; done) | (simp at *; omega) | skip
    · have h' : ¬ (i : Int) < (xs.length : Int) := by omega
      have hs : marksB xs m = true := marks_yes fun j hj => h2 j (by omega)
      (try (simp -implicitDefEqProofs only [go_sem, h', hs])); repeat' first | with_reducible exact True.intro | with_reducible refine And.intro ?_ ?_ | with_reducible intro _ | (((with_reducible refine vc_b ?_ ?_) <;> intro _) <;> try (simp -implicitDefEqProofs only [go_sem, h', hs])) | simp (disch := omega) only [wrapI, wrapU, shl1, shl1', shl1'', shrN, shrN', and_one] | ((with_reducible refine isEx ?_); refine ⟨_, rfl, ?_, ?_⟩)
      all_goals first | omega | (simp; done) | (simp; omega) | skip
end Go.Pw
end
