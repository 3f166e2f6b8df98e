/- A part of the proof. -/
import Derived.Test.YtlnppoaghpbpoaaServoN
import Derived.Test.YtlnppoaghpbpoaaServoT
set_option linter.all false
open Go Go.Pw Go.Proofs
namespace Go.Pw
set_option linter.unusedSimpArgs false
set_option linter.unusedVariables false
set_option maxRecDepth 100000
set_option maxHeartbeats 1600000

def mixI (a b m : Int) : Int := bitsOp .or .i64 (bitsOp .and .i64 a m) (bitsOp .andNot .i64 b m)
def difI (a b : Int) : Nat → Int → Int
  | 0, d => d
  | k + 1, d => difI a b k (d + Int.fdiv (bitsOp .xor .i64 a b) (2 ^ (7 - (k + 1))) % 2)
theorem onebit_fin : ∀ n : Fin 127, difI (grayI n.val) (grayI (n.val + 1)) 7 0 = 1 := by decide +kernel
theorem mix_fin : ∀ n : Fin 127, ∀ m : Fin 128, mixI (grayI n.val) (grayI (n.val + 1)) m.val = grayI n.val ∨ mixI (grayI n.val) (grayI (n.val + 1)) m.val = grayI (n.val + 1) := by decide +kernel
theorem ofInt_nat (x : Nat) : BitVec.ofInt 64 (x : Int) = BitVec.ofNat 64 x := by simp [BitVec.ofInt_natCast]
theorem and_low {a m : Nat} (h : a < 128) : bitsOp .and .i64 (a : Int) (m : Int) = bitsOp .and .i64 (a : Int) ((m % 128 : Nat) : Int) := by
  simp only [bitsOp]
  congr 2
  show (BitVec.ofInt 64 _ &&& BitVec.ofInt 64 _).toNat = (BitVec.ofInt 64 _ &&& BitVec.ofInt 64 _).toNat
  rw [ofInt_nat, ofInt_nat, ofInt_nat]
  congr 1
  apply BitVec.eq_of_getLsbD_eq
  intro i hi
  simp only [BitVec.getLsbD_and, BitVec.getLsbD_ofNat, hi, decide_true, Bool.true_and]
  by_cases h7 : i < 7
  · rw [show (128 : Nat) = 2 ^ 7 from rfl, Nat.testBit_mod_two_pow]; simp [h7]
  · have : a.testBit i = false := Nat.testBit_lt_two_pow (Nat.lt_of_lt_of_le (by omega : a < 2 ^ 7) (Nat.pow_le_pow_right (by omega) (by omega)))
    simp [this]
theorem andNot_low {a m : Nat} (h : a < 128) : bitsOp .andNot .i64 (a : Int) (m : Int) = bitsOp .andNot .i64 (a : Int) ((m % 128 : Nat) : Int) := by
  simp only [bitsOp]
  congr 2
  show (BitVec.ofInt 64 _ &&& ~~~(BitVec.ofInt 64 _)).toNat = (BitVec.ofInt 64 _ &&& ~~~(BitVec.ofInt 64 _)).toNat
  rw [ofInt_nat, ofInt_nat, ofInt_nat]
  congr 1
  apply BitVec.eq_of_getLsbD_eq
  intro i hi
  simp only [BitVec.getLsbD_and, BitVec.getLsbD_not, BitVec.getLsbD_ofNat, hi, decide_true, Bool.true_and]
  by_cases h7 : i < 7
  · rw [show (128 : Nat) = 2 ^ 7 from rfl, Nat.testBit_mod_two_pow]; simp [h7]
  · have : a.testBit i = false := Nat.testBit_lt_two_pow (Nat.lt_of_lt_of_le (by omega : a < 2 ^ 7) (Nat.pow_le_pow_right (by omega) (by omega)))
    simp [this]
theorem mix_all {n m : Int} (hn : 0 ≤ n ∧ n < 127) (hm : 0 ≤ m) : mixI (grayI n) (grayI (n + 1)) m = grayI n ∨ mixI (grayI n) (grayI (n + 1)) m = grayI (n + 1) := by
  obtain ⟨k, rfl⟩ := Int.eq_ofNat_of_zero_le hn.1
  obtain ⟨j, rfl⟩ := Int.eq_ofNat_of_zero_le hm
  have h1 := gray_all (n := k) (by omega)
  have h2 := gray_all (n := (k : Int) + 1) (by omega)
  obtain ⟨a, ha⟩ := Int.eq_ofNat_of_zero_le h1.2.1
  obtain ⟨b, hb⟩ := Int.eq_ofNat_of_zero_le h2.2.1
  have := mix_fin ⟨k, by omega⟩ ⟨j % 128, Nat.mod_lt _ (by omega)⟩
  unfold mixI at this ⊢
  simp only [ha, hb] at this ⊢
  rw [and_low (a := a) (m := j) (by omega), andNot_low (a := b) (m := j) (by omega)]
  exact this
theorem onebit {n : Int} (hn : 0 ≤ n ∧ n < 127) : difI (grayI n) (grayI (n + 1)) 7 0 = 1 := by
  obtain ⟨k, rfl⟩ := Int.eq_ofNat_of_zero_le hn.1
  exact onebit_fin ⟨k, by omega⟩
attribute [local congr] cg_pw cg_seqI cg_seqE cg_stepI cg_ev cg_evBin cg_condB cg_condV cg_thenQ cg_blockQ cg_onSome cg_onCells cg_onRow cg_onMap cg_onOpt cg_ghosts cg_ghost cg_evCall cg_part cg_rng cg_guardV cg_frzV cg_frpV cg_ownV cg_owcV cg_occV cg_occX cg_resK cg_res1
attribute [local irreducible] IntKind.wrap bitsOp Option.getD and or
theorem ServoOneBit_ret (n m : Int) : Ret E0 F_law02_ServoOneBit [.int .i64 n, .int .i64 m] (.bool true) := by
  refine ret_of_pw dec_law02_ServoOneBit mixed (by simp) fun hwf => ?_
  rw [enter_eq]; unfold pc_law02_ServoOneBit
  by_cases hg : 0 ≤ n ∧ n < 127 ∧ 0 ≤ m
  · obtain ⟨h1, h2, h3⟩ := hg
    have c1 := servo_Gray_ret n
    have c2 := servo_Gray_ret (n + 1)
    rw [show inR n 0 127 = true by simp [inR]; omega] at c1
    rw [show inR (n + 1) 0 127 = true by simp [inR]; omega] at c2
    have g1 := gray_all (n := n) (by omega)
    have g2 := gray_all (n := n + 1) (by omega)
    have hmix := mix_all (n := n) (m := m) ⟨h1, h2⟩ h3
    have hone := onebit (n := n) ⟨h1, h2⟩
    generalize grayI n = a at *
    generalize grayI (n + 1) = b at *
    have c3 := servo_Track_ret a
    rw [show inR a 0 127 = true by simp [inR]; omega] at c3
    have c4 := servo_Track_ret (mixI a b m)
    have hmt : 0 ≤ mixI a b m ∧ mixI a b m ≤ 127 ∧ (trackI (mixI a b m) = n ∨ trackI (mixI a b m) = n + 1) := by
      rcases hmix with h | h
      · rw [h]; exact ⟨by omega, by omega, .inl g1.1⟩
      · rw [h]; exact ⟨by omega, by omega, .inr g2.1⟩
    rw [show inR (mixI a b m) 0 127 = true by simp [inR]; omega] at c4
    simp only [if_true] at c1 c2 c3 c4
    have hm' : mixI a b m = bitsOp .or .i64 (bitsOp .and .i64 a m) (bitsOp .andNot .i64 b m) := rfl
    rw [hm'] at c4 hmt
    have w1 : IntKind.i64.wrap (n + 1) = n + 1 := wrapI _ (by omega)
    have ht := g1.1
    rw [ht] at c3
    generalize trackI (bitsOp .or .i64 (bitsOp .and .i64 a m) (bitsOp .andNot .i64 b m)) = T at *
    (try (simp -implicitDefEqProofs only [go_sem, w1])); repeat' first | with_reducible exact True.intro | with_reducible refine And.intro ?_ ?_ | with_reducible intro _ | (((with_reducible refine isCall ?_); first | refine call_b (c1) rfl ?_ ?_ | refine call_d (c1) rfl ?_ | refine call_sb (c1) rfl ?_ ?_ | refine call_s (c1) rfl rfl ?_ | refine call_b (c2) rfl ?_ ?_ | refine call_d (c2) rfl ?_ | refine call_sb (c2) rfl ?_ ?_ | refine call_s (c2) rfl rfl ?_ | refine call_b (law02_works_ret) rfl ?_ ?_ | refine call_d (law02_works_ret) rfl ?_ | refine call_sb (law02_works_ret) rfl ?_ ?_ | refine call_s (law02_works_ret) rfl rfl ?_) <;> try (simp -implicitDefEqProofs only [go_sem, w1])) | (((with_reducible refine vc_b ?_ ?_) <;> intro _) <;> try (simp -implicitDefEqProofs only [go_sem, w1])) | simp (disch := omega) only [wrapI, wrapU, shl1, shl1', shl1'', shrN, shrN', and_one] | ((with_reducible refine isEx2 ?_); refine ⟨(_, _), rfl, ?_, ?_⟩)
    all_goals first | omega | (simp; done) | (simp; omega) | skip
    refine pw_loopS (α := Int × Int) (l0 := ?l1) (m0 := ?m1) (fun x => [(10, .d (.int .i64 x.1)), (9, .d (.int .i64 x.2))]) (fun x => []) (fun x => 0 ≤ x.1 ∧ x.1 ≤ 7 ∧ 0 ≤ x.2 ∧ x.2 ≤ x.1 ∧ difI a b (7 - x.1.toNat) x.2 = 1) (fun x => (7 - x.1).toNat) (?a1_0, ?a1_1) ?h01 ?he1 ?he21 ?hI1 ?step1
    case h01 => (simp -implicitDefEqProofs only [go_sem]; rfl)
    case he1 => rfl
    case he21 => rfl
    case' step1 => (rintro ⟨i, d⟩ hI; try dsimp only at hI)
    case' hI1 => try dsimp only
    · exact ⟨by omega, by omega, by omega, by omega, hone⟩
    · obtain ⟨i1, i2, i3, i4, i5⟩ := hI
      by_cases hi : i < 7
      · have hs : difI a b (7 - i.toNat) d = difI a b (7 - (i + 1).toNat) (d + Int.fdiv (bitsOp .xor .i64 a b) (2 ^ i.toNat) % 2) := by
          rw [show 7 - i.toNat = (7 - (i + 1).toNat) + 1 by omega, difI, show 7 - (7 - (i + 1).toNat + 1) = i.toNat by omega]
        have hu : IntKind.u64.wrap i = i := by simp (disch := omega) only [wrapU]
        have hmn : min i.toNat 64 = i.toNat := by omega
        rw [hs] at i5
        have hz : 0 ≤ Int.fdiv (bitsOp .xor .i64 a b) (2 ^ i.toNat) % 2 ∧ Int.fdiv (bitsOp .xor .i64 a b) (2 ^ i.toNat) % 2 ≤ 1 := by omega
        (try (simp -implicitDefEqProofs only [go_sem, hu, hmn])); repeat' first | with_reducible exact True.intro | with_reducible refine And.intro ?_ ?_ | with_reducible intro _ | (((with_reducible refine vc_b ?_ ?_) <;> intro _) <;> try (simp -implicitDefEqProofs only [go_sem, hu, hmn])) | simp (disch := omega) only [wrapI, wrapU, shl1, shl1', shl1'', shrN, shrN', and_one] | ((with_reducible refine isEx2 ?_); refine ⟨(_, _), rfl, ?_, ?_⟩)
        all_goals first | omega | (simp; done) | (simp; omega) | skip
      · have : i = 7 := by omega
        subst this
        have : d = 1 := i5
        subst this
        (try (simp -implicitDefEqProofs only [go_sem, ht])); repeat' first | with_reducible exact True.intro | with_reducible refine And.intro ?_ ?_ | with_reducible intro _ | (((with_reducible refine isCall ?_); first | refine call_b (c3) rfl ?_ ?_ | refine call_d (c3) rfl ?_ | refine call_sb (c3) rfl ?_ ?_ | refine call_s (c3) rfl rfl ?_ | refine call_b (c4) rfl ?_ ?_ | refine call_d (c4) rfl ?_ | refine call_sb (c4) rfl ?_ ?_ | refine call_s (c4) rfl rfl ?_ | refine call_b (law02_works_ret) rfl ?_ ?_ | refine call_d (law02_works_ret) rfl ?_ | refine call_sb (law02_works_ret) rfl ?_ ?_ | refine call_s (law02_works_ret) rfl rfl ?_) <;> try (simp -implicitDefEqProofs only [go_sem, ht])) | (((with_reducible refine vc_b ?_ ?_) <;> intro _) <;> try (simp -implicitDefEqProofs only [go_sem, ht])) | simp (disch := omega) only [wrapI, wrapU, shl1, shl1', shl1'', shrN, shrN', and_one] | ((with_reducible refine isEx2 ?_); refine ⟨(_, _), rfl, ?_, ?_⟩)
        all_goals first | omega | (simp; done) | (simp; omega) | skip
  · (try (simp -implicitDefEqProofs only [go_sem])); repeat' first | with_reducible exact True.intro | with_reducible refine And.intro ?_ ?_ | with_reducible intro _ | (((with_reducible refine isCall ?_); first | refine call_b (law02_works_ret) rfl ?_ ?_ | refine call_d (law02_works_ret) rfl ?_ | refine call_sb (law02_works_ret) rfl ?_ ?_ | refine call_s (law02_works_ret) rfl rfl ?_) <;> try (simp -implicitDefEqProofs only [go_sem])) | (((with_reducible refine vc_b ?_ ?_) <;> intro _) <;> try (simp -implicitDefEqProofs only [go_sem])) | simp (disch := omega) only [wrapI, wrapU, shl1, shl1', shl1'', shrN, shrN', and_one] | ((with_reducible refine isEx2 ?_); refine ⟨(_, _), rfl, ?_, ?_⟩)
    all_goals first | omega | (simp; done) | (simp; omega) | skip
end Go.Pw
