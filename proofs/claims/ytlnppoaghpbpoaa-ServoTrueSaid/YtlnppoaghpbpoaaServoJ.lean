/- A part of the proof. -/
import Derived.Test.YtlnppoaghpbpoaaServoI
set_option linter.all false
open Go Go.Pw Go.Proofs
namespace Go.Pw
set_option linter.unusedSimpArgs false
set_option linter.unusedVariables false
set_option maxRecDepth 100000
set_option maxHeartbeats 1600000
attribute [local congr] cg_pw cg_seqI cg_seqE cg_stepI cg_ev cg_evBin cg_condB cg_condV cg_thenQ cg_blockQ cg_onSome cg_onCells cg_onRow cg_onMap cg_onOpt cg_ghosts cg_ghost cg_evCall cg_part cg_rng cg_guardV cg_frzV cg_frpV cg_ownV cg_owcV cg_occV cg_occX cg_resK cg_res1
attribute [local irreducible] IntKind.wrap bitsOp Option.getD and or

def GServo.endL (s : GServo) (l : List Pair) : List Int := s.pre l l.length
theorem endL_len {s : GServo} (h : s.ok = true) (l : List Pair) : ((s.endL l).length : Int) = s.last + 1 := by rw [GServo.endL, pre_len, zero_len h]
theorem endL_bound {s : GServo} (h : s.ok = true) (l : List Pair) (h24 : l.length ≤ 24) (j : Nat) (hj : (j : Int) ≤ s.last) : 0 ≤ (s.endL l)[j]?.getD 0 ∧ (s.endL l)[j]?.getD 0 ≤ 24 := by
  have := pre_bound h l l.length j (by have := zero_len h; omega)
  unfold GServo.endL; omega
theorem forthL_last (s : GServo) (l : List Pair) (h : 1 ≤ l.length) : (s.forthL l l.length)[((l.length : Int) - 1).toNat]?.getD default = s.endL l := by
  rw [forthL_get _ _ (by omega), show ((l.length : Int) - 1).toNat + 1 = l.length by omega]; rfl

theorem servo_end_ret (s : GServo) (h : s.ok = true) (nl : Bool) (l : List Pair) (hl : l.all wedgeOk = true) (h24 : l.length ≤ 24) :
    Ret E0 F_servo_head_end [.ptr (headC s nl l)] (.list false (ints (s.endL l))) := by
  refine ret_of_pw dec_servo_head_end mixed (by simp) fun hwf => ?_
  have hd := GServo.ok_head h
  have hb := last_bound h
  have hz := zero_len h
  rw [enter_eq]; unfold pc_servo_head_end
  have c1 := servo_forth_ret s h nl l hl h24
  have w0 : IntKind.i64.wrap (s.last + 1) = s.last + 1 := wrapI _ (by omega)
  by_cases h0 : l.length = 0
  · have hlen : (s.forthL l 0).length = 0 := rfl
    have he : s.endL l = List.replicate (s.last + 1).toNat 0 := by rw [GServo.endL, h0]; rfl
    rw [he]
    (try (simp -implicitDefEqProofs only [go_sem, headC_eq, w0, rwsD_len, hlen, h0])); repeat' first | with_reducible exact True.intro | with_reducible refine And.intro ?_ ?_ | with_reducible intro _ | (((with_reducible refine isCall ?_); first | refine call_b (c1) rfl ?_ ?_ | refine call_d (c1) rfl ?_ | refine call_sb (c1) rfl ?_ ?_ | refine call_s (c1) rfl rfl ?_) <;> try (simp -implicitDefEqProofs only [go_sem, headC_eq, w0, rwsD_len, hlen, h0])) | (((with_reducible refine vc_b ?_ ?_) <;> intro _) <;> try (simp -implicitDefEqProofs only [go_sem, headC_eq, w0, rwsD_len, hlen, h0])) | simp (disch := omega) only [wrapI, wrapU, shl1, shl1', shl1'', shrN, shrN', and_one] 
    all_goals first | omega | (simp; done) | (simp; omega) | skip
  · have hlen := forthL_len s l l.length
    have hx := forthL_last s l (by omega)
    have hp : 0 < (l.length : Int) := by omega
    (try (simp -implicitDefEqProofs only [go_sem, headC_eq, w0, rwsD_len, hlen, hp, onSome_rws, rwsD_unif, hx, rwD_eq])); repeat' first | with_reducible exact True.intro | with_reducible refine And.intro ?_ ?_ | with_reducible intro _ | (((with_reducible refine isCall ?_); first | refine call_b (c1) rfl ?_ ?_ | refine call_d (c1) rfl ?_ | refine call_sb (c1) rfl ?_ ?_ | refine call_s (c1) rfl rfl ?_) <;> try (simp -implicitDefEqProofs only [go_sem, headC_eq, w0, rwsD_len, hlen, hp, onSome_rws, rwsD_unif, hx, rwD_eq])) | (((with_reducible refine vc_b ?_ ?_) <;> intro _) <;> try (simp -implicitDefEqProofs only [go_sem, headC_eq, w0, rwsD_len, hlen, hp, onSome_rws, rwsD_unif, hx, rwD_eq])) | simp (disch := omega) only [wrapI, wrapU, shl1, shl1', shl1'', shrN, shrN', and_one] 
    all_goals first | omega | (simp; done) | (simp; omega) | skip
    all_goals (rw [hx])

/-! spans -/
def lastP (out : List Pair) : Pair := out[out.length - 1]?.getD default
def addPos (out : List Pair) (p : Int) : List Pair :=
  if 0 < out.length ∧ (lastP out).2 = p - 1 then out.set (out.length - 1) ((lastP out).1, p) else out ++ [(p, p)]
def spansOf (is : Nat → Bool) : Nat → List Pair
  | 0 => []
  | k + 1 => if is k then addPos (spansOf is k) k else spansOf is k
def GServo.endsL (s : GServo) (l : List Pair) : List Pair := spansOf (fun p => decide ((s.endL l)[p]?.getD 0 ≤ s.wrong)) (s.endL l).length
theorem pairsD_set (l : List Pair) (k : Nat) (a b : Int) : (pairsD l).set k (.agg [.int .i64 a, .int .i64 b]) = pairsD (l.set k (a, b)) := by
  simp [pairsD, List.map_set, pairD]
theorem addPos_len (out : List Pair) (p : Int) : (addPos out p).length ≤ out.length + 1 := by unfold addPos; split <;> simp
theorem spansOf_len (is : Nat → Bool) : ∀ k, (spansOf is k).length ≤ k
  | 0 => by simp [spansOf]
  | k + 1 => by
    have := spansOf_len is k
    simp only [spansOf]; split
    · have := addPos_len (spansOf is k) k; omega
    · omega
theorem spansOf_hi (is : Nat → Bool) : ∀ k j, j < (spansOf is k).length → 0 ≤ ((spansOf is k)[j]?.getD default).1 ∧ ((spansOf is k)[j]?.getD default).1 ≤ ((spansOf is k)[j]?.getD default).2 ∧ ((spansOf is k)[j]?.getD default).2 < k
  | 0, j, h => by simp [spansOf] at h
  | k + 1, j, h => by
    have ih := spansOf_hi is k
    simp only [spansOf] at h ⊢
    split at h
    · rename_i hk
      rw [if_pos hk]
      unfold addPos at h ⊢
      split at h
      · rename_i hc
        rw [if_pos hc]
        rw [List.getElem?_set]
        simp at h
        have hlast := ih ((spansOf is k).length - 1) (by omega)
        split
        · rw [if_pos (by omega), Option.getD_some]
          simp only [lastP]; omega
        · have := ih j h; omega
      · rename_i hc
        rw [if_neg hc]
        simp at h
        by_cases hj : j < (spansOf is k).length
        · rw [List.getElem?_append_left hj]
          have := ih j hj; omega
        · rw [List.getElem?_append_right (by omega), show j - (spansOf is k).length = 0 by omega]
          simp only [List.getElem?_cons_zero, Option.getD_some]; omega
    · rename_i hk
      rw [if_neg hk]
      have := ih j h; omega

theorem isEmpty_set {α : Type} (l : List α) (k : Nat) (x : α) : (l.set k x).isEmpty = l.isEmpty := by cases l <;> cases k <;> rfl
theorem servo_ends_ret (s : GServo) (h : s.ok = true) (nl : Bool) (l : List Pair) (hl : l.all wedgeOk = true) (h24 : l.length ≤ 24) :
    Ret E0 F_servo_head_ends [.ptr (headC s nl l)] (.list (s.endsL l).isEmpty (pairsD (s.endsL l))) := by
  refine ret_of_pw dec_servo_head_ends mixed (by simp) fun hwf => ?_
  have hd := GServo.ok_head h
  have hb := last_bound h
  have hz := endL_len h l
  have hbb := endL_bound h l h24
  have c1 := servo_end_ret s h nl l hl h24
  unfold GServo.endsL
  generalize s.endL l = r at *
  obtain ⟨is, his⟩ : ∃ is : Nat → Bool, is = fun p => decide (r[p]?.getD 0 ≤ s.wrong) := ⟨_, rfl⟩
  rw [← his]
  rw [enter_eq]; unfold pc_servo_head_ends
  (try (simp -implicitDefEqProofs only [go_sem, headC_eq])); repeat' first | with_reducible exact True.intro | with_reducible refine And.intro ?_ ?_ | with_reducible intro _ | (((with_reducible refine isCall ?_); first | refine call_b (c1) rfl ?_ ?_ | refine call_d (c1) rfl ?_ | refine call_sb (c1) rfl ?_ ?_ | refine call_s (c1) rfl rfl ?_) <;> try (simp -implicitDefEqProofs only [go_sem, headC_eq])) | (((with_reducible refine vc_b ?_ ?_) <;> intro _) <;> try (simp -implicitDefEqProofs only [go_sem, headC_eq])) | simp (disch := omega) only [wrapI, wrapU, shl1, shl1', shl1'', shrN, shrN', and_one] | ((with_reducible refine isEx3 ?_); refine ⟨(_, _, _), rfl, ?_, ?_⟩)
  all_goals first | omega | (simp; done) | (simp; omega) | skip
  refine pw_loopS (α := Int × (List Pair) × Bool) (l0 := ?l1) (m0 := ?m1) (fun x => [(10, .d (.int .i64 x.1))]) (fun x => [(47, .row 54 2 x.2.2 (pairsD x.2.1))]) (fun x => 0 ≤ x.1 ∧ x.1 ≤ r.length ∧ x.2.1 = spansOf is x.1.toNat ∧ x.2.2 = x.2.1.isEmpty) (fun x => (r.length - x.1).toNat) (?a1_0, [], true) ?h01 ?he1 ?he21 ?hI1 ?step1
  case h01 => (simp -implicitDefEqProofs only [go_sem, headC_eq]; rfl)
  case he1 => rfl
  case he21 => rfl
  case' step1 => (rintro ⟨i, out, b⟩ hI; try dsimp only at hI)
  case' hI1 => try dsimp only
  · exact ⟨by omega, by omega, rfl, rfl⟩
  · obtain ⟨h1, h2, h3, hb0⟩ := hI
    by_cases hi : i < r.length
    · have hle := spansOf_len is i.toNat
      have hhi := spansOf_hi is i.toNat
      have hnx : spansOf is (i + 1).toNat = if is i.toNat then addPos (spansOf is i.toNat) i else spansOf is i.toNat := by
        rw [show (i + 1).toNat = i.toNat + 1 by omega, spansOf, show ((i.toNat : Nat) : Int) = i by omega]
      have hi1 : IntKind.i64.wrap (i + 1) = i + 1 := wrapI _ (by omega)
      have hi2 : IntKind.i64.wrap (i - 1) = i - 1 := wrapI _ (by omega)
      have hlp : out[out.length - 1]?.getD default = lastP out := rfl
      rw [← h3] at hle hhi hnx
      by_cases hc : r[i.toNat]?.getD 0 ≤ s.wrong
      · have hc' : ¬ s.wrong < r[i.toNat]?.getD 0 := by omega
        have hisi : is i.toNat = true := by rw [his]; simpa using hc
        rw [if_pos hisi, addPos] at hnx
        have hk : IntKind.i64.wrap ((out.length : Int) - 1) = (out.length : Int) - 1 := wrapI _ (by omega)
        have hk' : ((out.length : Int) - 1).toNat = out.length - 1 := by omega
        by_cases h0 : 0 < out.length
        · have hj := hhi (out.length - 1) (by omega)
          have hge : (0 : Int) ≤ (out.length : Int) - 1 := by omega
          change 0 ≤ (lastP out).1 ∧ (lastP out).1 ≤ (lastP out).2 ∧ (lastP out).2 < i.toNat at hj
          by_cases he : (lastP out).2 = i - 1
          · rw [if_pos ⟨h0, he⟩] at hnx
            have hne : out.isEmpty = false := by cases out with | nil => simp at h0 | cons _ _ => rfl
            (try (simp -implicitDefEqProofs only [go_sem, headC_eq, hc', hk, hk', hge, hi2, pairsD_len, onSome_pairs, pairsD_unif, pairD_eq, hlp, he, pairsD_set])); repeat' first | with_reducible exact True.intro | with_reducible refine And.intro ?_ ?_ | with_reducible intro _ | (((with_reducible refine vc_b ?_ ?_) <;> intro _) <;> try (simp -implicitDefEqProofs only [go_sem, headC_eq, hc', hk, hk', hge, hi2, pairsD_len, onSome_pairs, pairsD_unif, pairD_eq, hlp, he, pairsD_set])) | simp (disch := omega) only [wrapI, wrapU, shl1, shl1', shl1'', shrN, shrN', and_one] | ((with_reducible refine isEx3 ?_); refine ⟨(_, _, _), rfl, ?_, ?_⟩)
            all_goals first | omega | (simp; done) | (simp; omega) | skip
            all_goals first | exact hnx.symm | exact (isEmpty_snoc _ _).symm | (rw [isEmpty_set]; exact hb0)
          · rw [if_neg (by omega)] at hnx
            (try (simp -implicitDefEqProofs only [go_sem, headC_eq, hc', hk, hk', hge, hi2, pairsD_len, onSome_pairs, pairsD_unif, pairD_eq, hlp, he, pairsD_set, pairsD_snoc, pairsD_empty])); repeat' first | with_reducible exact True.intro | with_reducible refine And.intro ?_ ?_ | with_reducible intro _ | (((with_reducible refine vc_b ?_ ?_) <;> intro _) <;> try (simp -implicitDefEqProofs only [go_sem, headC_eq, hc', hk, hk', hge, hi2, pairsD_len, onSome_pairs, pairsD_unif, pairD_eq, hlp, he, pairsD_set, pairsD_snoc, pairsD_empty])) | simp (disch := omega) only [wrapI, wrapU, shl1, shl1', shl1'', shrN, shrN', and_one] | ((with_reducible refine isEx3 ?_); refine ⟨(_, _, _), rfl, ?_, ?_⟩)
            all_goals first | omega | (simp; done) | (simp; omega) | skip
            all_goals first | exact hnx.symm | exact (isEmpty_snoc _ _).symm | (rw [isEmpty_set]; exact hb0)
        · rw [if_neg (by omega)] at hnx
          have hge : ¬ (0 : Int) ≤ (out.length : Int) - 1 := by omega
          (try (simp -implicitDefEqProofs only [go_sem, headC_eq, hc', hk, hk', hge, hi2, pairsD_len, onSome_pairs, pairsD_unif, pairD_eq, pairsD_snoc, pairsD_empty])); repeat' first | with_reducible exact True.intro | with_reducible refine And.intro ?_ ?_ | with_reducible intro _ | (((with_reducible refine vc_b ?_ ?_) <;> intro _) <;> try (simp -implicitDefEqProofs only [go_sem, headC_eq, hc', hk, hk', hge, hi2, pairsD_len, onSome_pairs, pairsD_unif, pairD_eq, pairsD_snoc, pairsD_empty])) | simp (disch := omega) only [wrapI, wrapU, shl1, shl1', shl1'', shrN, shrN', and_one] | ((with_reducible refine isEx3 ?_); refine ⟨(_, _, _), rfl, ?_, ?_⟩)
          all_goals first | omega | (simp; done) | (simp; omega) | skip
          all_goals first | exact hnx.symm | exact (isEmpty_snoc _ _).symm
      · have hc' : s.wrong < r[i.toNat]?.getD 0 := by omega
        have hisi : is i.toNat = false := by rw [his]; simpa using hc
        rw [hisi] at hnx
        simp only [Bool.false_eq_true, if_false] at hnx
        (try (simp -implicitDefEqProofs only [go_sem, headC_eq, hc'])); repeat' first | with_reducible exact True.intro | with_reducible refine And.intro ?_ ?_ | with_reducible intro _ | (((with_reducible refine vc_b ?_ ?_) <;> intro _) <;> try (simp -implicitDefEqProofs only [go_sem, headC_eq, hc'])) | simp (disch := omega) only [wrapI, wrapU, shl1, shl1', shl1'', shrN, shrN', and_one] | ((with_reducible refine isEx3 ?_); refine ⟨(_, _, _), rfl, ?_, ?_⟩)
        all_goals first | omega | (simp; done) | (simp; omega) | skip
        all_goals first | exact hnx.symm | skip
    · have : i.toNat = r.length := by omega
      rw [this] at h3
      rw [← h3, ← hb0]
      (try (simp -implicitDefEqProofs only [go_sem])); repeat' first | with_reducible exact True.intro | with_reducible refine And.intro ?_ ?_ | with_reducible intro _ | (((with_reducible refine vc_b ?_ ?_) <;> intro _) <;> try (simp -implicitDefEqProofs only [go_sem])) | simp (disch := omega) only [wrapI, wrapU, shl1, shl1', shl1'', shrN, shrN', and_one] | ((with_reducible refine isEx3 ?_); refine ⟨(_, _, _), rfl, ?_, ?_⟩)
      all_goals first | omega | (simp; done) | (simp; omega) | skip
end Go.Pw
