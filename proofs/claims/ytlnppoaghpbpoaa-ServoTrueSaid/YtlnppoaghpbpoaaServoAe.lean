/- A part of the proof. -/
import Derived.Test.YtlnppoaghpbpoaaServoAd
import Derived.Test.YtlnppoaghpbpoaaServoV
set_option linter.all false
open Go Go.Pw Go.Proofs
namespace Go.Pw
set_option linter.unusedSimpArgs false
set_option linter.unusedVariables false
set_option maxRecDepth 100000
set_option maxHeartbeats 1600000

def bls (B : List Bool) : List D := B.map D.bool
theorem bls_len (B : List Bool) : (bls B).length = B.length := by simp [bls]
theorem bls_unif (B : List Bool) : Unif 1 (bls B) = True := unif_map fun _ => rfl
theorem bls_snoc (B : List Bool) (b : Bool) : bls B ++ [.bool b] = bls (B ++ [b]) := by simp [bls]
theorem bls_empty (B : List Bool) : (bls B).isEmpty = B.isEmpty := by cases B <;> rfl
theorem onSome_bls {B : List Bool} {i : Nat} {A : D → Prop} : onSome (bls B)[i]? A = (i < B.length ∧ A (.bool (B[i]?.getD false))) := by
  unfold bls
  rw [List.getElem?_map]
  by_cases h : i < B.length
  · simp [h, onSome]
  · have : B[i]? = none := List.getElem?_eq_none (by omega)
    simp [this, h, onSome]

def spB (B : List Bool) : List Pair := spansOf (fun p => B[p]?.getD false) B.length
theorem addPos_is (is : Nat → Bool) (k : Nat) : addPos (spansOf is k) k = if 0 < k ∧ is (k - 1) = true then (spansOf is k).set ((spansOf is k).length - 1) ((lastP (spansOf is k)).1, k) else spansOf is k ++ [((k : Int), (k : Int))] := by
  obtain ⟨h1, h2, h3⟩ := spansOf_spec is k
  unfold addPos
  by_cases hk : 0 < k ∧ is (k - 1) = true
  · rw [if_pos hk]
    have hm : MemP (spansOf is k) ((k : Int) - 1) := (h3 _).2 ⟨by omega, by omega, by rw [show ((k : Int) - 1).toNat = k - 1 by omega]; exact hk.2⟩
    have hpos : 0 < (spansOf is k).length := by cases hh : spansOf is k with | nil => rw [hh] at hm; exact absurd hm (memP_nil _) | cons _ _ => simp
    have e1 := (norm_ends h1 hm).2
    have e2 := h2 (lastP (spansOf is k)) (getD_mem (by omega))
    rw [if_pos ⟨hpos, by omega⟩]
  · rw [if_neg hk, if_neg]
    rintro ⟨hpos, he⟩
    have hmm := getD_mem (l := spansOf is k) (i := (spansOf is k).length - 1) (by omega)
    have hm : MemP (spansOf is k) ((k : Int) - 1) := ⟨lastP (spansOf is k), hmm, by have := h1.2 _ hmm; change (lastP _).1 ≤ (lastP _).2 at this; omega, by omega⟩
    have := (h3 _).1 hm
    exact hk ⟨by omega, by rw [show k - 1 = ((k : Int) - 1).toNat by omega]; exact this.2.2⟩
theorem is_pos {is : Nat → Bool} {k : Nat} (hk : 0 < k ∧ is (k - 1) = true) : 0 < (spansOf is k).length := spansOf_pos is k (k - 1) (by omega) hk.2

def GServo.endsB (s : GServo) (l : List Pair) : List Bool := (s.endL l).map fun v => decide (v ≤ s.wrong)
theorem endsB_get (s : GServo) (l : List Pair) {p : Nat} (h : p < (s.endL l).length) : (s.endsB l)[p]?.getD false = decide ((s.endL l)[p]?.getD 0 ≤ s.wrong) := by simp [GServo.endsB, h]
theorem spansOf_congr {is is' : Nat → Bool} : ∀ {k : Nat}, (∀ p, p < k → is p = is' p) → spansOf is k = spansOf is' k
  | 0, _ => rfl
  | k + 1, h => by
    simp only [spansOf]
    rw [spansOf_congr (k := k) fun p hp => h p (by omega), h k (by omega)]
theorem spB_ends (s : GServo) (l : List Pair) : spB (s.endsB l) = s.endsL l := by
  unfold spB GServo.endsL
  rw [show (s.endsB l).length = (s.endL l).length by simp [GServo.endsB]]
  exact spansOf_congr fun p hp => endsB_get s l hp
theorem ends_none {s : GServo} (h : s.ok = true) (l : List Pair) : s.endsL l = [] ↔ s.wrong < minL (s.endL l) := by
  constructor
  · intro he
    rcases Classical.em (s.wrong < minL (s.endL l)) with h1 | h1
    · exact h1
    · have := ends_pos h h1; rw [he] at this; simp at this
  · intro hm
    obtain ⟨n1, n2, n3⟩ := ends_spec h l
    cases hh : s.endsL l with
    | nil => rfl
    | cons q r =>
      have hq := n1.2 q (by rw [hh]; simp)
      obtain ⟨a, b, c⟩ := (n3 q.1).1 ⟨q, by rw [hh]; simp, by omega, hq⟩
      have hz := endL_len h l
      have := (minL_spec (l := s.endL l) (by omega)).2 _ (getD_mem0 (l := s.endL l) (i := q.1.toNat) (by omega))
      omega

attribute [local congr] cg_pw cg_seqI cg_seqE cg_stepI cg_ev cg_evBin cg_condB cg_condV cg_thenQ cg_blockQ cg_onSome cg_onCells cg_onRow cg_onMap cg_onOpt cg_ghosts cg_ghost cg_evCall cg_part cg_rng cg_guardV cg_frzV cg_frpV cg_ownV cg_owcV cg_occV cg_occX cg_resK cg_res1
attribute [local irreducible] IntKind.wrap bitsOp Option.getD and or
theorem ref02_spans_ret (nl : Bool) (B : List Bool) (hB : B.length ≤ 2000) : Ret E0 F_ref02_spans [.list nl (bls B)] (.list (spB B).isEmpty (pairsD (spB B))) := by
  refine ret_of_pw dec_ref02_spans mixed (by simp) fun hwf => ?_
  obtain ⟨is, his⟩ : ∃ is : Nat → Bool, is = fun p => B[p]?.getD false := ⟨_, rfl⟩
  unfold spB
  rw [← his]
  rw [enter_eq]; unfold pc_ref02_spans
  (try (simp -implicitDefEqProofs only [go_sem])); repeat' first | with_reducible exact True.intro | with_reducible refine And.intro ?_ ?_ | with_reducible intro _ | (((with_reducible refine vc_b ?_ ?_) <;> intro _) <;> try (simp -implicitDefEqProofs only [go_sem])) | simp (disch := omega) only [wrapI, wrapU, shl1, shl1', shl1'', shrN, shrN', and_one] | ((with_reducible refine isEx3 ?_); refine ⟨(_, _, _), rfl, ?_, ?_⟩)
  refine pw_loopS (α := Int × (List Pair) × Bool) (l0 := ?l1) (m0 := ?m1) (fun x => [(4, .d (.int .i64 x.1))]) (fun x => [(42, .row 54 2 x.2.2 (pairsD x.2.1))]) (fun x => 0 ≤ x.1 ∧ x.1 ≤ B.length ∧ x.2.1 = spansOf is x.1.toNat ∧ x.2.2 = x.2.1.isEmpty) (fun x => (B.length - x.1).toNat) (?a1_0, [], true) ?h01 ?he1 ?he21 ?hI1 ?step1
  case h01 => (simp -implicitDefEqProofs only [go_sem]; rfl)
  case he1 => rfl
  case he21 => rfl
  case' step1 => (rintro ⟨i, out, b⟩ hI; try dsimp only at hI)
  case' hI1 => try dsimp only
  · exact ⟨by omega, by omega, rfl, rfl⟩
  · obtain ⟨h1, h2, h3, h4⟩ := hI
    by_cases hi : i < B.length
    · have hle := spansOf_len is i.toNat
      have hip := fun h => is_pos (is := is) (k := i.toNat) h
      have hap := addPos_is is i.toNat
      have hnx : spansOf is (i + 1).toNat = if is i.toNat then addPos (spansOf is i.toNat) i else spansOf is i.toNat := by
        rw [show (i + 1).toNat = i.toNat + 1 by omega, spansOf, show ((i.toNat : Nat) : Int) = i by omega]
      rw [show ((i.toNat : Nat) : Int) = i by omega] at hap
      rw [hap] at hnx
      rw [← h3] at hle hip hnx
      clear hap
      have e0 : B[i.toNat]?.getD false = is i.toNat := by rw [his]
      have hk : IntKind.i64.wrap ((out.length : Int) - 1) = (out.length : Int) - 1 := wrapI _ (by omega)
      have hk' : ((out.length : Int) - 1).toNat = out.length - 1 := by omega
      have hlp : out[out.length - 1]?.getD default = lastP out := rfl
      cases hx : is i.toNat with
      | false =>
        rw [hx] at e0 hnx
        simp only [Bool.false_eq_true, if_false] at hnx
        (try (simp -implicitDefEqProofs only [go_sem, bls_len, onSome_bls, bls_unif, e0])); repeat' first | with_reducible exact True.intro | with_reducible refine And.intro ?_ ?_ | with_reducible intro _ | (((with_reducible refine vc_b ?_ ?_) <;> intro _) <;> try (simp -implicitDefEqProofs only [go_sem, bls_len, onSome_bls, bls_unif, e0])) | simp (disch := omega) only [wrapI, wrapU, shl1, shl1', shl1'', shrN, shrN', and_one] | ((with_reducible refine isEx3 ?_); refine ⟨(_, _, _), rfl, ?_, ?_⟩)
        all_goals first | omega | exact hnx.symm | skip
      | true =>
        rw [hx, if_pos rfl] at hnx
        rw [hx] at e0
        by_cases hi0 : 0 < i
        · have w1 : IntKind.i64.wrap (i - 1) = i - 1 := wrapI _ (by omega)
          have e1 : (i - 1).toNat = i.toNat - 1 := by omega
          have e2 : B[i.toNat - 1]?.getD false = is (i.toNat - 1) := by rw [his]
          cases hy : is (i.toNat - 1) with
          | false =>
            rw [hy] at e2
            rw [if_neg (by simp [hy])] at hnx
            (try (simp -implicitDefEqProofs only [go_sem, bls_len, onSome_bls, bls_unif, e0, hi0, w1, e1, e2, pairsD_snoc, pairsD_len, pairsD_unif])); repeat' first | with_reducible exact True.intro | with_reducible refine And.intro ?_ ?_ | with_reducible intro _ | (((with_reducible refine vc_b ?_ ?_) <;> intro _) <;> try (simp -implicitDefEqProofs only [go_sem, bls_len, onSome_bls, bls_unif, e0, hi0, w1, e1, e2, pairsD_snoc, pairsD_len, pairsD_unif])) | simp (disch := omega) only [wrapI, wrapU, shl1, shl1', shl1'', shrN, shrN', and_one] | ((with_reducible refine isEx3 ?_); refine ⟨(_, _, _), rfl, ?_, ?_⟩)
            all_goals first | omega | exact hnx.symm | exact (isEmpty_snoc _ _).symm | skip
          | true =>
            rw [hy] at e2
            have hc : 0 < i.toNat ∧ is (i.toNat - 1) = true := ⟨by omega, hy⟩
            rw [if_pos hc] at hnx
            have hpos := hip hc
            (try (simp -implicitDefEqProofs only [go_sem, bls_len, onSome_bls, bls_unif, e0, hi0, w1, e1, e2, hk, hk', pairsD_len, onSome_pairs, pairsD_unif, pairD_eq, hlp, pairsD_set])); repeat' first | with_reducible exact True.intro | with_reducible refine And.intro ?_ ?_ | with_reducible intro _ | (((with_reducible refine vc_b ?_ ?_) <;> intro _) <;> try (simp -implicitDefEqProofs only [go_sem, bls_len, onSome_bls, bls_unif, e0, hi0, w1, e1, e2, hk, hk', pairsD_len, onSome_pairs, pairsD_unif, pairD_eq, hlp, pairsD_set])) | simp (disch := omega) only [wrapI, wrapU, shl1, shl1', shl1'', shrN, shrN', and_one] | ((with_reducible refine isEx3 ?_); refine ⟨(_, _, _), rfl, ?_, ?_⟩)
            all_goals first | omega | exact hnx.symm | (rw [isEmpty_set]; exact h4) | (simp; done) | skip
        · rw [if_neg (by omega)] at hnx
          (try (simp -implicitDefEqProofs only [go_sem, bls_len, onSome_bls, bls_unif, e0, hi0, pairsD_snoc, pairsD_len, pairsD_unif])); repeat' first | with_reducible exact True.intro | with_reducible refine And.intro ?_ ?_ | with_reducible intro _ | (((with_reducible refine vc_b ?_ ?_) <;> intro _) <;> try (simp -implicitDefEqProofs only [go_sem, bls_len, onSome_bls, bls_unif, e0, hi0, pairsD_snoc, pairsD_len, pairsD_unif])) | simp (disch := omega) only [wrapI, wrapU, shl1, shl1', shl1'', shrN, shrN', and_one] | ((with_reducible refine isEx3 ?_); refine ⟨(_, _, _), rfl, ?_, ?_⟩)
          all_goals first | omega | exact hnx.symm | exact (isEmpty_snoc _ _).symm | skip
    · have : i.toNat = B.length := by omega
      rw [this] at h3
      rw [← h3, ← h4]
      (try (simp -implicitDefEqProofs only [go_sem, bls_len])); repeat' first | with_reducible exact True.intro | with_reducible refine And.intro ?_ ?_ | with_reducible intro _ | (((with_reducible refine vc_b ?_ ?_) <;> intro _) <;> try (simp -implicitDefEqProofs only [go_sem, bls_len])) | simp (disch := omega) only [wrapI, wrapU, shl1, shl1', shl1'', shrN, shrN', and_one] | ((with_reducible refine isEx3 ?_); refine ⟨(_, _, _), rfl, ?_, ?_⟩)
      all_goals first | omega | (simp; done) | (simp; omega) | skip

theorem ref02_ends_ret (s : GServo) (h : s.ok = true) (nl : Bool) (l : List Pair) (hl : l.all wedgeOk = true) (h24 : l.length ≤ 24) :
    Ret E0 F_ref02_ends [servoD s, .list nl (pairsD l)] (.list false (bls (s.endsB l))) := by
  refine ret_of_pw dec_ref02_ends mixed (by simp) fun hwf => ?_
  have hlb := last_bound h
  have hz := endL_len h l
  have c1 := ref02_fewest_ret s h nl l hl h24 (-1)
  rw [frow_pre h l h24 l.length (Nat.le_refl _)] at c1
  change Ret E0 _ _ (.list false (ints (s.endL l))) at c1
  rw [servoD_eq, servoC_eq] at c1
  have hbl : (s.endsB l).length = (s.endL l).length := by simp [GServo.endsB]
  have hbg := fun p hp => endsB_get s l (p := p) hp
  generalize s.endsB l = EB at *
  generalize s.endL l = EL at *
  rw [enter_eq]; unfold pc_ref02_ends
  (try (simp -implicitDefEqProofs only [go_sem, servoD_eq, servoC_eq])); repeat' first | with_reducible exact True.intro | with_reducible refine And.intro ?_ ?_ | with_reducible intro _ | (((with_reducible refine isCall ?_); first | refine call_b (c1) rfl ?_ ?_ | refine call_d (c1) rfl ?_ | refine call_sb (c1) rfl ?_ ?_ | refine call_s (c1) rfl rfl ?_) <;> try (simp -implicitDefEqProofs only [go_sem, servoD_eq, servoC_eq])) | (((with_reducible refine vc_b ?_ ?_) <;> intro _) <;> try (simp -implicitDefEqProofs only [go_sem, servoD_eq, servoC_eq])) | simp (disch := omega) only [wrapI, wrapU, shl1, shl1', shl1'', shrN, shrN', and_one] | ((with_reducible refine isEx3 ?_); refine ⟨(_, _, _), rfl, ?_, ?_⟩)
  all_goals first | omega | (simp; done) | (simp; omega) | skip
  refine pw_loopS (α := Int × (List Bool) × Bool) (l0 := ?l2) (m0 := ?m2) (fun x => [(7, .d (.int .i64 x.1))]) (fun x => [(26, .row 4 1 x.2.2 (bls x.2.1))]) (fun x => 0 ≤ x.1 ∧ x.1 ≤ EL.length ∧ (x.2.1.length : Int) = x.1 ∧ (∀ j : Nat, (j : Int) < x.1 → x.2.1[j]?.getD false = decide (EL[j]?.getD 0 ≤ s.wrong)) ∧ x.2.2 = x.2.1.isEmpty) (fun x => (EL.length - x.1).toNat) (?a2_0, [], true) ?h02 ?he2 ?he22 ?hI2 ?step2
  case h02 => (simp -implicitDefEqProofs only [go_sem, servoD_eq, servoC_eq]; rfl)
  case he2 => rfl
  case he22 => rfl
  case' step2 => (rintro ⟨i, B, b⟩ hI; try dsimp only at hI)
  case' hI2 => try dsimp only
  · exact ⟨by omega, by omega, by simp, fun j hj => by omega, rfl⟩
  · obtain ⟨h1, h2, h3, h4, h5⟩ := hI
    by_cases hi : i < EL.length
    · have hs4 : ∀ v, decide (EL[i.toNat]?.getD 0 ≤ s.wrong) = v → ∀ j : Nat, (j : Int) < i + 1 → (B ++ [v])[j]?.getD false = decide (EL[j]?.getD 0 ≤ s.wrong) := fun v hv j hj => by
        rcases (show (j : Int) < i ∨ j = i.toNat by omega) with h | h
        · rw [List.getElem?_append_left (by omega)]; exact h4 j h
        · rw [List.getElem?_append_right (by omega), show j - B.length = 0 by omega, h, hv]; simp
      by_cases hv : EL[i.toNat]?.getD 0 ≤ s.wrong
      · have hs5 := hs4 true (by simpa using hv)
        (try (simp -implicitDefEqProofs only [go_sem, servoD_eq, servoC_eq, bls_snoc, bls_len, bls_unif, hv, decide_true])); repeat' first | with_reducible exact True.intro | with_reducible refine And.intro ?_ ?_ | with_reducible intro _ | (((with_reducible refine vc_b ?_ ?_) <;> intro _) <;> try (simp -implicitDefEqProofs only [go_sem, servoD_eq, servoC_eq, bls_snoc, bls_len, bls_unif, hv, decide_true])) | simp (disch := omega) only [wrapI, wrapU, shl1, shl1', shl1'', shrN, shrN', and_one] | ((with_reducible refine isEx3 ?_); refine ⟨(_, _, _), rfl, ?_, ?_⟩)
        all_goals first | omega | (apply hs5; assumption) | exact (isEmpty_snoc _ _).symm | (rw [List.length_append]; simp; omega) | (simp; done) | (simp; omega) | skip
      · have hs5 := hs4 false (by simpa using hv)
        (try (simp -implicitDefEqProofs only [go_sem, servoD_eq, servoC_eq, bls_snoc, bls_len, bls_unif, hv, decide_false])); repeat' first | with_reducible exact True.intro | with_reducible refine And.intro ?_ ?_ | with_reducible intro _ | (((with_reducible refine vc_b ?_ ?_) <;> intro _) <;> try (simp -implicitDefEqProofs only [go_sem, servoD_eq, servoC_eq, bls_snoc, bls_len, bls_unif, hv, decide_false])) | simp (disch := omega) only [wrapI, wrapU, shl1, shl1', shl1'', shrN, shrN', and_one] | ((with_reducible refine isEx3 ?_); refine ⟨(_, _, _), rfl, ?_, ?_⟩)
        all_goals first | omega | (apply hs5; assumption) | exact (isEmpty_snoc _ _).symm | (rw [List.length_append]; simp; omega) | (simp; done) | (simp; omega) | skip
    · have hbf : b = false := by rw [h5]; cases B with | nil => simp at h3; omega | cons _ _ => rfl
      have hfin : B = EB := by
        refine List.ext_getElem (by omega) fun j h6 h7 => ?_
        have e1 := h4 j (by omega)
        have e2 := hbg j (by omega)
        rw [List.getElem?_eq_getElem h6, Option.getD_some] at e1
        rw [List.getElem?_eq_getElem h7, Option.getD_some] at e2
        rw [e1, e2]
      rw [← hfin]
      subst hbf
      (try (simp -implicitDefEqProofs only [go_sem, servoD_eq, servoC_eq])); repeat' first | with_reducible exact True.intro | with_reducible refine And.intro ?_ ?_ | with_reducible intro _ | (((with_reducible refine vc_b ?_ ?_) <;> intro _) <;> try (simp -implicitDefEqProofs only [go_sem, servoD_eq, servoC_eq])) | simp (disch := omega) only [wrapI, wrapU, shl1, shl1', shl1'', shrN, shrN', and_one] | ((with_reducible refine isEx3 ?_); refine ⟨(_, _, _), rfl, ?_, ?_⟩)
      all_goals first | omega | (simp; done) | (simp; omega) | skip

/-- What the specification knows. -/
theorem ref02_known_ok (s : GServo) (nl : Bool) (l : List Pair) (told : Bool) (h : s.known l told = 0) :
    Ret E0 F_ref02_known [servoD s, .list nl (pairsD l), .bool told] (.tup [.list false (bls (s.endsB l)), .int .i64 0]) := by
  refine ret_of_pw dec_ref02_known mixed (by simp) fun hwf => ?_
  obtain ⟨hc, ht, hm⟩ := known_zero h
  obtain ⟨hok, ha, h24⟩ := check_zero hc
  subst ht
  have hz := endL_len hok l
  have hlb := last_bound hok
  have c1 := ref02_Check_ret s nl l
  rw [hc] at c1
  have c2 := ref02_ends_ret s hok nl l ha h24
  have c3 := ref02_spans_ret false (s.endsB l) (by simp [GServo.endsB]; omega)
  rw [spB_ends] at c3
  have hpos := ends_pos hok hm
  have hne : ¬ ((s.endsL l).length : Int) = 0 := by omega
  rw [servoD_eq, servoC_eq] at c1 c2
  rw [enter_eq]; unfold pc_ref02_known
  generalize s.endsB l = EB at *
  generalize s.endsL l = EL at *
  (try (simp -implicitDefEqProofs only [go_sem, servoD_eq, servoC_eq, pairsD_len, hne])); repeat' first | with_reducible exact True.intro | with_reducible refine And.intro ?_ ?_ | with_reducible intro _ | (((with_reducible refine isCall ?_); first | refine call_b (c1) rfl ?_ ?_ | refine call_d (c1) rfl ?_ | refine call_sb (c1) rfl ?_ ?_ | refine call_s (c1) rfl rfl ?_ | refine call_b (c2) rfl ?_ ?_ | refine call_d (c2) rfl ?_ | refine call_sb (c2) rfl ?_ ?_ | refine call_s (c2) rfl rfl ?_ | refine call_b (c3) rfl ?_ ?_ | refine call_d (c3) rfl ?_ | refine call_sb (c3) rfl ?_ ?_ | refine call_s (c3) rfl rfl ?_) <;> try (simp -implicitDefEqProofs only [go_sem, servoD_eq, servoC_eq, pairsD_len, hne])) | (((with_reducible refine vc_b ?_ ?_) <;> intro _) <;> try (simp -implicitDefEqProofs only [go_sem, servoD_eq, servoC_eq, pairsD_len, hne])) | simp (disch := omega) only [wrapI, wrapU, shl1, shl1', shl1'', shrN, shrN', and_one] 
  all_goals first | omega | (simp; done) | (simp; omega) | skip
theorem ref02_known_bad (s : GServo) (nl : Bool) (l : List Pair) (told : Bool) (h : ¬ s.known l told = 0) :
    Ret E0 F_ref02_known [servoD s, .list nl (pairsD l), .bool told] (.tup [.list true [], .int .i64 (s.known l told)]) := by
  refine ret_of_pw dec_ref02_known mixed (by simp) fun hwf => ?_
  rw [enter_eq]; unfold pc_ref02_known
  have c1 := ref02_Check_ret s nl l
  rw [servoD_eq, servoC_eq] at c1
  by_cases hc : s.check l = 0
  · rw [hc] at c1
    obtain ⟨hok, ha, h24⟩ := check_zero hc
    have hz := endL_len hok l
    have hlb := last_bound hok
    cases told with
    | false =>
      have hk : s.known l false = 1 := by simp [GServo.known, hc]
      rw [hk]
      (try (simp -implicitDefEqProofs only [go_sem, servoD_eq, servoC_eq])); repeat' first | with_reducible exact True.intro | with_reducible refine And.intro ?_ ?_ | with_reducible intro _ | (((with_reducible refine isCall ?_); first | refine call_b (c1) rfl ?_ ?_ | refine call_d (c1) rfl ?_ | refine call_sb (c1) rfl ?_ ?_ | refine call_s (c1) rfl rfl ?_) <;> try (simp -implicitDefEqProofs only [go_sem, servoD_eq, servoC_eq])) | (((with_reducible refine vc_b ?_ ?_) <;> intro _) <;> try (simp -implicitDefEqProofs only [go_sem, servoD_eq, servoC_eq])) | simp (disch := omega) only [wrapI, wrapU, shl1, shl1', shl1'', shrN, shrN', and_one] 
      all_goals first | omega | (simp; done) | (simp; omega) | skip
    | true =>
      have hm : s.wrong < minL (s.endL l) := by
        rcases Classical.em (s.wrong < minL (s.endL l)) with h1 | h1
        · exact h1
        · exact absurd (by simp [GServo.known, hc, h1]) h
      have hk : s.known l true = 3 := by simp [GServo.known, hc, hm]
      rw [hk]
      have c2 := ref02_ends_ret s hok nl l ha h24
      have c3 := ref02_spans_ret false (s.endsB l) (by simp [GServo.endsB]; omega)
      rw [spB_ends, (ends_none hok l).2 hm] at c3
      change Ret E0 _ _ (.list true []) at c3
      rw [servoD_eq, servoC_eq] at c2
      generalize s.endsB l = EB at *
      (try (simp -implicitDefEqProofs only [go_sem, servoD_eq, servoC_eq])); repeat' first | with_reducible exact True.intro | with_reducible refine And.intro ?_ ?_ | with_reducible intro _ | (((with_reducible refine isCall ?_); first | refine call_b (c1) rfl ?_ ?_ | refine call_d (c1) rfl ?_ | refine call_sb (c1) rfl ?_ ?_ | refine call_s (c1) rfl rfl ?_ | refine call_b (c2) rfl ?_ ?_ | refine call_d (c2) rfl ?_ | refine call_sb (c2) rfl ?_ ?_ | refine call_s (c2) rfl rfl ?_ | refine call_b (c3) rfl ?_ ?_ | refine call_d (c3) rfl ?_ | refine call_sb (c3) rfl ?_ ?_ | refine call_s (c3) rfl rfl ?_) <;> try (simp -implicitDefEqProofs only [go_sem, servoD_eq, servoC_eq])) | (((with_reducible refine vc_b ?_ ?_) <;> intro _) <;> try (simp -implicitDefEqProofs only [go_sem, servoD_eq, servoC_eq])) | simp (disch := omega) only [wrapI, wrapU, shl1, shl1', shl1'', shrN, shrN', and_one] 
      all_goals first | omega | (simp; done) | (simp; omega) | skip
  · have hk : s.known l told = s.check l := by simp [GServo.known, hc]
    rw [hk]
    (try (simp -implicitDefEqProofs only [go_sem, servoD_eq, servoC_eq, hc])); repeat' first | with_reducible exact True.intro | with_reducible refine And.intro ?_ ?_ | with_reducible intro _ | (((with_reducible refine isCall ?_); first | refine call_b (c1) rfl ?_ ?_ | refine call_d (c1) rfl ?_ | refine call_sb (c1) rfl ?_ ?_ | refine call_s (c1) rfl rfl ?_) <;> try (simp -implicitDefEqProofs only [go_sem, servoD_eq, servoC_eq, hc])) | (((with_reducible refine vc_b ?_ ?_) <;> intro _) <;> try (simp -implicitDefEqProofs only [go_sem, servoD_eq, servoC_eq, hc])) | simp (disch := omega) only [wrapI, wrapU, shl1, shl1', shl1'', shrN, shrN', and_one] 
    all_goals first | omega | (simp; done) | (simp; omega) | skip
theorem laterOf_zero {s : GServo} (h : s.ok = true) (l : List Pair) : s.laterL l 0 = s.endsL l := by
  obtain ⟨n1, m1⟩ := later_spec h l (more := 0) (by omega)
  obtain ⟨n2, _, m2⟩ := ends_spec h l
  refine norm_unique n1 n2 fun x => ?_
  rw [m1, m2]
  constructor
  · rintro ⟨a, b, y, ⟨y0, y1, y2⟩, y3⟩
    have : x = y := by simp at y3; omega
    subst this; exact ⟨a, b, y2⟩
  · rintro ⟨a, b, c⟩; exact ⟨a, b, x, ⟨a, b, c⟩, by simp, by simp⟩
theorem ref02_Where_ret (s : GServo) (nl : Bool) (l : List Pair) :
    Ret E0 F_ref02_Where [servoD s, .list nl (pairsD l)] (.tup [.list (s.ahead l 0).1.isEmpty (pairsD (s.ahead l 0).1), .int .i64 (s.ahead l 0).2]) := by
  refine ret_of_pw dec_ref02_Where mixed (by simp) fun hwf => ?_
  rw [enter_eq]; unfold pc_ref02_Where
  by_cases hk : s.known l true = 0
  · obtain ⟨hc, _, hm⟩ := known_zero hk
    obtain ⟨hok, ha, h24⟩ := check_zero hc
    have hz := endL_len hok l
    have hlb := last_bound hok
    have e : s.ahead l 0 = (s.endsL l, 0) := by simp [GServo.ahead, hk, inR, laterOf_zero hok]
    have c1 := ref02_known_ok s nl l true hk
    have c3 := ref02_spans_ret false (s.endsB l) (by simp [GServo.endsB]; omega)
    rw [spB_ends] at c3
    rw [e]
    rw [servoD_eq, servoC_eq] at c1
    generalize s.endsB l = EB at *
    generalize s.endsL l = EL at *
    (try (simp -implicitDefEqProofs only [go_sem, servoD_eq, servoC_eq])); repeat' first | with_reducible exact True.intro | with_reducible refine And.intro ?_ ?_ | with_reducible intro _ | (((with_reducible refine isCall ?_); first | refine call_b (c1) rfl ?_ ?_ | refine call_d (c1) rfl ?_ | refine call_sb (c1) rfl ?_ ?_ | refine call_s (c1) rfl rfl ?_ | refine call_b (c3) rfl ?_ ?_ | refine call_d (c3) rfl ?_ | refine call_sb (c3) rfl ?_ ?_ | refine call_s (c3) rfl rfl ?_) <;> try (simp -implicitDefEqProofs only [go_sem, servoD_eq, servoC_eq])) | (((with_reducible refine vc_b ?_ ?_) <;> intro _) <;> try (simp -implicitDefEqProofs only [go_sem, servoD_eq, servoC_eq])) | simp (disch := omega) only [wrapI, wrapU, shl1, shl1', shl1'', shrN, shrN', and_one] 
    all_goals first | omega | (simp; done) | (simp; omega) | skip
  · have e : s.ahead l 0 = ([], s.known l true) := by simp [GServo.ahead, hk, inR]
    have c1 := ref02_known_bad s nl l true hk
    rw [e]
    rw [servoD_eq, servoC_eq] at c1
    (try (simp -implicitDefEqProofs only [go_sem, servoD_eq, servoC_eq, hk])); repeat' first | with_reducible exact True.intro | with_reducible refine And.intro ?_ ?_ | with_reducible intro _ | (((with_reducible refine isCall ?_); first | refine call_b (c1) rfl ?_ ?_ | refine call_d (c1) rfl ?_ | refine call_sb (c1) rfl ?_ ?_ | refine call_s (c1) rfl rfl ?_) <;> try (simp -implicitDefEqProofs only [go_sem, servoD_eq, servoC_eq, hk])) | (((with_reducible refine vc_b ?_ ?_) <;> intro _) <;> try (simp -implicitDefEqProofs only [go_sem, servoD_eq, servoC_eq, hk])) | simp (disch := omega) only [wrapI, wrapU, shl1, shl1', shl1'', shrN, shrN', and_one] 
    all_goals first | rfl | omega
theorem ref02_Fewest_ret (s : GServo) (nl : Bool) (l : List Pair) :
    Ret E0 F_ref02_Fewest [servoD s, .list nl (pairsD l)] (.tup [.int .i64 (s.fewest l).1, .int .i64 (s.fewest l).2]) := by
  refine ret_of_pw dec_ref02_Fewest mixed (by simp) fun hwf => ?_
  rw [enter_eq]; unfold pc_ref02_Fewest
  have c1 := ref02_Check_ret s nl l
  rw [servoD_eq, servoC_eq] at c1
  by_cases hc : s.check l = 0
  · obtain ⟨hok, ha, h24⟩ := check_zero hc
    rw [hc] at c1
    have hz := endL_len hok l
    have hlb := last_bound hok
    have c2 := ref02_fewest_ret s hok nl l ha h24 (-1)
    rw [frow_pre hok l h24 l.length (Nat.le_refl _)] at c2
    change Ret E0 _ _ (.list false (ints (s.endL l))) at c2
    rw [servoD_eq, servoC_eq] at c2
    simp only [GServo.fewest, hc, if_true]
    obtain ⟨m1, m2⟩ := minL_spec (l := s.endL l) (by omega)
    generalize s.endL l = EL at *
    generalize minL EL = MI at *
    (try (simp -implicitDefEqProofs only [go_sem, servoD_eq, servoC_eq])); repeat' first | with_reducible exact True.intro | with_reducible refine And.intro ?_ ?_ | with_reducible intro _ | (((with_reducible refine isCall ?_); first | refine call_b (c1) rfl ?_ ?_ | refine call_d (c1) rfl ?_ | refine call_sb (c1) rfl ?_ ?_ | refine call_s (c1) rfl rfl ?_ | refine call_b (c2) rfl ?_ ?_ | refine call_d (c2) rfl ?_ | refine call_sb (c2) rfl ?_ ?_ | refine call_s (c2) rfl rfl ?_) <;> try (simp -implicitDefEqProofs only [go_sem, servoD_eq, servoC_eq])) | (((with_reducible refine vc_b ?_ ?_) <;> intro _) <;> try (simp -implicitDefEqProofs only [go_sem, servoD_eq, servoC_eq])) | simp (disch := omega) only [wrapI, wrapU, shl1, shl1', shl1'', shrN, shrN', and_one] | ((with_reducible refine isEx2 ?_); refine ⟨(_, _), rfl, ?_, ?_⟩)
    all_goals first | omega | (simp; done) | (simp; omega) | skip
    refine pw_loopS (α := Int × Int) (l0 := ?l3) (m0 := ?m3) (fun x => [(9, .d (.int .i64 x.1)), (8, .d (.int .i64 x.2))]) (fun x => []) (fun x => 0 ≤ x.1 ∧ x.1 ≤ EL.length ∧ x.2 ∈ EL ∧ ∀ j : Nat, (j : Int) < x.1 → x.2 ≤ EL[j]?.getD 0) (fun x => (EL.length - x.1).toNat) (?a3_0, ?a3_1) ?h03 ?he3 ?he23 ?hI3 ?step3
    case h03 => (simp -implicitDefEqProofs only [go_sem]; rfl)
    case he3 => rfl
    case he23 => rfl
    case' step3 => (rintro ⟨i, n⟩ hI; try dsimp only at hI)
    case' hI3 => try dsimp only
    · exact ⟨by omega, by omega, getD_mem0 (by omega), fun j hj => by omega⟩
    · obtain ⟨h1, h2, h3, h4⟩ := hI
      by_cases hi : i < EL.length
      · have hmem : min n (EL[i.toNat]?.getD 0) ∈ EL := by
          rcases (show min n (EL[i.toNat]?.getD 0) = n ∨ min n (EL[i.toNat]?.getD 0) = EL[i.toNat]?.getD 0 by omega) with h | h
          · rw [h]; exact h3
          · rw [h]; exact getD_mem0 (by omega)
        have hs4 : ∀ j : Nat, (j : Int) < i + 1 → min n (EL[i.toNat]?.getD 0) ≤ EL[j]?.getD 0 := fun j hj => by
          rcases (show (j : Int) < i ∨ j = i.toNat by omega) with h | h
          · have := h4 j h; omega
          · rw [h]; omega
        (try (simp -implicitDefEqProofs only [go_sem])); repeat' first | with_reducible exact True.intro | with_reducible refine And.intro ?_ ?_ | with_reducible intro _ | (((with_reducible refine vc_b ?_ ?_) <;> intro _) <;> try (simp -implicitDefEqProofs only [go_sem])) | simp (disch := omega) only [wrapI, wrapU, shl1, shl1', shl1'', shrN, shrN', and_one] | ((with_reducible refine isEx2 ?_); refine ⟨(_, _), rfl, ?_, ?_⟩)
        all_goals first | omega | exact hmem | (apply hs4; assumption) | skip
      · obtain ⟨j, hj, he⟩ := List.getElem_of_mem m1
        have a1 := h4 j (by omega)
        rw [List.getElem?_eq_getElem hj, Option.getD_some, he] at a1
        have a2 := m2 n h3
        have : n = MI := by omega
        subst this
        (try (simp -implicitDefEqProofs only [go_sem])); repeat' first | with_reducible exact True.intro | with_reducible refine And.intro ?_ ?_ | with_reducible intro _ | (((with_reducible refine vc_b ?_ ?_) <;> intro _) <;> try (simp -implicitDefEqProofs only [go_sem])) | simp (disch := omega) only [wrapI, wrapU, shl1, shl1', shl1'', shrN, shrN', and_one] | ((with_reducible refine isEx2 ?_); refine ⟨(_, _), rfl, ?_, ?_⟩)
        all_goals first | omega | (simp; done) | (simp; omega) | skip
  · simp only [GServo.fewest, hc, if_false]
    (try (simp -implicitDefEqProofs only [go_sem, servoD_eq, servoC_eq, hc])); repeat' first | with_reducible exact True.intro | with_reducible refine And.intro ?_ ?_ | with_reducible intro _ | (((with_reducible refine isCall ?_); first | refine call_b (c1) rfl ?_ ?_ | refine call_d (c1) rfl ?_ | refine call_sb (c1) rfl ?_ ?_ | refine call_s (c1) rfl rfl ?_) <;> try (simp -implicitDefEqProofs only [go_sem, servoD_eq, servoC_eq, hc])) | (((with_reducible refine vc_b ?_ ?_) <;> intro _) <;> try (simp -implicitDefEqProofs only [go_sem, servoD_eq, servoC_eq, hc])) | simp (disch := omega) only [wrapI, wrapU, shl1, shl1', shl1'', shrN, shrN', and_one] | ((with_reducible refine isEx2 ?_); refine ⟨(_, _), rfl, ?_, ?_⟩)
    all_goals first | omega | (simp; done) | (simp; omega) | skip
end Go.Pw
