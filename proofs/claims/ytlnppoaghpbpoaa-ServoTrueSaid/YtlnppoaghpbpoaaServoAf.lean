/- A part of the proof. -/
import Derived.Test.YtlnppoaghpbpoaaServoAe
set_option linter.all false
open Go Go.Pw Go.Proofs
namespace Go.Pw
set_option linter.unusedSimpArgs false
set_option linter.unusedVariables false
set_option maxRecDepth 100000
set_option maxHeartbeats 1600000

noncomputable def laterB (m : Int) (B : List Bool) : List Bool :=
  (List.range B.length).map fun (p : Nat) => @decide (∃ q : Nat, q < B.length ∧ B[q]?.getD false = true ∧ (p : Int) - q ≤ m ∧ (q : Int) - p ≤ m) (Classical.propDecidable _)
theorem laterB_len (m : Int) (B : List Bool) : (laterB m B).length = B.length := by simp [laterB]
theorem laterB_get {m : Int} {B : List Bool} {p : Nat} (h : p < B.length) : (laterB m B)[p]?.getD false = true ↔ ∃ q : Nat, q < B.length ∧ B[q]?.getD false = true ∧ (p : Int) - q ≤ m ∧ (q : Int) - p ≤ m := by
  simp [laterB, h]
noncomputable def laterN (m : Int) (B : List Bool) : Nat → List Bool
  | 0 => B
  | k + 1 => laterB m (laterN m B k)
theorem laterN_len (m : Int) (B : List Bool) : ∀ k, (laterN m B k).length = B.length
  | 0 => rfl
  | k + 1 => by rw [laterN, laterB_len, laterN_len]
theorem laterN_get {m : Int} (hm : 0 ≤ m) {B : List Bool} : ∀ (k : Nat) {p : Nat}, p < B.length → ((laterN m B k)[p]?.getD false = true ↔ ∃ q : Nat, q < B.length ∧ B[q]?.getD false = true ∧ (p : Int) - q ≤ k * m ∧ (q : Int) - p ≤ k * m)
  | 0, p, h => by
    simp only [laterN]
    constructor
    · intro hp; exact ⟨p, h, hp, by simp, by simp⟩
    · rintro ⟨q, q1, q2, q3, q4⟩
      have : p = q := by simp at q3 q4; omega
      rw [this]; exact q2
  | k + 1, p, h => by
    have e2 : ((k + 1 : Nat) : Int) * m = k * m + m := by rw [Int.natCast_add, Int.add_mul]; simp
    have e3 : 0 ≤ (k : Int) * m := Int.mul_nonneg (by omega) hm
    rw [laterN, laterB_get (by rw [laterN_len]; exact h), laterN_len, e2]
    constructor
    · rintro ⟨z, z1, z2, z3, z4⟩
      obtain ⟨q, q1, q2, q3, q4⟩ := (laterN_get hm k z1).1 z2
      exact ⟨q, q1, q2, by omega, by omega⟩
    · rintro ⟨q, q1, q2, q3, q4⟩
      by_cases hpq : (q : Int) ≤ p
      · refine ⟨(max (q : Int) (p - m)).toNat, by omega, (laterN_get hm k (by omega)).2 ⟨q, q1, q2, by omega, by omega⟩, by omega, by omega⟩
      · refine ⟨(min (q : Int) (p + m)).toNat, by omega, (laterN_get hm k (by omega)).2 ⟨q, q1, q2, by omega, by omega⟩, by omega, by omega⟩
theorem spB_mem (B : List Bool) (x : Int) : MemP (spB B) x ↔ (0 ≤ x ∧ x < B.length ∧ B[x.toNat]?.getD false = true) := (spansOf_spec _ _).2.2 x
theorem spB_norm (B : List Bool) : Norm (spB B) := (spansOf_spec _ _).1
theorem spB_later {s : GServo} (h : s.ok = true) (l : List Pair) (k : Nat) : spB (laterN s.move (s.endsB l) k) = s.laterL l k := by
  have hd := GServo.ok_head h
  have hz := endL_len h l
  have hbl : (s.endsB l).length = (s.endL l).length := by simp [GServo.endsB]
  obtain ⟨n1, m1⟩ := later_spec h l (more := k) (by omega)
  refine norm_unique (spB_norm _) n1 fun x => ?_
  rw [spB_mem, m1, laterN_len, hbl, hz]
  constructor
  · rintro ⟨x0, x1, x2⟩
    obtain ⟨q, q1, q2, q3, q4⟩ := (laterN_get (by omega) k (by omega)).1 x2
    rw [endsB_get s l (by omega)] at q2
    exact ⟨x0, by omega, q, ⟨by omega, by omega, by simpa using q2⟩, by omega, by omega⟩
  · rintro ⟨x0, x1, y, ⟨y0, y1, y2⟩, y3, y4⟩
    refine ⟨x0, by omega, (laterN_get (by omega) k (by omega)).2 ⟨y.toNat, by omega, ?_, by omega, by omega⟩⟩
    rw [endsB_get s l (by omega)]; simpa using y2
/-- The gate, by the positions themselves. -/
theorem stop_iff {s : GServo} (h : s.ok = true) {l : List Pair} (hm : ¬ s.wrong < minL (s.endL l)) (t u : Int) (k : Nat) :
    s.stop l t u k = true ↔ ∃ q : Nat, q < (s.endsB l).length ∧ (laterN s.move (s.endsB l) k)[q]?.getD false = true ∧ u < max ((q : Int) - s.center t ((l.length : Int) - 1 + k)) (-((q : Int) - s.center t ((l.length : Int) - 1 + k))) := by
  have hno := (later_spec h l (more := k) (by omega)).1
  have hpos : 0 < (s.laterL l k).length := laterOf_pos _ _ _ (ends_pos h hm)
  have hmm : ∀ x, MemP (s.laterL l k) x ↔ (0 ≤ x ∧ x < (s.endsB l).length ∧ (laterN s.move (s.endsB l) k)[x.toNat]?.getD false = true) := fun x => by
    rw [← spB_later h, spB_mem, laterN_len]
  simp only [GServo.stop, Bool.or_eq_true, decide_eq_true_eq]
  generalize s.center t ((l.length : Int) - 1 + k) = C at *
  constructor
  · rintro (h1 | h1)
    · obtain ⟨a, b, c⟩ := (hmm _).1 (norm_mem hno (j := 0) hpos).2.1
      exact ⟨_, by omega, c, by omega⟩
    · obtain ⟨a, b, c⟩ := (hmm _).1 (norm_mem hno (j := (s.laterL l k).length - 1) (by omega)).2.2
      refine ⟨_, by omega, c, ?_⟩
      change 0 ≤ (lastP (s.laterL l k)).2 at a
      change _ < max ((((lastP (s.laterL l k)).2.toNat : Nat) : Int) - C) (-((((lastP (s.laterL l k)).2.toNat : Nat) : Int) - C))
      omega
  · rintro ⟨q, q1, q2, q3⟩
    have := norm_ends hno ((hmm q).2 ⟨by omega, by omega, by rw [Int.toNat_natCast]; exact q2⟩)
    omega

def AnyIn (B : List Bool) (lo hi : Int) : Prop := ∃ q : Nat, lo ≤ (q : Int) ∧ (q : Int) < hi ∧ B[q]?.getD false = true
theorem anyIn_up {B : List Bool} {lo hi : Int} (h : AnyIn B lo hi) : AnyIn B lo (hi + 1) := by
  obtain ⟨q, q1, q2, q3⟩ := h; exact ⟨q, q1, by omega, q3⟩
theorem anyIn_none {B : List Bool} {lo : Int} : ¬ AnyIn B lo lo := fun ⟨q, q1, q2, _⟩ => by omega
theorem anyIn_step {B : List Bool} {lo hi : Int} (h0 : 0 ≤ lo) (hl : lo ≤ hi) (h : ¬ AnyIn B lo hi) : B[hi.toNat]?.getD false = true ↔ AnyIn B lo (hi + 1) := by
  constructor
  · intro hb; exact ⟨hi.toNat, by omega, by omega, hb⟩
  · rintro ⟨q, q1, q2, q3⟩
    rcases (show (q : Int) < hi ∨ q = hi.toNat by omega) with h' | h'
    · exact absurd ⟨q, q1, h', q3⟩ h
    · rw [← h']; exact q3
theorem anyIn_later {m : Int} {B : List Bool} {p : Nat} (hp : p < B.length) : (laterB m B)[p]?.getD false = true ↔ AnyIn B (max 0 ((p : Int) - m)) (min ((B.length : Int) - 1) (p + m) + 1) := by
  rw [laterB_get hp]
  constructor
  · rintro ⟨q, q1, q2, q3, q4⟩; exact ⟨q, by omega, by omega, q2⟩
  · rintro ⟨q, q1, q2, q3⟩; exact ⟨q, by omega, q3, by omega, by omega⟩

attribute [local congr] cg_pw cg_seqI cg_seqE cg_stepI cg_ev cg_evBin cg_condB cg_condV cg_thenQ cg_blockQ cg_onSome cg_onCells cg_onRow cg_onMap cg_onOpt cg_ghosts cg_ghost cg_evCall cg_part cg_rng cg_guardV cg_frzV cg_frpV cg_ownV cg_owcV cg_occV cg_occX cg_resK cg_res1
attribute [local irreducible] IntKind.wrap bitsOp Option.getD and or
theorem ref02_later_ret (s : GServo) (h : s.ok = true) (B : List Bool) (hB : 1 ≤ B.length) (hB2 : B.length ≤ 2000) : Ret E0 F_ref02_later [servoD s, .list false (bls B)] (.list false (bls (laterB s.move B))) := by
  refine ret_of_pw dec_ref02_later mixed (by simp) fun hwf => ?_
  have hd := GServo.ok_head h
  rw [enter_eq]; unfold pc_ref02_later
  (try (simp -implicitDefEqProofs only [go_sem, servoD_eq, servoC_eq])); repeat' first | with_reducible exact True.intro | with_reducible refine And.intro ?_ ?_ | with_reducible intro _ | (((with_reducible refine vc_b ?_ ?_) <;> intro _) <;> try (simp -implicitDefEqProofs only [go_sem, servoD_eq, servoC_eq])) | simp (disch := omega) only [wrapI, wrapU, shl1, shl1', shl1'', shrN, shrN', and_one] | ((with_reducible refine isEx3 ?_); refine ⟨(_, _, _), rfl, ?_, ?_⟩) | ((with_reducible refine isEx2 ?_); refine ⟨(_, _), rfl, ?_, ?_⟩)
  refine pw_loopS (α := Int × (List Bool) × Bool) (l0 := ?l1) (m0 := ?m1) (fun x => [(6, .d (.int .i64 x.1))]) (fun x => [(42, .row 4 1 x.2.2 (bls x.2.1))]) (fun x => 0 ≤ x.1 ∧ x.1 ≤ B.length ∧ (x.2.1.length : Int) = x.1 ∧ (∀ j : Nat, (j : Int) < x.1 → x.2.1[j]?.getD false = (laterB s.move B)[j]?.getD false) ∧ x.2.2 = x.2.1.isEmpty) (fun x => (B.length - x.1).toNat) (?a1_0, [], true) ?h01 ?he1 ?he21 ?hI1 ?step1
  case h01 => (simp -implicitDefEqProofs only [go_sem, servoD_eq, servoC_eq]; rfl)
  case he1 => rfl
  case he21 => rfl
  case' step1 => (rintro ⟨i, out, b⟩ hI; try dsimp only at hI)
  case' hI1 => try dsimp only
  · exact ⟨by omega, by omega, by simp, fun j hj => by omega, rfl⟩
  · obtain ⟨h1, h2, h3, h4, h5⟩ := hI
    by_cases hi : i < B.length
    · have w1 : IntKind.i64.wrap (i - s.move) = i - s.move := wrapI _ (by omega)
      have w2 : IntKind.i64.wrap (i + s.move) = i + s.move := wrapI _ (by omega)
      have w3 : IntKind.i64.wrap ((B.length : Int) - 1) = (B.length : Int) - 1 := wrapI _ (by omega)
      have hget := anyIn_later (m := s.move) (B := B) (p := i.toNat) (by omega)
      rw [show ((i.toNat : Nat) : Int) = i by omega] at hget
      have hs4 : ∀ v, (laterB s.move B)[i.toNat]?.getD false = v → ∀ j : Nat, (j : Int) < i + 1 → (out ++ [v])[j]?.getD false = (laterB s.move B)[j]?.getD false := fun v hv j hj => by
        rcases (show (j : Int) < i ∨ j = i.toNat by omega) with h | h
        · rw [List.getElem?_append_left (by omega)]; exact h4 j h
        · rw [List.getElem?_append_right (by omega), show j - out.length = 0 by omega, h, hv]; simp
      (try (simp -implicitDefEqProofs only [go_sem, servoD_eq, servoC_eq, bls_len, w1])); repeat' first | with_reducible exact True.intro | with_reducible refine And.intro ?_ ?_ | with_reducible intro _ | (((with_reducible refine vc_b ?_ ?_) <;> intro _) <;> try (simp -implicitDefEqProofs only [go_sem, servoD_eq, servoC_eq, bls_len, w1])) | simp (disch := omega) only [wrapI, wrapU, shl1, shl1', shl1'', shrN, shrN', and_one] | ((with_reducible refine isEx3 ?_); refine ⟨(_, _, _), rfl, ?_, ?_⟩) | ((with_reducible refine isEx2 ?_); refine ⟨(_, _), rfl, ?_, ?_⟩)
      all_goals first | omega | (simp; done) | (simp; omega) | skip
      refine pw_loopS (α := Int × Bool) (l0 := ?l2) (m0 := ?m2) (fun x => [(8, .d (.int .i64 x.1)), (7, .d (.bool x.2))]) (fun x => []) (fun x => max 0 (i - s.move) ≤ x.1 ∧ x.1 ≤ min ((B.length : Int) - 1) (i + s.move) + 1 ∧ (x.2 = true ↔ AnyIn B (max 0 (i - s.move)) x.1)) (fun x => (min ((B.length : Int) - 1) (i + s.move) + 1 - x.1).toNat) (?a2_0, false) ?h02 ?he2 ?he22 ?hI2 ?step2
      case h02 => (simp -implicitDefEqProofs only [go_sem, servoD_eq, servoC_eq, bls_len, w1]; rfl)
      case he2 => rfl
      case he22 => rfl
      case' step2 => (rintro ⟨y, near⟩ hI2; try dsimp only at hI2)
      case' hI2 => try dsimp only
      · exact ⟨by omega, by omega, ⟨fun h => by simp at h, fun h => absurd h anyIn_none⟩⟩
      · obtain ⟨y1, y2, y3⟩ := hI2
        by_cases hy : y ≤ min ((B.length : Int) - 1) (i + s.move)
        · cases near with
          | true =>
            have hn := anyIn_up (y3.1 rfl)
            clear y3
            (try (simp -implicitDefEqProofs only [go_sem, servoD_eq, servoC_eq, bls_len, onSome_bls, bls_unif, w2, w3, hy])); repeat' first | with_reducible exact True.intro | with_reducible refine And.intro ?_ ?_ | with_reducible intro _ | (((with_reducible refine vc_b ?_ ?_) <;> intro _) <;> try (simp -implicitDefEqProofs only [go_sem, servoD_eq, servoC_eq, bls_len, onSome_bls, bls_unif, w2, w3, hy])) | simp (disch := omega) only [wrapI, wrapU, shl1, shl1', shl1'', shrN, shrN', and_one] | ((with_reducible refine isEx3 ?_); refine ⟨(_, _, _), rfl, ?_, ?_⟩) | ((with_reducible refine isEx2 ?_); refine ⟨(_, _), rfl, ?_, ?_⟩)
            all_goals first | omega | exact ⟨fun _ => hn, fun _ => trivial⟩ | exact ⟨fun _ => hn, fun _ => rfl⟩ | (simp; done) | skip
          | false =>
            have hn := anyIn_step (by omega) y1 fun h => by have := y3.2 h; cases this
            clear y3
            (try (simp -implicitDefEqProofs only [go_sem, servoD_eq, servoC_eq, bls_len, onSome_bls, bls_unif, w2, w3, hy])); repeat' first | with_reducible exact True.intro | with_reducible refine And.intro ?_ ?_ | with_reducible intro _ | (((with_reducible refine vc_b ?_ ?_) <;> intro _) <;> try (simp -implicitDefEqProofs only [go_sem, servoD_eq, servoC_eq, bls_len, onSome_bls, bls_unif, w2, w3, hy])) | simp (disch := omega) only [wrapI, wrapU, shl1, shl1', shl1'', shrN, shrN', and_one] | ((with_reducible refine isEx3 ?_); refine ⟨(_, _, _), rfl, ?_, ?_⟩) | ((with_reducible refine isEx2 ?_); refine ⟨(_, _), rfl, ?_, ?_⟩)
            all_goals first | omega | exact hn | exact hn.1 | exact hn.2 | (simp; done) | skip
        · have hv : (laterB s.move B)[i.toNat]?.getD false = near := by
            rw [Bool.eq_iff_iff, hget, y3, show y = min ((B.length : Int) - 1) (i + s.move) + 1 by clear y3 hget hs4; omega]
          clear y3 hget
          have hs5 := hs4 near hv
          (try (simp -implicitDefEqProofs only [go_sem, servoD_eq, servoC_eq, bls_len, bls_unif, bls_snoc, w2, w3, hy])); repeat' first | with_reducible exact True.intro | with_reducible refine And.intro ?_ ?_ | with_reducible intro _ | (((with_reducible refine vc_b ?_ ?_) <;> intro _) <;> try (simp -implicitDefEqProofs only [go_sem, servoD_eq, servoC_eq, bls_len, bls_unif, bls_snoc, w2, w3, hy])) | simp (disch := omega) only [wrapI, wrapU, shl1, shl1', shl1'', shrN, shrN', and_one] | ((with_reducible refine isEx3 ?_); refine ⟨(_, _, _), rfl, ?_, ?_⟩) | ((with_reducible refine isEx2 ?_); refine ⟨(_, _), rfl, ?_, ?_⟩)
          all_goals first | omega | (apply hs5; assumption) | exact (isEmpty_snoc _ _).symm | (rw [List.length_append]; simp; omega) | (simp; done) | (simp; omega) | skip
    · have hbf : b = false := by rw [h5]; cases out with | nil => simp at h3; omega | cons _ _ => rfl
      have hll := laterB_len s.move B
      have hfin : out = laterB s.move B := by
        refine List.ext_getElem (by omega) fun j h6 h7 => ?_
        have e1 := h4 j (by omega)
        rwa [List.getElem?_eq_getElem h6, List.getElem?_eq_getElem h7, Option.getD_some, Option.getD_some] at e1
      rw [← hfin]
      subst hbf
      (try (simp -implicitDefEqProofs only [go_sem, servoD_eq, servoC_eq, bls_len])); repeat' first | with_reducible exact True.intro | with_reducible refine And.intro ?_ ?_ | with_reducible intro _ | (((with_reducible refine vc_b ?_ ?_) <;> intro _) <;> try (simp -implicitDefEqProofs only [go_sem, servoD_eq, servoC_eq, bls_len])) | simp (disch := omega) only [wrapI, wrapU, shl1, shl1', shl1'', shrN, shrN', and_one] | ((with_reducible refine isEx3 ?_); refine ⟨(_, _, _), rfl, ?_, ?_⟩) | ((with_reducible refine isEx2 ?_); refine ⟨(_, _), rfl, ?_, ?_⟩)
      all_goals first | omega | (simp; done) | (simp; omega) | skip

theorem ref02_Ahead_ret (s : GServo) (nl : Bool) (l : List Pair) (more : Int) :
    Ret E0 F_ref02_Ahead [servoD s, .list nl (pairsD l), .int .i64 more] (.tup [.list (s.ahead l more).1.isEmpty (pairsD (s.ahead l more).1), .int .i64 (s.ahead l more).2]) := by
  refine ret_of_pw dec_ref02_Ahead mixed (by simp) fun hwf => ?_
  rw [enter_eq]; unfold pc_ref02_Ahead
  have c0 := ref02_within_ret more 0 24
  by_cases hk : s.known l (inR more 0 24) = 0
  · obtain ⟨hc, ht, hm⟩ := known_zero hk
    obtain ⟨hok, ha, h24⟩ := check_zero hc
    have hd := GServo.ok_head hok
    have hz := endL_len hok l
    have hlb := last_bound hok
    have hmo : 0 ≤ more ∧ more ≤ 24 := by simpa [inR] using ht
    have e : s.ahead l more = (s.laterL l more, 0) := by simp [GServo.ahead, hk]
    have c1 := ref02_known_ok s nl l _ hk
    rw [ht] at c1 c0
    have hbl : (s.endsB l).length = (s.endL l).length := by simp [GServo.endsB]
    have hsp := spB_later hok l more.toNat
    rw [show ((more.toNat : Nat) : Int) = more by omega] at hsp
    rw [e]
    rw [servoD_eq, servoC_eq] at c1
    have hnl := laterN_len s.move (s.endsB l)
    generalize s.endsB l = EB at *
    generalize s.laterL l more = LA at *
    (try (simp -implicitDefEqProofs only [go_sem, servoD_eq, servoC_eq])); repeat' first | with_reducible exact True.intro | with_reducible refine And.intro ?_ ?_ | with_reducible intro _ | (((with_reducible refine isCall ?_); first | refine call_b (c0) rfl ?_ ?_ | refine call_d (c0) rfl ?_ | refine call_sb (c0) rfl ?_ ?_ | refine call_s (c0) rfl rfl ?_ | refine call_b (c1) rfl ?_ ?_ | refine call_d (c1) rfl ?_ | refine call_sb (c1) rfl ?_ ?_ | refine call_s (c1) rfl rfl ?_) <;> try (simp -implicitDefEqProofs only [go_sem, servoD_eq, servoC_eq])) | (((with_reducible refine vc_b ?_ ?_) <;> intro _) <;> try (simp -implicitDefEqProofs only [go_sem, servoD_eq, servoC_eq])) | simp (disch := omega) only [wrapI, wrapU, shl1, shl1', shl1'', shrN, shrN', and_one] | ((with_reducible refine isEx2 ?_); refine ⟨(_, _), rfl, ?_, ?_⟩)
    all_goals first | omega | (simp; done) | (simp; omega) | skip
    refine pw_loopS (α := Int × (List Bool)) (l0 := ?l3) (m0 := ?m3) (fun x => [(10, .d (.int .i64 x.1)), (8, .d (.list false (bls x.2)))]) (fun x => []) (fun x => 0 ≤ x.1 ∧ x.1 ≤ more ∧ x.2 = laterN s.move EB x.1.toNat) (fun x => (more - x.1).toNat) (?a3_0, EB) ?h03 ?he3 ?he23 ?hI3 ?step3
    case h03 => (simp -implicitDefEqProofs only [go_sem, servoD_eq, servoC_eq]; rfl)
    case he3 => rfl
    case he23 => rfl
    case' step3 => (rintro ⟨i, B⟩ hI; try dsimp only at hI)
    case' hI3 => try dsimp only
    · exact ⟨by omega, by omega, rfl⟩
    · obtain ⟨h1, h2, h3⟩ := hI
      have hBl := hnl i.toNat
      rw [← h3] at hBl
      by_cases hi : i < more
      · have c2 := ref02_later_ret s hok B (by omega) (by omega)
        have hnx : laterB s.move B = laterN s.move EB (i + 1).toNat := by rw [show (i + 1).toNat = i.toNat + 1 by omega, laterN, ← h3]
        rw [servoD_eq, servoC_eq] at c2
        (try (simp -implicitDefEqProofs only [go_sem, servoD_eq, servoC_eq, hi])); repeat' first | with_reducible exact True.intro | with_reducible refine And.intro ?_ ?_ | with_reducible intro _ | (((with_reducible refine isCall ?_); first | refine call_b (c2) rfl ?_ ?_ | refine call_d (c2) rfl ?_ | refine call_sb (c2) rfl ?_ ?_ | refine call_s (c2) rfl rfl ?_) <;> try (simp -implicitDefEqProofs only [go_sem, servoD_eq, servoC_eq, hi])) | (((with_reducible refine vc_b ?_ ?_) <;> intro _) <;> try (simp -implicitDefEqProofs only [go_sem, servoD_eq, servoC_eq, hi])) | simp (disch := omega) only [wrapI, wrapU, shl1, shl1', shl1'', shrN, shrN', and_one] | ((with_reducible refine isEx2 ?_); refine ⟨(_, _), rfl, ?_, ?_⟩)
        all_goals first | omega | exact hnx | skip
      · have c3 := ref02_spans_ret false B (by omega)
        rw [h3, show i.toNat = more.toNat by omega, hsp] at c3
        rw [show i.toNat = more.toNat by omega] at h3
        rw [← h3] at c3
        (try (simp -implicitDefEqProofs only [go_sem, servoD_eq, servoC_eq, hi])); repeat' first | with_reducible exact True.intro | with_reducible refine And.intro ?_ ?_ | with_reducible intro _ | (((with_reducible refine isCall ?_); first | refine call_b (c3) rfl ?_ ?_ | refine call_d (c3) rfl ?_ | refine call_sb (c3) rfl ?_ ?_ | refine call_s (c3) rfl rfl ?_) <;> try (simp -implicitDefEqProofs only [go_sem, servoD_eq, servoC_eq, hi])) | (((with_reducible refine vc_b ?_ ?_) <;> intro _) <;> try (simp -implicitDefEqProofs only [go_sem, servoD_eq, servoC_eq, hi])) | simp (disch := omega) only [wrapI, wrapU, shl1, shl1', shl1'', shrN, shrN', and_one] | ((with_reducible refine isEx2 ?_); refine ⟨(_, _), rfl, ?_, ?_⟩)
        all_goals first | omega | (simp; done) | (simp; omega) | skip
  · have e : s.ahead l more = ([], s.known l (inR more 0 24)) := by simp [GServo.ahead, hk]
    have c1 := ref02_known_bad s nl l _ hk
    rw [e]
    rw [servoD_eq, servoC_eq] at c1
    generalize inR more 0 24 = b at *
    cases b <;> ((try (simp -implicitDefEqProofs only [go_sem, servoD_eq, servoC_eq, hk])); repeat' first | with_reducible exact True.intro | with_reducible refine And.intro ?_ ?_ | with_reducible intro _ | (((with_reducible refine isCall ?_); first | refine call_b (c0) rfl ?_ ?_ | refine call_d (c0) rfl ?_ | refine call_sb (c0) rfl ?_ ?_ | refine call_s (c0) rfl rfl ?_ | refine call_b (c1) rfl ?_ ?_ | refine call_d (c1) rfl ?_ | refine call_sb (c1) rfl ?_ ?_ | refine call_s (c1) rfl rfl ?_) <;> try (simp -implicitDefEqProofs only [go_sem, servoD_eq, servoC_eq, hk])) | (((with_reducible refine vc_b ?_ ?_) <;> intro _) <;> try (simp -implicitDefEqProofs only [go_sem, servoD_eq, servoC_eq, hk])) | simp (disch := omega) only [wrapI, wrapU, shl1, shl1', shl1'', shrN, shrN', and_one] | ((with_reducible refine isEx2 ?_); refine ⟨(_, _), rfl, ?_, ?_⟩))
    all_goals first | rfl | omega

theorem ref02_Last_any (s : GServo) : Ret E0 F_ref02_Last [servoD s] (.int .i64 (IntKind.i64.wrap (s.step * IntKind.i64.wrap (s.tracks - 1)))) := by
  refine ret_of_pw dec_ref02_Last mixed (by simp) fun hwf => ?_
  rw [enter_eq]; unfold pc_ref02_Last
  (try (simp -implicitDefEqProofs only [go_sem, servoD_eq, servoC_eq])); repeat' first | with_reducible exact True.intro | with_reducible refine And.intro ?_ ?_ | with_reducible intro _ | (((with_reducible refine vc_b ?_ ?_) <;> intro _) <;> try (simp -implicitDefEqProofs only [go_sem, servoD_eq, servoC_eq])) | simp (disch := omega) only [wrapI, wrapU, shl1, shl1', shl1'', shrN, shrN', and_one] 
  all_goals first | omega | (simp; done) | (simp; omega) | skip
end Go.Pw
