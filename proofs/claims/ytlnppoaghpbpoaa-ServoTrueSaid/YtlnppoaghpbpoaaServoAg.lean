/- A part of the proof. -/
import Derived.Test.YtlnppoaghpbpoaaServoAf
import Derived.Test.YtlnppoaghpbpoaaServoAb
import Derived.Test.YtlnppoaghpbpoaaServoAc
set_option linter.all false
open Go Go.Pw Go.Proofs
namespace Go.Pw
set_option linter.unusedSimpArgs false
set_option linter.unusedVariables false
set_option maxRecDepth 100000
set_option maxHeartbeats 1600000

/-- A path up to wedge i that agrees with the forced wedge, if it is reached. -/
theorem frow_le {s : GServo} (h : s.ok = true) (l : List Pair) (f : Nat) : ∀ (i : Nat) (p c : Int), 0 ≤ p → p ≤ s.last → c < 1000 →
    ((s.frow l f (i + 1))[p.toNat]?.getD 0 ≤ c ↔ ∃ P, s.okP P (i + 1) ∧ P i = p ∧ s.cst l P (i + 1) ≤ c ∧ (f ≤ i → s.cost l f (P f) = 0)) := by
  have hd := GServo.ok_head h
  have hz := zero_len h
  intro i
  induction i with
  | zero =>
    intro p c h0 h1 hc
    have hbest : s.bestAt 0 (s.frow l f 0) p = min 1000 ((s.frow l f 0)[p.toNat]?.getD 0) := by rw [bestAt_eq h 0 _ (by rw [frow_len]; exact hz) h0 h1, if_pos rfl]
    rw [frow_get _ _ _ _ (by omega), show (p.toNat : Int) = p by omega, GServo.fnext, hbest]
    have hzp : (s.frow l f 0)[p.toNat]?.getD 0 = 0 := zero_get s (by omega)
    rw [hzp]
    have hco : s.cost l (0 : Nat) p = if s.agrees (l[0]?.getD default) (0 : Nat) p then 0 else 1 := rfl
    constructor
    · intro hle
      refine ⟨fun _ => p, ⟨fun j hj => ⟨h0, h1⟩, fun j hj => by omega⟩, rfl, ?_, fun hf => ?_⟩
      · simp only [GServo.cst, hco]
        split at hle
        · rename_i ha; rw [if_pos ha]; omega
        · rename_i ha; rw [if_neg ha]; split at hle <;> omega
      · have : f = 0 := by omega
        subst this
        rw [hco]
        split at hle
        · rename_i ha; rw [if_pos ha]
        · rw [if_pos rfl] at hle; omega
    · rintro ⟨P, p1, p2, p3, p4⟩
      simp only [GServo.cst] at p3
      rw [p2, hco] at p3
      split
      · rename_i ha; rw [if_pos ha] at p3; omega
      · rename_i ha
        rw [if_neg ha] at p3
        split
        · rename_i hf
          have hf0 : f = 0 := by omega
          subst hf0
          have := p4 (by omega)
          rw [p2, hco, if_neg ha] at this; omega
        · omega
  | succ i ih =>
    intro p c h0 h1 hc
    have hbest : s.bestAt (i + 1) (s.frow l f (i + 1)) p = min 1000 (nearAt s.move (s.frow l f (i + 1)) p.toNat) := by rw [bestAt_eq h (i + 1) _ (by rw [frow_len]; exact hz) h0 h1, if_neg (by omega)]
    rw [frow_get _ _ _ _ (by omega), show (p.toNat : Int) = p by omega, GServo.fnext, hbest]
    have hco : s.cost l ((i + 1 : Nat) : Int) p = if s.agrees (l[i + 1]?.getD default) ((i + 1 : Nat) : Int) p then 0 else 1 := rfl
    obtain ⟨⟨q, q1, q2, q3, q4⟩, n2⟩ := nearAt_spec (m := s.move) (r := s.frow l f (i + 1)) (p := p.toNat) (by omega) (by rw [frow_len]; omega)
    rw [frow_len] at q1
    have hfw : ∀ d : Int, d < 1000 → nearAt s.move (s.frow l f (i + 1)) p.toNat ≤ d → ∃ P, s.okP P (i + 1 + 1) ∧ P (i + 1) = p ∧ s.cst l P (i + 1) ≤ d ∧ (f ≤ i → s.cost l f (P f) = 0) := fun d hd1 hle => by
      obtain ⟨P, p1, p2, p3, p4⟩ := (ih q d (by omega) (by omega) hd1).1 (by rw [Int.toNat_natCast, ← q4]; exact hle)
      refine ⟨fun j => if j = i + 1 then p else P j, ⟨fun j hj => ?_, fun j hj => ?_⟩, by simp, ?_, fun hf => ?_⟩
      · by_cases hj1 : j = i + 1
        · simp only [hj1, if_true]; exact ⟨h0, h1⟩
        · simp only [hj1, if_false]; exact p1.1 j (by omega)
      · by_cases hj1 : j = i
        · subst hj1; simp only [if_true, show ¬ j = j + 1 by omega, if_false, p2]; omega
        · simp only [show ¬ j + 1 = i + 1 by omega, show ¬ j = i + 1 by omega, if_false]; exact p1.2 j (by omega)
      · rw [cst_congr s l (P' := P) fun j hj => by simp only [show ¬ j = i + 1 by omega, if_false]]; exact p3
      · simp only [show ¬ f = i + 1 by omega, if_false]; exact p4 hf
    have hbw : ∀ (d : Int) (P : Nat → Int), d < 1000 → s.okP P (i + 1 + 1) → P (i + 1) = p → s.cst l P (i + 1) ≤ d → (f ≤ i → s.cost l f (P f) = 0) → nearAt s.move (s.frow l f (i + 1)) p.toNat ≤ d := fun d P hd1 p1 p2 p3 p4 => by
      have a1 := p1.1 i (by omega)
      have a2 := p1.2 i (by omega)
      have := (ih (P i) d a1.1 a1.2 hd1).2 ⟨P, okP_le p1 (by omega), rfl, p3, p4⟩
      have := n2 (P i).toNat (by rw [frow_len]; omega) (by omega) (by omega)
      omega
    constructor
    · intro hle
      split at hle
      · rename_i ha
        obtain ⟨P, p1, p2, p3, p4⟩ := hfw c hc (by omega)
        refine ⟨P, p1, p2, ?_, fun hf => ?_⟩
        · rw [GServo.cst, p2, hco, if_pos ha]; omega
        · rcases (show f ≤ i ∨ f = i + 1 by omega) with h | h
          · exact p4 h
          · rw [h, p2, hco, if_pos ha]
      · rename_i ha
        split at hle
        · omega
        · rename_i hfi
          obtain ⟨P, p1, p2, p3, p4⟩ := hfw (c - 1) (by omega) (by omega)
          refine ⟨P, p1, p2, ?_, fun hf => ?_⟩
          · rw [GServo.cst, p2, hco, if_neg ha]; omega
          · rcases (show f ≤ i ∨ f = i + 1 by omega) with h | h
            · exact p4 h
            · exact absurd (by omega) hfi
    · rintro ⟨P, p1, p2, p3, p4⟩
      rw [GServo.cst, p2, hco] at p3
      split
      · rename_i ha
        rw [if_pos ha] at p3
        have := hbw c P hc p1 p2 (by omega) fun hf => p4 (by omega)
        omega
      · rename_i ha
        rw [if_neg ha] at p3
        split
        · rename_i hf
          have := p4 (by omega)
          have hf' : f = i + 1 := by omega
          rw [hf', p2, hco, if_neg ha] at this; omega
        · have := hbw (c - 1) P (by omega) p1 p2 (by omega) fun hf => p4 (by omega)
          omega

/-- The rows of the paths behind. -/
theorem bk_le {s : GServo} (h : s.ok = true) (l : List Pair) {P : Nat → Int} (hp : s.okP P l.length) : ∀ (k : Nat), k + 1 ≤ l.length → (s.bk l k)[(P (l.length - 1 - k)).toNat]?.getD 0 ≤ s.cst l P l.length - s.cst l P (l.length - k)
  | 0, hk => by
    have hz := zero_len h
    have := hp.1 (l.length - 1 - 0) (by omega)
    simp only [GServo.bk]
    rw [zero_get s (by omega)]; simp
  | k + 1, hk => by
    have hz := zero_len h
    have hd := GServo.ok_head h
    have ih := bk_le h l hp k (by omega)
    have a1 := hp.1 (l.length - 1 - (k + 1)) (by omega)
    have a2 := hp.1 (l.length - 1 - k) (by omega)
    have a3 := hp.2 (l.length - 1 - (k + 1)) (by omega)
    rw [show l.length - 1 - (k + 1) + 1 = l.length - 1 - k by omega] at a3
    rw [GServo.bk, nearL_get (by rw [addC_len, bk_len]; omega)]
    have := (nearAt_spec (m := s.move) (r := s.addC l (l.length - 1 - k) (s.bk l k)) (p := (P (l.length - 1 - (k + 1))).toNat) (by omega) (by rw [addC_len, bk_len]; omega)).2 (P (l.length - 1 - k)).toNat (by rw [addC_len, bk_len]; omega) (by omega) (by omega)
    rw [addC_get _ _ _ _ (by rw [bk_len]; omega), show ((P (l.length - 1 - k)).toNat : Int) = P (l.length - 1 - k) by omega] at this
    have e : s.cst l P (l.length - k) = s.cst l P (l.length - (k + 1)) + s.cost l ((l.length - 1 - k : Nat) : Int) (P (l.length - 1 - k)) := by
      rw [show l.length - k = (l.length - 1 - k) + 1 by omega, GServo.cst, show l.length - (k + 1) = l.length - 1 - k by omega]
    omega
theorem bk_ex {s : GServo} (h : s.ok = true) (l : List Pair) : ∀ (k : Nat), k + 1 ≤ l.length → ∀ (P : Nat → Int), s.okP P (l.length - k) → ∃ P', s.okP P' l.length ∧ (∀ j, j < l.length - k → P' j = P j) ∧ s.cst l P' l.length = s.cst l P (l.length - k) + (s.bk l k)[(P (l.length - 1 - k)).toNat]?.getD 0
  | 0, hk, P, hp => by
    have hz := zero_len h
    have := hp.1 (l.length - 1 - 0) (by omega)
    refine ⟨P, hp, fun _ _ => rfl, ?_⟩
    simp only [GServo.bk]
    rw [zero_get s (by omega)]; simp
  | k + 1, hk, P, hp => by
    have hz := zero_len h
    have hd := GServo.ok_head h
    have a1 := hp.1 (l.length - 1 - (k + 1)) (by omega)
    obtain ⟨q, q1, q2, q3, q4⟩ := (nearAt_spec (m := s.move) (r := s.addC l (l.length - 1 - k) (s.bk l k)) (p := (P (l.length - 1 - (k + 1))).toNat) (by omega) (by rw [addC_len, bk_len]; omega)).1
    rw [addC_len, bk_len] at q1
    have hP : s.okP (fun j => if j = l.length - 1 - k then (q : Int) else P j) (l.length - k) := by
      refine ⟨fun j hj => ?_, fun j hj => ?_⟩
      · by_cases hj1 : j = l.length - 1 - k
        · simp only [hj1, if_true]; omega
        · simp only [hj1, if_false]; exact hp.1 j (by omega)
      · by_cases hj1 : j + 1 = l.length - 1 - k
        · simp only [hj1, if_true, show ¬ j = l.length - 1 - k by omega, if_false]
          rw [show l.length - 1 - (k + 1) = j by omega] at q2 q3 a1
          omega
        · simp only [hj1, show ¬ j = l.length - 1 - k by omega, if_false]; exact hp.2 j (by omega)
    obtain ⟨P', p1, p2, p3⟩ := bk_ex h l k (by omega) _ hP
    refine ⟨P', p1, fun j hj => ?_, ?_⟩
    · have := p2 j (by omega); rw [this]; simp only [show ¬ j = l.length - 1 - k by omega, if_false]
    · rw [p3, show l.length - k = (l.length - 1 - k) + 1 by omega, GServo.cst, cst_congr s l (P' := P) fun j hj => by simp only [show ¬ j = l.length - 1 - k by omega, if_false]]
      rw [GServo.bk, nearL_get (by rw [addC_len, bk_len]; omega), q4, addC_get _ _ _ _ (by rw [bk_len]; exact q1), show l.length - (k + 1) = l.length - 1 - k by omega]
      simp only [if_true, Int.toNat_natCast]
      try omega

/-- A wedge agrees with a possible path: by the program, by paths, by the specification. -/
theorem good_iff {s : GServo} (h : s.ok = true) {l : List Pair} {i : Nat} (hi : i < l.length) : s.good l i = true ↔ ∃ P, s.okP P l.length ∧ s.cst l P l.length ≤ s.wrong ∧ s.cost l i (P i) = 0 := by
  have hz := zero_len h
  constructor
  · intro hg
    unfold GServo.good at hg
    rw [List.any_eq_true] at hg
    obtain ⟨p, hp, hga⟩ := hg
    simp only [List.mem_range] at hp
    simp only [GServo.goodAt, Bool.and_eq_true, decide_eq_true_eq] at hga
    obtain ⟨P, p1, p2, p3⟩ := pre_ex h l i p (by omega) (by omega)
    have e1 : l.length - (l.length - 1 - i) = i + 1 := by omega
    have e2 : l.length - 1 - (l.length - 1 - i) = i := by omega
    obtain ⟨P', r1, r2, r3⟩ := bk_ex h l (l.length - 1 - i) (by omega) P (by rw [e1]; exact p1)
    rw [e1, e2, p2, p3, Int.toNat_natCast] at r3
    refine ⟨P', r1, by omega, ?_⟩
    rw [r2 i (by omega), p2]; exact hga.1
  · rintro ⟨P, p1, p2, p3⟩
    have hb := p1.1 i hi
    have e1 : l.length - (l.length - 1 - i) = i + 1 := by omega
    have e2 : l.length - 1 - (l.length - 1 - i) = i := by omega
    have h1 := pre_le h l i (okP_le p1 (by omega))
    have h2 := bk_le h l p1 (l.length - 1 - i) (by omega)
    rw [e1, e2] at h2
    refine good_of (p := (P i).toNat) (by omega) ?_
    simp only [GServo.goodAt, Bool.and_eq_true, decide_eq_true_eq]
    exact ⟨by rw [show ((P i).toNat : Int) = P i by omega]; exact p3, by omega⟩
theorem frow_good {s : GServo} (h : s.ok = true) {l : List Pair} {i : Nat} (hi : i < l.length) : s.good l i = true ↔ ∃ p : Nat, p < s.zero.length ∧ (s.frow l i l.length)[p]?.getD 0 ≤ s.wrong := by
  have hz := zero_len h
  have hd := GServo.ok_head h
  rw [good_iff h hi]
  have hfl := fun p c => frow_le h l i (l.length - 1) p c
  rw [show l.length - 1 + 1 = l.length by omega] at hfl
  constructor
  · rintro ⟨P, p1, p2, p3⟩
    have hb := p1.1 (l.length - 1) (by omega)
    exact ⟨(P (l.length - 1)).toNat, by omega, (hfl (P (l.length - 1)) s.wrong hb.1 hb.2 (by omega)).2 ⟨P, p1, rfl, p2, fun _ => p3⟩⟩
  · rintro ⟨p, hp, hle⟩
    obtain ⟨P, p1, p2, p3, p4⟩ := (hfl p s.wrong (by omega) (by omega) (by omega)).1 (by rw [Int.toNat_natCast]; exact hle)
    exact ⟨P, p1, p3, p4 (by omega)⟩
end Go.Pw
