/- A part of the proof. -/
import Derived.Test.YtlnppoaghpbpoaaServoM
set_option linter.all false
open Go Go.Pw Go.Proofs
namespace Go.Pw
set_option linter.unusedSimpArgs false
set_option linter.unusedVariables false

/-- What a path costs, over the first wedges. -/
def GServo.cst (s : GServo) (l : List Pair) (P : Nat → Int) : Nat → Int
  | 0 => 0
  | i + 1 => s.cst l P i + s.cost l i (P i)
def GServo.okP (s : GServo) (P : Nat → Int) (n : Nat) : Prop := (∀ j, j < n → 0 ≤ P j ∧ P j ≤ s.last) ∧ ∀ j, j + 1 < n → P (j + 1) - P j ≤ s.move ∧ P j - P (j + 1) ≤ s.move
theorem okP_le {s : GServo} {P : Nat → Int} {n m : Nat} (h : s.okP P n) (hm : m ≤ n) : s.okP P m := ⟨fun j hj => h.1 j (by omega), fun j hj => h.2 j (by omega)⟩
theorem cst_congr (s : GServo) (l : List Pair) {P P' : Nat → Int} : ∀ {i : Nat}, (∀ j, j < i → P j = P' j) → s.cst l P i = s.cst l P' i
  | 0, _ => rfl
  | i + 1, h => by
    simp only [GServo.cst]; rw [cst_congr s l (i := i) fun j hj => h j (by omega), h i (by omega)]
theorem cst_mono (s : GServo) (l : List Pair) (P : Nat → Int) (i : Nat) : ∀ k, s.cst l P i ≤ s.cst l P (i + k)
  | 0 => by simp
  | k + 1 => by
    have := cst_mono s l P i k
    have := GServo.cost01 s l ((i + k : Nat) : Int) (P (i + k))
    rw [show i + (k + 1) = (i + k) + 1 by omega]; simp only [GServo.cst]; omega
theorem zero_get (s : GServo) {j : Nat} (h : j < s.zero.length) : s.zero[j]?.getD 0 = 0 := by
  simp only [GServo.zero, List.length_replicate] at h ⊢; simp [h]

theorem pre_le {s : GServo} (h : s.ok = true) (l : List Pair) {P : Nat → Int} : ∀ (i : Nat), s.okP P (i + 1) → (s.pre l (i + 1))[(P i).toNat]?.getD 0 ≤ s.cst l P (i + 1)
  | 0, hp => by
    have hz := zero_len h
    have h0 := hp.1 0 (by omega)
    rw [pre_succ, addC_get _ _ _ _ (by rw [base_len]; omega), show ((P 0).toNat : Int) = P 0 by omega]
    simp only [GServo.cst, GServo.base, if_pos]
    rw [zero_get s (by omega)]; omega
  | i + 1, hp => by
    have hz := zero_len h
    have h0 := hp.1 (i + 1) (by omega)
    have h1 := hp.1 i (by omega)
    have h2 := hp.2 i (by omega)
    have ih := pre_le h l i (okP_le hp (by omega))
    rw [pre_succ, addC_get _ _ _ _ (by rw [base_len]; omega), show ((P (i + 1)).toNat : Int) = P (i + 1) by omega]
    have hb : s.base l (i + 1) = nearL s.move (s.pre l (i + 1)) := by rw [GServo.base, if_neg (by omega)]
    have hn := (nearAt_spec (m := s.move) (r := s.pre l (i + 1)) (p := (P (i + 1)).toNat) (by have := GServo.ok_head h; omega) (by rw [pre_len]; omega)).2 (P i).toNat (by rw [pre_len]; omega) (by omega) (by omega)
    rw [hb, nearL_get (by rw [pre_len]; omega)]
    rw [GServo.cst]
    omega

theorem pre_ex {s : GServo} (h : s.ok = true) (l : List Pair) : ∀ (i : Nat) (p : Int), 0 ≤ p → p ≤ s.last → ∃ P, s.okP P (i + 1) ∧ P i = p ∧ s.cst l P (i + 1) = (s.pre l (i + 1))[p.toNat]?.getD 0
  | 0, p, h0, h1 => by
    have hz := zero_len h
    refine ⟨fun _ => p, ⟨fun j hj => ⟨h0, h1⟩, fun j hj => by omega⟩, rfl, ?_⟩
    rw [pre_succ, addC_get _ _ _ _ (by rw [base_len]; omega), show (p.toNat : Int) = p by omega]
    simp only [GServo.cst, GServo.base, if_pos]
    rw [zero_get s (by omega)]
  | i + 1, p, h0, h1 => by
    have hz := zero_len h
    have hb : s.base l (i + 1) = nearL s.move (s.pre l (i + 1)) := by rw [GServo.base, if_neg (by omega)]
    obtain ⟨q, q1, q2, q3, q4⟩ := (nearAt_spec (m := s.move) (r := s.pre l (i + 1)) (p := p.toNat) (by have := GServo.ok_head h; omega) (by rw [pre_len]; omega)).1
    rw [pre_len] at q1
    obtain ⟨P, p1, p2, p3⟩ := pre_ex h l i q (by omega) (by omega)
    refine ⟨fun j => if j = i + 1 then p else P j, ⟨fun j hj => ?_, fun j hj => ?_⟩, by simp, ?_⟩
    · by_cases hj1 : j = i + 1
      · simp only [hj1, if_true]; exact ⟨h0, h1⟩
      · simp only [hj1, if_false]; exact p1.1 j (by omega)
    · by_cases hj1 : j = i
      · subst hj1; simp only [if_true, show ¬ j = j + 1 by omega, if_false, p2]; omega
      · simp only [show ¬ j + 1 = i + 1 by omega, show ¬ j = i + 1 by omega, if_false]; exact p1.2 j (by omega)
    · rw [GServo.cst, cst_congr s l (P' := P) fun j hj => by simp only [show ¬ j = i + 1 by omega, if_false], p3]
      rw [pre_succ s l (i + 1), addC_get _ _ _ _ (by rw [base_len]; omega), hb, nearL_get (by rw [pre_len]; omega), q4]
      simp only [if_true, show (p.toNat : Int) = p by omega, Int.toNat_natCast]

/-- The ends of possible paths. -/
theorem end_le {s : GServo} (h : s.ok = true) {l : List Pair} {P : Nat → Int} (hl : 1 ≤ l.length) (hp : s.okP P l.length) : (s.endL l)[(P (l.length - 1)).toNat]?.getD 0 ≤ s.cst l P l.length := by
  have := pre_le h l (l.length - 1) (by rw [show l.length - 1 + 1 = l.length by omega]; exact hp)
  rwa [show l.length - 1 + 1 = l.length by omega] at this
theorem end_ex {s : GServo} (h : s.ok = true) {l : List Pair} (hl : 1 ≤ l.length) {p : Int} (h0 : 0 ≤ p) (h1 : p ≤ s.last) : ∃ P, s.okP P l.length ∧ P (l.length - 1) = p ∧ s.cst l P l.length = (s.endL l)[p.toNat]?.getD 0 := by
  have := pre_ex h l (l.length - 1) p h0 h1
  rwa [show l.length - 1 + 1 = l.length by omega] at this

theorem okP_far {s : GServo} (hm : 0 ≤ s.move) {P : Nat → Int} {n : Nat} (hp : s.okP P n) (i : Nat) : ∀ k, i + k < n → P (i + k) - P i ≤ k * s.move ∧ P i - P (i + k) ≤ k * s.move
  | 0, _ => by simp
  | k + 1, h => by
    have ih := okP_far hm hp i k (by omega)
    have h2 := hp.2 (i + k) (by omega)
    have e : ((k + 1 : Nat) : Int) * s.move = k * s.move + s.move := by rw [Int.natCast_add, Int.add_mul]; simp
    rw [e, show i + (k + 1) = i + k + 1 by omega]
    omega
/-- Of more wedges than the path costs, one agrees. -/
theorem some_agrees (s : GServo) (l : List Pair) (P : Nat → Int) (i : Nat) : ∀ k, s.cst l P (i + k) < k → ∃ j, i ≤ j ∧ j < i + k ∧ s.cost l j (P j) = 0
  | 0, h => by
    have : 0 ≤ s.cst l P i := by
      have := cst_mono s l P 0 i; simpa [GServo.cst] using this
    simp at h; omega
  | k + 1, h => by
    have hc := GServo.cost01 s l ((i + k : Nat) : Int) (P (i + k))
    rw [show i + (k + 1) = i + k + 1 by omega] at h
    simp only [GServo.cst] at h
    by_cases hz : s.cost l ((i + k : Nat) : Int) (P (i + k)) = 0
    · exact ⟨i + k, by omega, by omega, hz⟩
    · obtain ⟨j, h1, h2, h3⟩ := some_agrees s l P i k (by omega)
      exact ⟨j, h1, by omega, h3⟩
/-- Two positions that agree with a wedge are near to each other. -/
theorem agree_near {s : GServo} {l : List Pair} {i p q : Int} (hc : ¬ (l[i.toNat]?.getD default).1 = -1) (hp : s.cost l i p = 0) (hq : s.cost l i q = 0) : p - q ≤ 2 * s.noise ∧ q - p ≤ 2 * s.noise := by
  unfold GServo.cost at hp hq
  split at hp
  · rename_i h1
    split at hq
    · rename_i h2
      obtain ⟨cd, b⟩ := l[i.toNat]?.getD default
      rw [agrees_eq _ _ _ _ _ hc] at h1 h2
      simp only [Bool.and_eq_true, decide_eq_true_eq] at h1 h2
      omega
    · omega
  · omega
end Go.Pw
