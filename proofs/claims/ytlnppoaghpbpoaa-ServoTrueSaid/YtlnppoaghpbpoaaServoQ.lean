/- A part of the proof. -/
import Derived.Test.YtlnppoaghpbpoaaServoM
set_option linter.all false
open Go Go.Pw Go.Proofs
namespace Go.Pw
set_option linter.unusedSimpArgs false
set_option linter.unusedVariables false

def MemP (l : List Pair) (x : Int) : Prop := ∃ q, q ∈ l ∧ q.1 ≤ x ∧ x ≤ q.2
def Norm (l : List Pair) : Prop := l.Pairwise (fun a b => a.2 + 1 < b.1) ∧ ∀ q, q ∈ l → q.1 ≤ q.2
theorem memP_nil (x : Int) : ¬ MemP [] x := fun ⟨_, h, _⟩ => by cases h
theorem memP_cons (q : Pair) (l : List Pair) (x : Int) : MemP (q :: l) x ↔ (q.1 ≤ x ∧ x ≤ q.2) ∨ MemP l x := by
  constructor
  · rintro ⟨p, hp, h⟩
    rcases List.mem_cons.1 hp with rfl | hp
    · exact .inl h
    · exact .inr ⟨p, hp, h⟩
  · rintro (h | ⟨p, hp, h⟩)
    · exact ⟨q, by simp, h⟩
    · exact ⟨p, by simp [hp], h⟩
theorem memP_snoc (q : Pair) (l : List Pair) (x : Int) : MemP (l ++ [q]) x ↔ MemP l x ∨ (q.1 ≤ x ∧ x ≤ q.2) := by
  constructor
  · rintro ⟨p, hp, h⟩
    rcases List.mem_append.1 hp with hp | hp
    · exact .inl ⟨p, hp, h⟩
    · simp at hp; subst hp; exact .inr h
  · rintro (⟨p, hp, h⟩ | h)
    · exact ⟨p, by simp [hp], h⟩
    · exact ⟨q, by simp, h⟩
theorem norm_snoc (q : Pair) (l : List Pair) : Norm (l ++ [q]) ↔ Norm l ∧ (∀ p, p ∈ l → p.2 + 1 < q.1) ∧ q.1 ≤ q.2 := by
  unfold Norm
  rw [List.pairwise_append]
  constructor
  · rintro ⟨⟨h1, _, h2⟩, h3⟩
    exact ⟨⟨h1, fun p hp => h3 p (by simp [hp])⟩, fun p hp => h2 p hp q (by simp), h3 q (by simp)⟩
  · rintro ⟨⟨h1, h2⟩, h3, h4⟩
    refine ⟨⟨h1, by simp, fun a ha b hb => ?_⟩, fun p hp => ?_⟩
    · simp at hb; subst hb; exact h3 a ha
    · rcases List.mem_append.1 hp with hp | hp
      · exact h2 p hp
      · simp at hp; subst hp; exact h4
theorem norm_nil : Norm [] := ⟨.nil, fun _ h => by cases h⟩
theorem norm_cons {q : Pair} {l : List Pair} (h : Norm (q :: l)) : q.1 ≤ q.2 ∧ (∀ p, p ∈ l → q.2 + 1 < p.1) ∧ Norm l := by
  obtain ⟨h1, h2⟩ := h
  rw [List.pairwise_cons] at h1
  exact ⟨h2 q (by simp), h1.1, h1.2, fun p hp => h2 p (by simp [hp])⟩

theorem norm_head {q : Pair} {l : List Pair} (h : Norm (q :: l)) {x : Int} (hx : MemP (q :: l) x) : q.1 ≤ x := by
  obtain ⟨h1, h2, h3⟩ := norm_cons h
  rcases (memP_cons q l x).1 hx with hx | ⟨p, hp, hx⟩
  · exact hx.1
  · have := h2 p hp; omega
/-- A set has one form as spans that are apart. -/
theorem norm_unique : ∀ {a b : List Pair}, Norm a → Norm b → (∀ x, MemP a x ↔ MemP b x) → a = b
  | [], [], _, _, _ => rfl
  | [], q :: b, _, hb, h => by
    have h1 := norm_cons hb
    exact absurd ((h q.1).2 ((memP_cons _ _ _).2 (.inl ⟨by omega, h1.1⟩))) (memP_nil _)
  | q :: a, [], ha, _, h => by
    have h1 := norm_cons ha
    exact absurd ((h q.1).1 ((memP_cons _ _ _).2 (.inl ⟨by omega, h1.1⟩))) (memP_nil _)
  | p :: a, q :: b, ha, hb, h => by
    obtain ⟨p1, p2, p3⟩ := norm_cons ha
    obtain ⟨q1, q2, q3⟩ := norm_cons hb
    have e1 : p.1 = q.1 := by
      have h1 := norm_head hb ((h p.1).1 ((memP_cons _ _ _).2 (.inl ⟨by omega, p1⟩)))
      have h2 := norm_head ha ((h q.1).2 ((memP_cons _ _ _).2 (.inl ⟨by omega, q1⟩)))
      omega
    have e2 : p.2 = q.2 := by
      have g1 : ∀ {p q : Pair} {a b : List Pair}, Norm (p :: a) → Norm (q :: b) → p.1 = q.1 → (∀ x, MemP (p :: a) x → MemP (q :: b) x) → p.2 ≤ q.2 := by
        intro p q a b ha hb e h
        obtain ⟨p1, p2, p3⟩ := norm_cons ha
        obtain ⟨q1, q2, q3⟩ := norm_cons hb
        rcases Classical.em (p.2 ≤ q.2) with hh | hh
        · exact hh
        · have := h (q.2 + 1) ((memP_cons _ _ _).2 (.inl ⟨by omega, by omega⟩))
          rcases (memP_cons _ _ _).1 this with hx | ⟨r, hr, hx⟩
          · omega
          · have := q2 r hr; omega
      have := g1 ha hb e1 fun x => (h x).1
      have := g1 hb ha e1.symm fun x => (h x).2
      omega
    have e3 : p = q := Prod.ext e1 e2
    subst e3
    rw [norm_unique p3 q3 fun x => ?_]
    constructor
    · intro hx
      rcases (memP_cons _ _ _).1 ((h x).1 ((memP_cons _ _ _).2 (.inr hx))) with h1 | h1
      · obtain ⟨r, hr, hx⟩ := hx; have := p2 r hr; omega
      · exact h1
    · intro hx
      rcases (memP_cons _ _ _).1 ((h x).2 ((memP_cons _ _ _).2 (.inr hx))) with h1 | h1
      · obtain ⟨r, hr, hx⟩ := hx; have := q2 r hr; omega
      · exact h1

theorem snoc_of {out : List Pair} (h : 0 < out.length) : ∃ init q, out = init ++ [q] ∧ lastP out = q ∧ ∀ r, out.set (out.length - 1) r = init ++ [r] := by
  have hne : out ≠ [] := by rintro rfl; simp at h
  refine ⟨out.dropLast, out.getLast hne, (List.dropLast_concat_getLast hne).symm, ?_, fun r => ?_⟩
  · unfold lastP
    rw [List.getElem?_eq_getElem (by omega), Option.getD_some, List.getLast_eq_getElem]
  · have e := (List.dropLast_concat_getLast hne).symm
    have hl : out.length - 1 = out.dropLast.length := by simp
    rw [hl]
    conv => lhs; rw [e]
    rw [List.set_append_right _ _ (by simp)]
    simp

theorem spansOf_spec (is : Nat → Bool) : ∀ k, Norm (spansOf is k) ∧ (∀ q, q ∈ spansOf is k → 0 ≤ q.1 ∧ q.2 < k) ∧ ∀ x, MemP (spansOf is k) x ↔ (0 ≤ x ∧ x < k ∧ is x.toNat = true)
  | 0 => ⟨norm_nil, fun q h => (by cases h), fun x => ⟨fun h => absurd h (memP_nil x), fun h => by omega⟩⟩
  | k + 1 => by
    obtain ⟨h1, h2, h3⟩ := spansOf_spec is k
    have hx1 : ∀ x : Int, (0 ≤ x ∧ x < ((k + 1 : Nat) : Int) ∧ is x.toNat = true) ↔ (0 ≤ x ∧ x < k ∧ is x.toNat = true) ∨ (x = k ∧ is k = true) := fun x => by
      constructor
      · rintro ⟨a, b, c⟩
        rcases (show x < k ∨ x = k by omega) with h | h
        · exact .inl ⟨a, h, c⟩
        · exact .inr ⟨h, by rw [h] at c; simpa using c⟩
      · rintro (⟨a, b, c⟩ | ⟨a, b⟩)
        · exact ⟨a, by omega, c⟩
        · refine ⟨by omega, by omega, ?_⟩; rw [a]; simpa using b
    simp only [spansOf]
    split
    · rename_i hk
      unfold addPos
      split
      · rename_i hc
        obtain ⟨init, q, e1, e2, e3⟩ := snoc_of hc.1
        rw [e3, e2]
        rw [e2] at hc
        rw [e1] at h1 h2 h3
        obtain ⟨n1, n2, n3⟩ := (norm_snoc _ _).1 h1
        have hq := h2 q (by simp)
        refine ⟨(norm_snoc _ _).2 ⟨n1, n2, by simp only; omega⟩, fun p hp => ?_, fun x => ?_⟩
        · rcases List.mem_append.1 hp with hp | hp
          · have := h2 p (by simp [hp]); omega
          · simp at hp; subst hp; simp only; omega
        · rw [hx1, ← h3, memP_snoc, memP_snoc]
          simp only
          constructor
          · rintro (h | h)
            · exact .inl (.inl h)
            · rcases (show x ≤ q.2 ∨ x = k by omega) with h' | h'
              · exact .inl (.inr ⟨h.1, h'⟩)
              · exact .inr ⟨h', hk⟩
          · rintro ((h | h) | h)
            · exact .inl h
            · exact .inr ⟨h.1, by omega⟩
            · exact .inr ⟨by omega, by omega⟩
      · rename_i hc
        have hall : ∀ p, p ∈ spansOf is k → p.2 + 1 < (k : Int) := fun p hp => by
          have hpos : 0 < (spansOf is k).length := by cases hh : spansOf is k with | nil => rw [hh] at hp; cases hp | cons _ _ => simp
          obtain ⟨init, q, e1, e2, e3⟩ := snoc_of hpos
          have hq := h2 q (by rw [e1]; simp)
          have hne : ¬ q.2 = (k : Int) - 1 := fun h => hc ⟨hpos, by rw [e2]; exact h⟩
          rw [e1] at hp h1
          obtain ⟨n1, n2, n3⟩ := (norm_snoc _ _).1 h1
          rcases List.mem_append.1 hp with hp | hp
          · have := n2 p hp; omega
          · simp at hp; subst hp; omega
        refine ⟨(norm_snoc _ _).2 ⟨h1, hall, by simp⟩, fun p hp => ?_, fun x => ?_⟩
        · rcases List.mem_append.1 hp with hp | hp
          · have := h2 p hp; omega
          · simp at hp; subst hp; simp only; omega
        · rw [hx1, ← h3, memP_snoc]
          simp only
          constructor
          · rintro (h | h)
            · exact .inl h
            · exact .inr ⟨by omega, hk⟩
          · rintro (h | h)
            · exact .inl h
            · exact .inr ⟨by omega, by omega⟩
    · rename_i hk
      refine ⟨h1, fun p hp => by have := h2 p hp; omega, fun x => ?_⟩
      rw [hx1, ← h3]
      constructor
      · exact .inl
      · rintro (h | h)
        · exact h
        · exact absurd h.2 hk

theorem mergeS_spec {out : List Pair} {q : Pair} (h : Norm out) (hq : q.1 ≤ q.2) (hlo : ∀ p, p ∈ out → p.1 ≤ q.1) :
    Norm (mergeS out q) ∧ (∀ x, MemP (mergeS out q) x ↔ MemP out x ∨ (q.1 ≤ x ∧ x ≤ q.2)) ∧ ∀ p, p ∈ mergeS out q → p.1 ≤ q.1 := by
  unfold mergeS
  split
  · rename_i hc
    obtain ⟨init, r, e1, e2, e3⟩ := snoc_of hc.1
    rw [e3, e2]
    rw [e2] at hc
    rw [e1] at h hlo
    obtain ⟨n1, n2, n3⟩ := (norm_snoc _ _).1 h
    have hr := hlo r (by simp)
    refine ⟨(norm_snoc _ _).2 ⟨n1, n2, by simp only; omega⟩, fun x => ?_, fun p hp => ?_⟩
    · rw [e1, memP_snoc, memP_snoc]
      simp only
      constructor
      · rintro (h | h)
        · exact .inl (.inl h)
        · rcases (show x ≤ r.2 ∨ (q.1 ≤ x ∧ x ≤ q.2) by omega) with h' | h'
          · exact .inl (.inr ⟨h.1, h'⟩)
          · exact .inr h'
      · rintro ((h | h) | h)
        · exact .inl h
        · exact .inr ⟨h.1, by omega⟩
        · exact .inr ⟨by omega, by omega⟩
    · rcases List.mem_append.1 hp with hp | hp
      · exact hlo p (by simp [hp])
      · simp at hp; subst hp; exact hr
  · rename_i hc
    refine ⟨(norm_snoc _ _).2 ⟨h, fun p hp => ?_, hq⟩, fun x => memP_snoc _ _ _, fun p hp => ?_⟩
    · have hpos : 0 < out.length := by cases out with | nil => cases hp | cons _ _ => simp
      obtain ⟨init, r, e1, e2, e3⟩ := snoc_of hpos
      have hne : ¬ q.1 - 1 ≤ r.2 := fun h => hc ⟨hpos, by rw [e2]; exact h⟩
      rw [e1] at hp h
      obtain ⟨n1, n2, n3⟩ := (norm_snoc _ _).1 h
      rcases List.mem_append.1 hp with hp | hp
      · have := n2 p hp; omega
      · simp at hp; subst hp; omega
    · rcases List.mem_append.1 hp with hp | hp
      · exact hlo p hp
      · simp at hp; subst hp; omega

theorem laterOf_spec {M last : Int} (hM : 0 ≤ M) {E : List Pair} (hE : Norm E) (hb : ∀ q, q ∈ E → 0 ≤ q.1 ∧ q.2 ≤ last) :
    Norm (laterOf M last E) ∧ ∀ x, MemP (laterOf M last E) x ↔ (0 ≤ x ∧ x ≤ last ∧ ∃ y, MemP E y ∧ x - y ≤ M ∧ y - x ≤ M) := by
  have key : ∀ (E : List Pair) (out : List Pair), Norm E → (∀ q, q ∈ E → 0 ≤ q.1 ∧ q.2 ≤ last) → Norm out → (∀ p, p ∈ out → ∀ q, q ∈ E → p.1 ≤ (widen M last q).1) →
      Norm (E.foldl (fun out q => mergeS out (widen M last q)) out) ∧ ∀ x, MemP (E.foldl (fun out q => mergeS out (widen M last q)) out) x ↔ (MemP out x ∨ ∃ q, q ∈ E ∧ (widen M last q).1 ≤ x ∧ x ≤ (widen M last q).2) := by
    intro E
    induction E with
    | nil => intro out _ _ h _; exact ⟨h, fun x => by simp⟩
    | cons q E ih =>
      intro out hE hb ho hlo
      obtain ⟨n1, n2, n3⟩ := norm_cons hE
      have hq := hb q (by simp)
      have hw : (widen M last q).1 ≤ (widen M last q).2 := by simp only [widen]; omega
      obtain ⟨m1, m2, m3⟩ := mergeS_spec ho hw fun p hp => hlo p hp q (by simp)
      simp only [List.foldl_cons]
      obtain ⟨i1, i2⟩ := ih (mergeS out (widen M last q)) n3 (fun p hp => hb p (by simp [hp])) m1 fun p hp r hr => by
        have h1 := m3 p hp
        have h2 := n2 r hr
        simp only [widen] at h1 ⊢
        omega
      refine ⟨i1, fun x => ?_⟩
      rw [i2, m2]
      simp only [List.mem_cons]
      constructor
      · rintro ((h | h) | ⟨r, hr, h⟩)
        · exact .inl h
        · exact .inr ⟨q, .inl rfl, h⟩
        · exact .inr ⟨r, .inr hr, h⟩
      · rintro (h | ⟨r, rfl | hr, h⟩)
        · exact .inl (.inl h)
        · exact .inl (.inr h)
        · exact .inr ⟨r, hr, h⟩
  obtain ⟨k1, k2⟩ := key E [] hE hb norm_nil fun p hp => by cases hp
  refine ⟨k1, fun x => ?_⟩
  unfold laterOf
  rw [k2]
  constructor
  · rintro (h | ⟨q, hq, h1, h2⟩)
    · exact absurd h (memP_nil _)
    · have := hb q hq
      have hqq := hE.2 q hq
      simp only [widen] at h1 h2
      refine ⟨by omega, by omega, max q.1 (min x q.2), ⟨q, hq, by omega, by omega⟩, by omega, by omega⟩
  · rintro ⟨h1, h2, y, ⟨q, hq, h3, h4⟩, h5, h6⟩
    refine .inr ⟨q, hq, ?_, ?_⟩ <;> simp only [widen] <;> omega

theorem ends_spec {s : GServo} (h : s.ok = true) (l : List Pair) : Norm (s.endsL l) ∧ (∀ q, q ∈ s.endsL l → 0 ≤ q.1 ∧ q.2 ≤ s.last) ∧ ∀ x, MemP (s.endsL l) x ↔ (0 ≤ x ∧ x ≤ s.last ∧ (s.endL l)[x.toNat]?.getD 0 ≤ s.wrong) := by
  obtain ⟨h1, h2, h3⟩ := spansOf_spec (fun p => decide ((s.endL l)[p]?.getD 0 ≤ s.wrong)) (s.endL l).length
  have hz := endL_len h l
  refine ⟨h1, fun q hq => by have := h2 q hq; omega, fun x => ?_⟩
  rw [GServo.endsL, h3, hz, decide_eq_true_eq]
  constructor
  · rintro ⟨a, b, c⟩; exact ⟨a, by omega, c⟩
  · rintro ⟨a, b, c⟩; exact ⟨a, by omega, c⟩
theorem later_spec {s : GServo} (h : s.ok = true) (l : List Pair) {more : Int} (hm : 0 ≤ more) : Norm (s.laterL l more) ∧
    ∀ x, MemP (s.laterL l more) x ↔ (0 ≤ x ∧ x ≤ s.last ∧ ∃ y, (0 ≤ y ∧ y ≤ s.last ∧ (s.endL l)[y.toNat]?.getD 0 ≤ s.wrong) ∧ x - y ≤ more * s.move ∧ y - x ≤ more * s.move) := by
  obtain ⟨e1, e2, e3⟩ := ends_spec h l
  obtain ⟨l1, l2⟩ := laterOf_spec (M := more * s.move) (last := s.last) (Int.mul_nonneg hm (by have := GServo.ok_head h; omega)) e1 e2
  refine ⟨l1, fun x => ?_⟩
  rw [GServo.laterL, l2]
  constructor
  · rintro ⟨a, b, y, hy, c⟩; exact ⟨a, b, y, (e3 y).1 hy, c⟩
  · rintro ⟨a, b, y, hy, c⟩; exact ⟨a, b, y, (e3 y).2 hy, c⟩
end Go.Pw
