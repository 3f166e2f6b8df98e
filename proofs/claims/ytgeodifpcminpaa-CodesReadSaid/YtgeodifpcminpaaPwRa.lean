/- Calls that are handed objects. -/
import Derived.Test.YtgeodifpcminpaaPwQ
set_option linter.all false
namespace Go.Pw
open Go.RowKit
set_option linter.unusedSimpArgs false
set_option linter.unusedVariables false

theorem renL_eq (ρ : Ren) : ∀ l : List AV, AV.ren.renL ρ l = listM (AV.ren ρ) l
  | [] => rfl
  | x :: xs => by simp only [AV.ren.renL, listM, renL_eq ρ xs]; cases x.ren ρ with
    | none => rfl
    | some y => cases listM (AV.ren ρ) xs <;> rfl

theorem ren_one {ρ : Ren} {x y : AV} (h : x.ren ρ = some y) : y.one = x.one := by
  cases x <;> simp only [AV.ren] at h <;> first
    | (split at h <;> simp at h <;> subst h <;> rfl)
    | (simp at h; subst h; rfl)

theorem AVRep.ren {w : World} {fb fb' : Nat → Prop} {β β' : Nat → Nat → Value} {cn cn' : Nat → Nat} {ρ : Ren} (hf : ∀ b, b < w.heap.size → fb' b → fb b)
    (hn : ∀ o g q, ρ.get o g = some q → β' q.1 q.2 = β o g ∧ q.2 < cn' q.1) {x : AV} {v : Value} (h : AVRep w fb β cn x v) : ∀ {y : AV}, x.ren ρ = some y → AVRep w fb' β' cn' y v := by
  induction h with
  | d x v h => intro y hy; simp [AV.ren] at hy; subst hy; exact .d x v (h.mono (Stays.refl _ _) hf)
  | ex xs a h => intro y hy; simp [AV.ren] at hy; subst hy; exact .ex xs a (h.mono (Stays.refl _ _) hf)
  | agg cs vs hl h1 h ih =>
    intro y hy
    simp only [AV.ren] at hy
    split at hy
    · rename_i l hrl
      simp at hy; subst hy
      rw [renL_eq] at hrl
      refine .agg l vs (by rw [listM_length hrl]; exact hl) (fun y hy => ?_) (fun i y v hy hv => ?_)
      · obtain ⟨x, hx, hxy⟩ := listM_mem hrl hy
        rw [ren_one hxy]; exact h1 x hx
      · obtain ⟨x, hx, hxy⟩ := listM_get' hrl hy
        exact ih i x v hx hv hxy
    · cases hy
  | ptr o g off b hg h =>
    intro y hy
    simp only [AV.ren] at hy
    split at hy
    · rename_i q hq; simp at hy; subst hy; exact .ptr _ _ _ b (hn o g q hq).2 ((hn o g q hq).1.trans h)
    · cases hy
  | rptr o g es i off b b0 n cap hg h =>
    intro y hy
    simp only [AV.ren] at hy
    split at hy
    · rename_i q hq; simp at hy; subst hy; exact .rptr _ _ _ _ _ b b0 n cap (hn o g q hq).2 ((hn o g q hq).1.trans h)
    · cases hy
  | dptr cs off b base vs hb hne h1 hc hv =>
    intro y hy
    simp [AV.ren] at hy; subst hy
    cases cs with
    | nil => exact absurd rfl hne
    | cons z zs =>
      have hlt : b < w.heap.size := lt_of_cell (hc 0 z (by simp))
      exact .dptr _ off b base vs (fun hh => hb (hf b hlt hh)) hne h1 hc (fun j c h1 => (hv j c h1).mono (Stays.refl _ _) hf)
  | own o g hg h1 =>
    intro y hy
    simp only [AV.ren] at hy
    split at hy
    · rename_i q hq; simp at hy; subst hy
      rw [← (hn o g q hq).1]; exact .own _ _ (hn o g q hq).2 (by rw [(hn o g q hq).1]; exact h1)
    · cases hy
  | map o g hg h1 =>
    intro y hy
    simp only [AV.ren] at hy
    split at hy
    · rename_i q hq; simp at hy; subst hy
      rw [← (hn o g q hq).1]; exact .map _ _ (hn o g q hq).2 (by rw [(hn o g q hq).1]; exact h1)
    · cases hy
  | fn f cs vs hl h ih =>
    intro y hy
    simp only [AV.ren] at hy
    split at hy
    · rename_i l hrl
      simp at hy; subst hy
      rw [renL_eq] at hrl
      refine .fn f l vs (by rw [listM_length hrl]; exact hl) (fun i y v hy hv => ?_)
      obtain ⟨x, hx, hxy⟩ := listM_get' hrl hy
      exact ih i x v hx hv hxy
    · cases hy
  | tup cs vs hl h ih =>
    intro y hy
    simp only [AV.ren] at hy
    split at hy
    · rename_i l hrl
      simp at hy; subst hy
      rw [renL_eq] at hrl
      refine .tup l vs (by rw [listM_length hrl]; exact hl) (fun i y v hy hv => ?_)
      obtain ⟨x, hx, hxy⟩ := listM_get' hrl hy
      exact ih i x v hx hv hxy
    · cases hy
  | undef v => intro y hy; simp [AV.ren] at hy; subst hy; exact .undef v

theorem AVRep.unren {w : World} {fb fb' : Nat → Prop} {β β' : Nat → Nat → Value} {cn cn' : Nat → Nat} {ρ : Ren} (hf : ∀ b, b < w.heap.size → fb' b → fb b)
    (hn : ∀ o g q, ρ.get o g = some q → β' o g = β q.1 q.2 ∧ g < cn' o) {y : AV} {v : Value} (h : AVRep w fb β cn y v) : ∀ {x : AV}, x.ren ρ = some y → AVRep w fb' β' cn' x v := by
  have inv : ∀ {x y : AV}, x.ren ρ = some y → (∃ o g off q, x = .ptr o g off ∧ ρ.get o g = some q ∧ y = .ptr q.1 q.2 off) ∨ (∃ o g es i off q, x = .rptr o g es i off ∧ ρ.get o g = some q ∧ y = .rptr q.1 q.2 es i off) ∨
      (∃ o g q, x = .own o g ∧ ρ.get o g = some q ∧ y = .own q.1 q.2) ∨ (∃ o g q, x = .map o g ∧ ρ.get o g = some q ∧ y = .map q.1 q.2) ∨
      (∃ cs l, x = .agg cs ∧ listM (AV.ren ρ) cs = some l ∧ y = .agg l) ∨ (∃ f cs l, x = .fn f cs ∧ listM (AV.ren ρ) cs = some l ∧ y = .fn f l) ∨ (∃ cs l, x = .tup cs ∧ listM (AV.ren ρ) cs = some l ∧ y = .tup l) ∨
      (x = y ∧ ((∃ d, y = .d d) ∨ (∃ l, y = .ex l) ∨ (∃ cs n, y = .dptr cs n) ∨ y = .undef)) := by
    intro x y hx
    cases x with
    | ptr o g off =>
      simp only [AV.ren] at hx; split at hx
      · rename_i q hq; simp at hx; exact .inl ⟨o, g, off, q, rfl, hq, hx.symm⟩
      · cases hx
    | rptr o g es i off =>
      simp only [AV.ren] at hx; split at hx
      · rename_i q hq; simp at hx; exact .inr (.inl ⟨o, g, es, i, off, q, rfl, hq, hx.symm⟩)
      · cases hx
    | own o g =>
      simp only [AV.ren] at hx; split at hx
      · rename_i q hq; simp at hx; exact .inr (.inr (.inl ⟨o, g, q, rfl, hq, hx.symm⟩))
      · cases hx
    | map o g =>
      simp only [AV.ren] at hx; split at hx
      · rename_i q hq; simp at hx; exact .inr (.inr (.inr (.inl ⟨o, g, q, rfl, hq, hx.symm⟩)))
      · cases hx
    | agg cs =>
      simp only [AV.ren, renL_eq] at hx; split at hx
      · rename_i l hl; simp at hx; exact .inr (.inr (.inr (.inr (.inl ⟨cs, l, rfl, hl, hx.symm⟩))))
      · cases hx
    | fn f cs =>
      simp only [AV.ren, renL_eq] at hx; split at hx
      · rename_i l hl; simp at hx; exact .inr (.inr (.inr (.inr (.inr (.inl ⟨f, cs, l, rfl, hl, hx.symm⟩)))))
      · cases hx
    | tup cs =>
      simp only [AV.ren, renL_eq] at hx; split at hx
      · rename_i l hl; simp at hx; exact .inr (.inr (.inr (.inr (.inr (.inr (.inl ⟨cs, l, rfl, hl, hx.symm⟩))))))
      · cases hx
    | d z => simp [AV.ren] at hx; exact .inr (.inr (.inr (.inr (.inr (.inr (.inr ⟨hx, .inl ⟨z, hx.symm⟩⟩))))))
    | ex z => simp [AV.ren] at hx; exact .inr (.inr (.inr (.inr (.inr (.inr (.inr ⟨hx, .inr (.inl ⟨z, hx.symm⟩)⟩))))))
    | dptr z n => simp [AV.ren] at hx; exact .inr (.inr (.inr (.inr (.inr (.inr (.inr ⟨hx, .inr (.inr (.inl ⟨z, n, hx.symm⟩))⟩))))))
    | undef => simp [AV.ren] at hx; exact .inr (.inr (.inr (.inr (.inr (.inr (.inr ⟨hx, .inr (.inr (.inr hx.symm))⟩))))))
  induction h with
  | d z v h =>
    intro x hx
    rcases inv hx with ⟨_, _, _, _, _, _, h⟩ | ⟨_, _, _, _, _, _, _, _, h⟩ | ⟨_, _, _, _, _, h⟩ | ⟨_, _, _, _, _, h⟩ | ⟨_, _, _, _, h⟩ | ⟨_, _, _, _, _, h⟩ | ⟨_, _, _, _, h⟩ | ⟨rfl, _⟩ <;> first | exact .d _ _ (h.mono (Stays.refl _ _) hf) | cases h
  | ex xs a h =>
    intro x hx
    rcases inv hx with ⟨_, _, _, _, _, _, h⟩ | ⟨_, _, _, _, _, _, _, _, h⟩ | ⟨_, _, _, _, _, h⟩ | ⟨_, _, _, _, _, h⟩ | ⟨_, _, _, _, h⟩ | ⟨_, _, _, _, _, h⟩ | ⟨_, _, _, _, h⟩ | ⟨rfl, _⟩ <;> first | exact .ex _ _ (h.mono (Stays.refl _ _) hf) | cases h
  | agg l vs hl h1 h ih =>
    intro x hx
    rcases inv hx with ⟨_, _, _, _, _, _, h⟩ | ⟨_, _, _, _, _, _, _, _, h⟩ | ⟨_, _, _, _, _, h⟩ | ⟨_, _, _, _, _, h⟩ | ⟨cs, l', rfl, hrl, h⟩ | ⟨_, _, _, _, _, h⟩ | ⟨_, _, _, _, h⟩ | ⟨rfl, ⟨_, h⟩ | ⟨_, h⟩ | ⟨_, _, h⟩ | h⟩ <;> cases h
    refine .agg cs vs (by rw [← listM_length hrl]; exact hl) (fun z hz => ?_) (fun i z v hz hv => ?_)
    · obtain ⟨i, hi⟩ := List.getElem?_of_mem hz
      obtain ⟨y, hy, hxy⟩ := listM_get hrl hi
      rw [← ren_one hxy]; exact h1 y (List.mem_of_getElem? hy)
    · obtain ⟨y, hy, hxy⟩ := listM_get hrl hz
      exact ih i y v hy hv hxy
  | ptr o g off b hg h =>
    intro x hx
    rcases inv hx with ⟨_, _, _, q, rfl, hq, h⟩ | ⟨_, _, _, _, _, _, _, _, h⟩ | ⟨_, _, _, _, _, h⟩ | ⟨_, _, _, _, _, h⟩ | ⟨_, _, _, _, h⟩ | ⟨_, _, _, _, _, h⟩ | ⟨_, _, _, _, h⟩ | ⟨rfl, ⟨_, h⟩ | ⟨_, h⟩ | ⟨_, _, h⟩ | h⟩ <;> cases h
    exact .ptr _ _ _ b (hn _ _ q hq).2 ((hn _ _ q hq).1.trans (by assumption))
  | rptr o g es i off b b0 n cap hg h =>
    intro x hx
    rcases inv hx with ⟨_, _, _, q, _, hq, h⟩ | ⟨_, _, _, _, _, q, rfl, hq, h⟩ | ⟨_, _, _, _, _, h⟩ | ⟨_, _, _, _, _, h⟩ | ⟨_, _, _, _, h⟩ | ⟨_, _, _, _, _, h⟩ | ⟨_, _, _, _, h⟩ | ⟨rfl, ⟨_, h⟩ | ⟨_, h⟩ | ⟨_, _, h⟩ | h⟩ <;> cases h
    exact .rptr _ _ _ _ _ b b0 n cap (hn _ _ q hq).2 ((hn _ _ q hq).1.trans (by assumption))
  | dptr cs off b base vs hb hne h1 hc hv =>
    intro x hx
    rcases inv hx with ⟨_, _, _, _, _, _, h⟩ | ⟨_, _, _, _, _, _, _, _, h⟩ | ⟨_, _, _, _, _, h⟩ | ⟨_, _, _, _, _, h⟩ | ⟨_, _, _, _, h⟩ | ⟨_, _, _, _, _, h⟩ | ⟨_, _, _, _, h⟩ | ⟨rfl, _⟩ <;> try cases h
    cases cs with
    | nil => exact absurd rfl hne
    | cons z zs =>
      have hlt : b < w.heap.size := lt_of_cell (hc 0 z (by simp))
      exact .dptr _ off b base vs (fun hh => hb (hf b hlt hh)) hne h1 hc (fun j c h1 => (hv j c h1).mono (Stays.refl _ _) hf)
  | own o g hg h1 =>
    intro x hx
    rcases inv hx with ⟨_, _, _, _, _, _, h⟩ | ⟨_, _, _, _, _, _, _, _, h⟩ | ⟨_, _, q, rfl, hq, h⟩ | ⟨_, _, _, _, _, h⟩ | ⟨_, _, _, _, h⟩ | ⟨_, _, _, _, _, h⟩ | ⟨_, _, _, _, h⟩ | ⟨rfl, ⟨_, h⟩ | ⟨_, h⟩ | ⟨_, _, h⟩ | h⟩ <;> cases h
    rw [← (hn _ _ q hq).1] at h1 ⊢; exact .own _ _ (hn _ _ q hq).2 h1
  | map o g hg h1 =>
    intro x hx
    rcases inv hx with ⟨_, _, _, _, _, _, h⟩ | ⟨_, _, _, _, _, _, _, _, h⟩ | ⟨_, _, q, _, hq, h⟩ | ⟨_, _, q, rfl, hq, h⟩ | ⟨_, _, _, _, h⟩ | ⟨_, _, _, _, _, h⟩ | ⟨_, _, _, _, h⟩ | ⟨rfl, ⟨_, h⟩ | ⟨_, h⟩ | ⟨_, _, h⟩ | h⟩ <;> cases h
    rw [← (hn _ _ q hq).1] at h1 ⊢; exact .map _ _ (hn _ _ q hq).2 h1
  | fn f l vs hl h ih =>
    intro x hx
    rcases inv hx with ⟨_, _, _, _, _, _, h⟩ | ⟨_, _, _, _, _, _, _, _, h⟩ | ⟨_, _, _, _, _, h⟩ | ⟨_, _, _, _, _, h⟩ | ⟨_, _, _, _, h⟩ | ⟨_, cs, l', rfl, hrl, h⟩ | ⟨_, _, _, _, h⟩ | ⟨rfl, ⟨_, h⟩ | ⟨_, h⟩ | ⟨_, _, h⟩ | h⟩ <;> cases h
    refine .fn _ cs vs (by rw [← listM_length hrl]; exact hl) (fun i z v hz hv => ?_)
    obtain ⟨y, hy, hxy⟩ := listM_get hrl hz
    exact ih i y v hy hv hxy
  | tup l vs hl h ih =>
    intro x hx
    rcases inv hx with ⟨_, _, _, _, _, _, h⟩ | ⟨_, _, _, _, _, _, _, _, h⟩ | ⟨_, _, _, _, _, h⟩ | ⟨_, _, _, _, _, h⟩ | ⟨_, _, _, _, h⟩ | ⟨_, _, _, _, _, h⟩ | ⟨cs, l', rfl, hrl, h⟩ | ⟨rfl, ⟨_, h⟩ | ⟨_, h⟩ | ⟨_, _, h⟩ | h⟩ <;> cases h
    refine .tup cs vs (by rw [← listM_length hrl]; exact hl) (fun i z v hz hv => ?_)
    obtain ⟨y, hy, hxy⟩ := listM_get hrl hz
    exact ih i y v hy hv hxy
  | undef v =>
    intro x hx
    rcases inv hx with ⟨_, _, _, _, _, _, h⟩ | ⟨_, _, _, _, _, _, _, _, h⟩ | ⟨_, _, _, _, _, h⟩ | ⟨_, _, _, _, _, h⟩ | ⟨_, _, _, _, h⟩ | ⟨_, _, _, _, _, h⟩ | ⟨_, _, _, _, h⟩ | ⟨rfl, _⟩ <;> first | exact .undef v | cases h

theorem ORep.ren {w : World} {fb fb' : Nat → Prop} {β β' : Nat → Nat → Value} {cn cn' : Nat → Nat} {ρ : Ren} (hf : ∀ b, b < w.heap.size → fb' b → fb b)
    (hn : ∀ o g q, ρ.get o g = some q → β' q.1 q.2 = β o g ∧ q.2 < cn' q.1) {x y : AObj} {v : Value} (h : ORep w fb β cn x v) (hy : x.ren ρ = some y) : ORep w fb' β' cn' y v := by
  cases h with
  | cells xs b cur e hb hl h1 h =>
    simp only [AObj.ren, renL_eq] at hy
    split at hy
    · rename_i l hrl
      simp at hy; subst hy
      refine .cells l b cur e hb (by rw [listM_length hrl]; exact hl) (fun z hz => ?_) fun i z u hz hu => ?_
      · obtain ⟨x, hx, hxy⟩ := listM_mem hrl hz
        rw [ren_one hxy]; exact h1 x hx
      · obtain ⟨x, hx, hxy⟩ := listM_get' hrl hz
        exact (h i x u hx hu).ren hf hn hxy
    · cases hy
  | row ety es nil xs v h =>
    simp [AObj.ren] at hy; subst hy
    exact .row _ _ _ _ _ (h.mono (Stays.refl _ _) hf fun _ _ _ => rfl)
  | map tys kvs b es hb hl h =>
    simp [AObj.ren] at hy; subst hy
    exact .map tys kvs b es hb hl fun i kv e hk he => by
      obtain ⟨h1, h2, h3, h4⟩ := h i kv e hk he
      exact ⟨h1, h2.mono (Stays.refl _ _) hf, h3.mono (Stays.refl _ _) hf, h4⟩

theorem ORep.unren {w : World} {fb fb' : Nat → Prop} {β β' : Nat → Nat → Value} {cn cn' : Nat → Nat} {ρ : Ren} (hf : ∀ b, b < w.heap.size → fb' b → fb b)
    (hn : ∀ o g q, ρ.get o g = some q → β' o g = β q.1 q.2 ∧ g < cn' o) {x y : AObj} {v : Value} (h : ORep w fb β cn y v) (hy : x.ren ρ = some y) : ORep w fb' β' cn' x v := by
  cases x with
  | cells xs =>
    simp only [AObj.ren, renL_eq] at hy
    split at hy
    · rename_i l hrl
      simp at hy; subst hy
      cases h with
      | cells _ b cur e hb hl h1 h =>
        refine .cells xs b cur e hb (by rw [← listM_length hrl]; exact hl) (fun z hz => ?_) fun i z u hz hu => ?_
        · obtain ⟨i, hi⟩ := List.getElem?_of_mem hz
          obtain ⟨y, hy, hxy⟩ := listM_get hrl hi
          rw [← ren_one hxy]; exact h1 y (List.mem_of_getElem? hy)
        · obtain ⟨y, hy, hxy⟩ := listM_get hrl hz
          exact (h i y u hy hu).unren hf hn hxy
    · cases hy
  | row ety es nil xs =>
    simp [AObj.ren] at hy; subst hy
    cases h with
    | row _ _ _ _ _ h => exact .row _ _ _ _ _ (h.mono (Stays.refl _ _) hf fun _ _ _ => rfl)
  | map tys kvs =>
    simp [AObj.ren] at hy; subst hy
    cases h with
    | map _ _ b es hb hl h =>
      exact .map tys kvs b es hb hl fun i kv e hk he => by
        obtain ⟨h1, h2, h3, h4⟩ := h i kv e hk he
        exact ⟨h1, h2.mono (Stays.refl _ _) hf, h3.mono (Stays.refl _ _) hf, h4⟩

section
variable {E : Env} {c : Ctx} {β : Nat → Nat → Value} {s : PSt} {tm : Array Value} {w : World} {K : AV → Chg → Prop}

/-- BEHIND A CALL: some objects were handed over and are changed; new ones are there. -/
theorem Rel.call (h : Rel E c β s tm w) {V2 : View} {β2 : Nat → Nat → Value} {w' : World} (H T : Nat → Prop)
    (hos : w'.os = w.os) (htp : w'.tape = w.tape) (hout : w'.output = w.output) (hsz : w.heap.size ≤ w'.heap.size) (hblk : ∀ k, k < w.heap.size → ¬ H k → w'.heap[k]? = w.heap[k]?)
    (hH : ∀ b, H b → ∃ o g x, s.V.ob o = some (g, x) ∧ rowBlk (β o g) = some b) (hHT : ∀ o g x b, s.V.ob o = some (g, x) → rowBlk (β o g) = some b → H b → T o)
    (hcn : ∀ o, s.V.cn o ≤ V2.cn o) (hβ : ∀ o g, g < s.V.cn o → β2 o g = β o g) (hun : ∀ o, ¬ T o → V2.ob o = s.V.ob o)
    (hto : ∀ o g y, T o → V2.ob o = some (g, y) → g < V2.cn o ∧ ORep w' (c.bar β2 V2) β2 V2.cn y (β2 o g) ∧ (∀ b, rowBlk (β2 o g) = some b → b < w'.heap.size ∧ ¬ c.fb b ∧ (w.heap.size ≤ b ∨ H b)) ∧ (lim ≤ o → β2 o g = c.b0 o))
    (hsep : ∀ o o' g g' x x' b, T o → T o' → V2.ob o = some (g, x) → V2.ob o' = some (g', x') → rowBlk (β2 o g) = some b → rowBlk (β2 o' g') = some b → o = o') :
    Rel E c β2 ⟨s.sl, V2⟩ tm w' := by
  have hU : ∀ {o g x}, ¬ T o → V2.ob o = some (g, x) → s.V.ob o = some (g, x) ∧ β2 o g = β o g := fun {o g x} ht hx => by
    rw [hun o ht] at hx
    exact ⟨hx, hβ o g (h.objs o g x hx).1⟩
  have hHb : ∀ b, H b → b < w.heap.size ∧ (c.w0.heap.size ≤ b ∨ c.mine b) ∧ ¬ c.fb b := fun b hb => by
    obtain ⟨o, g, x, h1, h2⟩ := hH b hb
    exact h.home o g x b h1 h2
  have hbar : ∀ b, b < w.heap.size → c.bar β2 V2 b → c.bar β s.V b := by
    intro b hlt hh
    rcases hh with hh | ⟨o', g', x', h1, h2⟩
    · exact .inl hh
    · by_cases ht : T o'
      · rcases ((hto o' g' x' ht h1).2.2.1 b h2).2.2 with h3 | h3
        · omega
        · exact .inr (hH b h3)
      · obtain ⟨h3, h4⟩ := hU ht h1
        exact .inr ⟨o', g', x', h3, by rw [← h4]; exact h2⟩
  have hst : Stays (c.bar β s.V) w w' := fun b hn hlt => hblk b hlt fun hb => hn (.inr (hH b hb))
  refine ⟨⟨hos.trans h.keep.os, htp.trans h.keep.tape, hout.trans h.keep.output, Nat.le_trans h.keep.size hsz, fun k hk hm => ?_⟩, h.low, fun g cs hg => (h.glob g cs hg).mono hst hbar, fun t => ?_, fun o g x hx => ?_, ?_, ?_, ?_⟩
  · rw [← h.keep.block k hk hm]
    refine hblk k (Nat.lt_of_lt_of_le hk h.keep.size) fun hb => ?_
    rcases (hHb k hb).2.1 with h5 | h5
    · omega
    · exact hm h5
  · exact (h.slots t).mono hst hbar hβ hcn
  · by_cases ht : T o
    · exact ⟨(hto o g x ht hx).1, (hto o g x ht hx).2.1⟩
    · obtain ⟨h3, h4⟩ := hU ht hx
      obtain ⟨h1, h2⟩ := h.objs o g x h3
      refine ⟨Nat.lt_of_lt_of_le h1 (hcn o), ?_⟩
      show ORep w' (c.bar β2 V2) β2 V2.cn x (β2 o g)
      rw [h4]
      exact h2.mono hst hbar hβ hcn fun b hbb hlt => hblk b hlt fun hb => ht (hHT o g x b h3 hbb hb)
  · intro o1 o2 g1 g2 x1 x2 b h1 h2 h3 h4
    by_cases t1 : T o1 <;> by_cases t2 : T o2
    · exact hsep _ _ _ _ _ _ b t1 t2 h1 h2 h3 h4
    · obtain ⟨k1, k2⟩ := hU t2 h2
      rw [k2] at h4
      rcases ((hto o1 g1 x1 t1 h1).2.2.1 b h3).2.2 with h5 | h5
      · have := (h.home _ _ _ b k1 h4).1; omega
      · exact absurd (hHT _ _ _ b k1 h4 h5) t2
    · obtain ⟨k1, k2⟩ := hU t1 h1
      rw [k2] at h3
      rcases ((hto o2 g2 x2 t2 h2).2.2.1 b h4).2.2 with h5 | h5
      · have := (h.home _ _ _ b k1 h3).1; omega
      · exact absurd (hHT _ _ _ b k1 h3 h5) t1
    · obtain ⟨k1, k2⟩ := hU t1 h1
      obtain ⟨k3, k4⟩ := hU t2 h2
      rw [k2] at h3; rw [k4] at h4
      exact h.sep _ _ _ _ _ _ b k1 k3 h3 h4
  · intro o1 g1 x1 b h1 h2
    by_cases t1 : T o1
    · obtain ⟨h3, h4, h5⟩ := (hto o1 g1 x1 t1 h1).2.2.1 b h2
      refine ⟨h3, ?_, h4⟩
      rcases h5 with h5 | h5
      · exact .inl (Nat.le_trans h.keep.size h5)
      · exact (hHb b h5).2.1
    · obtain ⟨k1, k2⟩ := hU t1 h1
      rw [k2] at h2
      obtain ⟨h3, h4⟩ := h.home _ _ _ b k1 h2
      exact ⟨Nat.lt_of_lt_of_le h3 hsz, h4⟩
  · intro o1 g1 x1 ho h1
    by_cases t1 : T o1
    · exact (hto o1 g1 x1 t1 h1).2.2.2 ho
    · obtain ⟨k1, k2⟩ := hU t1 h1
      rw [k2]; exact h.pin _ _ _ ho k1

theorem Ren.get_mem : ∀ {ρ : Ren} {o g : Nat} {q : Nat × Nat}, ρ.get o g = some q → ((o, g), q) ∈ ρ
  | [], _, _, _, h => by simp [Ren.get] at h
  | (p, q') :: l, o, g, q, h => by
    simp only [Ren.get] at h
    split at h
    · rename_i hh; obtain ⟨rfl, rfl⟩ := hh; simp at h; subst h; simp
    · exact List.mem_cons_of_mem _ (Ren.get_mem h)

theorem nodupB_spec : ∀ {l : List Nat}, nodupB l = true → l.Nodup
  | [], _ => List.nodup_nil
  | x :: l, h => by
    simp only [nodupB, Bool.and_eq_true, Bool.not_eq_true'] at h
    rw [List.nodup_cons]
    exact ⟨fun hx => by have := h.1; simp [hx] at this, nodupB_spec h.2⟩

theorem nodup_map_inj {α : Type} {f : α → Nat} : ∀ {l : List α}, (l.map f).Nodup → ∀ {x y : α}, x ∈ l → y ∈ l → f x = f y → x = y
  | [], _, _, _, hx, _, _ => by cases hx
  | a :: l, h, x, y, hx, hy, he => by
    rw [List.map_cons, List.nodup_cons] at h
    rcases List.mem_cons.1 hx with hx' | hx' <;> rcases List.mem_cons.1 hy with hy' | hy'
    · rw [hx', hy']
    · exact absurd (by rw [← hx', he]; exact List.mem_map_of_mem hy') h.1
    · exact absurd (by rw [← hy', ← he]; exact List.mem_map_of_mem hx') h.1
    · exact nodup_map_inj h.2 hx' hy' he

theorem handed_spec {V : View} {F : List Nat} {ρ : Ren} : ∀ {V0 : List (Nat × Nat × AObj)}, Handed V F ρ V0 → ∀ o g x, (o, g, x) ∈ V0 → ∃ q y, ρ.get o g = some q ∧ x.ren ρ = some y ∧ V.get q.1 q.2 = some y ∧ q.1 ∈ F
  | [], _, _, _, _, h => by cases h
  | (o', g', x') :: l, h, o, g, x, hm => by
    simp only [Handed] at h
    rcases List.mem_cons.1 hm with he | hm
    · cases he
      obtain ⟨h, _⟩ := h
      split at h
      · rename_i q y hq hy; exact ⟨q, y, hq, hy, h.1, by simpa using h.2⟩
      · exact h.elim
    · exact handed_spec h.2 o g x hm

theorem hasN_spec {V : List (Nat × Nat × AObj)} {o g : Nat} (h : hasN V o g = true) : ∃ x, (o, g, x) ∈ V := by
  unfold hasN at h
  rw [List.any_eq_true] at h
  obtain ⟨⟨o', g', x⟩, hm, he⟩ := h
  simp at he; obtain ⟨rfl, rfl⟩ := he
  exact ⟨x, hm⟩

/-- What 'namesOk' tells. -/
structure Names (cn : Nat → Nat) (dst : Option Nat) (V0 V1 : List (Nat × Nat × AObj)) (ρ ρ2 : Ren) : Prop where
  n1 : ∀ o g q, ρ.get o g = some q → g = 0 ∧ (∃ x, (o, g, x) ∈ V0) ∧ ρ2.get o g = some q
  n2 : ∀ o g q, ρ2.get o g = some q → (∃ x, (o, g, x) ∈ V1) ∧ (ρ.get o g = none → ∃ t, dst = some t ∧ q.1 ∈ newS t ∧ q.1 < lim ∧ q.2 = cn q.1)
  n3 : ∀ o g q o' g' q', ρ2.get o g = some q → ρ2.get o' g' = some q' → q.1 = q'.1 → o = o' ∧ g = g'
  n4 : ∀ p p', p ∈ V1 → p' ∈ V1 → p.1 = p'.1 → p = p'
  n5 : (V1.map (·.1)).Nodup

theorem names_of {cn : Nat → Nat} {dst : Option Nat} {V0 V1 : List (Nat × Nat × AObj)} {ρ ρ2 : Ren} (h : namesOk cn dst V0 V1 ρ ρ2 = true) : Names cn dst V0 V1 ρ ρ2 := by
  simp only [namesOk, Bool.and_eq_true, List.all_eq_true] at h
  obtain ⟨⟨⟨h1, h2⟩, h3⟩, h4⟩ := h
  refine ⟨fun o g q hq => ?_, fun o g q hq => ?_, fun o g q o' g' q' hq hq' he => ?_, fun p p' hp hp' he => nodup_map_inj (nodupB_spec h4) hp hp' he, nodupB_spec h4⟩
  · obtain ⟨⟨k1, k2⟩, k3⟩ := h1 _ (Ren.get_mem hq)
    refine ⟨by simpa using k1, hasN_spec k2, ?_⟩
    split at k3
    · rename_i q' hq'
      simp at k3
      simp only at hq'
      rw [hq']; congr 1; exact Prod.ext k3.1 k3.2
    · cases k3
  · obtain ⟨k1, k2⟩ := h2 _ (Ren.get_mem hq)
    refine ⟨hasN_spec k1, fun hn => ?_⟩
    simp only [hn] at k2
    split at k2
    · rename_i t
      simp only [Bool.and_eq_true, List.contains_iff_mem, decide_eq_true_eq, beq_iff_eq] at k2
      exact ⟨t, rfl, by simpa using k2.1.1, k2.1.2, k2.2⟩
    · cases k2
  · have := nodup_map_inj (nodupB_spec h3) (Ren.get_mem hq) (Ren.get_mem hq') he
    simp only [Prod.mk.injEq] at this
    exact this.1

/-- What the changes come to. -/
theorem back_app {ρ ρ2 : Ren} : ∀ {V1 : List (Nat × Nat × AObj)} {V : View} {ch : Chg}, backC ρ ρ2 V1 = some ch → (V1.map (·.1)).Nodup →
    (∀ o g q o' g' q', ρ2.get o g = some q → ρ2.get o' g' = some q' → q.1 = q'.1 → o = o' ∧ g = g') →
    (∀ o g x q, (o, g, x) ∈ V1 → ρ2.get o g = some q → (∀ q', ρ.get o g = some q' → q.2 < V.cn q.1) ∧ (ρ.get o g = none → q.2 = V.cn q.1)) →
    (∀ o g x, (o, g, x) ∈ V1 → ∃ q y, ρ2.get o g = some q ∧ x.ren ρ2 = some y ∧ (V.app ch).ob q.1 = some (q.2, y) ∧ q.2 < (V.app ch).cn q.1) ∧
    (∀ o', (∀ o g x q, (o, g, x) ∈ V1 → ρ2.get o g = some q → q.1 ≠ o') → (V.app ch).ob o' = V.ob o' ∧ (V.app ch).cn o' = V.cn o') ∧ ∀ o', V.cn o' ≤ (V.app ch).cn o'
  | [], V, ch, h, _, _, _ => by
    simp [backC] at h; subst h
    exact ⟨fun _ _ _ h => (by cases h), fun _ _ => ⟨rfl, rfl⟩, fun _ => Nat.le_refl _⟩
  | (o, g, x) :: l, V, ch, h, hnd, n3, hcn => by
    simp only [backC] at h
    split at h
    · rename_i q y cl hq hy hcl
      simp at h; subst h
      rw [List.map_cons, List.nodup_cons] at hnd
      let hd : Chg := match ρ.get o g with | some _ => .keep q.1 q.2 y | none => .fresh q.1 y
      have hob : ∀ o', o' ≠ q.1 → (V.app hd).ob o' = V.ob o' ∧ (V.app hd).cn o' = V.cn o' := by
        intro o' hne
        show (V.app (match ρ.get o g with | some _ => .keep q.1 q.2 y | none => .fresh q.1 y)).ob o' = _ ∧ (V.app (match ρ.get o g with | some _ => .keep q.1 q.2 y | none => .fresh q.1 y)).cn o' = _
        split <;> simp [View.app, upd, hne]
      have hself : (V.app hd).ob q.1 = some (q.2, y) ∧ q.2 < (V.app hd).cn q.1 ∧ V.cn q.1 ≤ (V.app hd).cn q.1 := by
        obtain ⟨c1, c2⟩ := hcn o g x q (by simp) hq
        show (V.app (match ρ.get o g with | some _ => .keep q.1 q.2 y | none => .fresh q.1 y)).ob q.1 = _ ∧ q.2 < (V.app (match ρ.get o g with | some _ => .keep q.1 q.2 y | none => .fresh q.1 y)).cn q.1 ∧ _ ≤ (V.app (match ρ.get o g with | some _ => .keep q.1 q.2 y | none => .fresh q.1 y)).cn q.1
        split
        · rename_i q' hq'; exact ⟨by simp [View.app, upd], c1 q' hq', Nat.le_refl _⟩
        · rename_i hn; have := c2 hn; simp [View.app, upd, this]
      have hne : ∀ o' g' x' q', (o', g', x') ∈ l → ρ2.get o' g' = some q' → q'.1 ≠ q.1 := fun o' g' x' q' hm hq' he => by
        have := (n3 _ _ _ _ _ _ hq' hq he).1
        subst this
        exact hnd.1 (List.mem_map_of_mem (f := (·.1)) hm)
      obtain ⟨i1, i2, i3⟩ := back_app (V := V.app hd) hcl hnd.2 n3 fun o' g' x' q' hm hq' => by
        rw [(hob q'.1 (hne o' g' x' q' hm hq')).2]
        exact hcn o' g' x' q' (List.mem_cons_of_mem _ hm) hq'
      have hq1 := i2 q.1 fun o' g' x' q' hm hq' => hne o' g' x' q' hm hq'
      refine ⟨fun o' g' x' hm => ?_, fun o' ho' => ?_, fun o' => ?_⟩
      · rcases List.mem_cons.1 hm with he | hm
        · cases he
          refine ⟨q, y, hq, hy, ?_, ?_⟩
          · show ((V.app hd).app cl).ob q.1 = _; rw [hq1.1]; exact hself.1
          · show _ < ((V.app hd).app cl).cn q.1; rw [hq1.2]; exact hself.2.1
        · exact i1 o' g' x' hm
      · obtain ⟨j1, j2⟩ := i2 o' fun o1 g1 x1 q1 hm hq1 => ho' o1 g1 x1 q1 (List.mem_cons_of_mem _ hm) hq1
        have hne' : o' ≠ q.1 := fun e => ho' o g x q (by simp) hq e.symm
        exact ⟨j1.trans (hob o' hne').1, j2.trans (hob o' hne').2⟩
      · refine Nat.le_trans ?_ (i3 o')
        by_cases he : o' = q.1
        · subst he; exact hself.2.2
        · rw [(hob o' he).2]; exact Nat.le_refl _
    · cases h

theorem argsM_get {ρ : Ren} : ∀ {ys xs : List AV}, argsM ρ ys xs → xs.length = ys.length ∧ ∀ (i : Nat) (y : AV), ys[i]? = some y → ∃ x, xs[i]? = some x ∧ argM ρ y x
  | [], [], _ => ⟨rfl, fun i y h => by simp at h⟩
  | [], _ :: _, h => h.elim
  | _ :: _, [], h => h.elim
  | y :: ys, x :: xs, h => by
    obtain ⟨h1, h2⟩ := argsM_get h.2
    refine ⟨by simp [h1], fun i z hz => ?_⟩
    cases i with
    | zero => simp at hz; subst hz; exact ⟨x, by simp, h.1⟩
    | succ i => simp at hz; obtain ⟨w, hw, hm⟩ := h2 i z hz; exact ⟨w, by simpa using hw, hm⟩

open Classical in
theorem sound_callM (h : Rel E c β s tm w) {dst : Option Nat} {f : FuncId} {xs : List AV} {us : Array Value} (hus : us.size = xs.length) (hxs : ∀ (i : Nat) (x : AV) (v : Value), xs[i]? = some x → us[i]? = some v → AVRep w (c.bar β s.V) β s.V.cn x v)
    {F : List Nat} {V0 V1 : List (Nat × Nat × AObj)} {cxs : List AV} {r r' : AV} {ch : Chg} {ρ ρ2 : Ren} (hren : argsM ρ cxs xs) (hcall : CallM E f V0 cxs V1 r) (hhand : Handed s.V F ρ V0) (hnm : namesOk s.V.cn dst V0 V1 ρ ρ2 = true)
    (hr : r.ren ρ2 = some r') (hback : backC ρ ρ2 V1 = some ch) (hK : K r' ch) :
    Calls E.P f us w fun e w'' => ∃ u v ch β', e = .returned u ∧ K v ch ∧ Rel E c β' ⟨s.sl, s.V.app ch⟩ tm w'' ∧ AVRep w'' (c.bar β' (s.V.app ch)) β' (s.V.app ch).cn v u := by
  have hH := handed_spec hhand
  have N := names_of hnm
  obtain ⟨hrlen, hrget⟩ := argsM_get hren
  obtain ⟨βc, hβc⟩ : ∃ βc : Nat → Nat → Value, βc = fun o g => match ρ.get o g with | some q => β q.1 q.2 | none => undef := ⟨_, rfl⟩
  have hβq : ∀ o g q, ρ.get o g = some q → βc o g = β q.1 q.2 := fun o g q hq => by rw [hβc]; simp only [hq]
  obtain ⟨H, hHd⟩ : ∃ H : Nat → Prop, H = OwnsL βc V0 := ⟨_, rfl⟩
  have hown : ∀ o g x, (o, g, x) ∈ V0 → ∃ q y, ρ.get o g = some q ∧ x.ren ρ = some y ∧ s.V.ob q.1 = some (q.2, y) ∧ βc o g = β q.1 q.2 := fun o g x hm => by
    obtain ⟨q, y, h1, h2, h3, _⟩ := hH o g x hm
    exact ⟨q, y, h1, h2, View.get_some h3, hβq o g q h1⟩
  have hHo : ∀ b, H b → ∃ o g x q y, (o, g, x) ∈ V0 ∧ ρ.get o g = some q ∧ s.V.ob q.1 = some (q.2, y) ∧ rowBlk (β q.1 q.2) = some b := fun b hb => by
    rw [hHd] at hb
    obtain ⟨o, g, x, hm, hbb⟩ := hb
    obtain ⟨q, y, h1, _, h3, h4⟩ := hown o g x hm
    exact ⟨o, g, x, q, y, hm, h1, h3, by rw [← h4]; exact hbb⟩
  let fbc : Nat → Prop := fun b => c.bar β s.V b ∧ ¬ H b
  have hbarc : ∀ b, (fbc b ∨ OwnsL βc V0 b) → c.bar β s.V b := by
    intro b hb
    rcases hb with hb | hb
    · exact hb.1
    · rw [← hHd] at hb
      obtain ⟨o, g, x, q, y, _, _, h3, h4⟩ := hHo b hb
      exact .inr ⟨_, _, _, h3, h4⟩
  have hnc : ∀ o g q, ρ.get o g = some q → βc o g = β q.1 q.2 ∧ g < 1 := fun o g q hq => ⟨hβq o g q hq, by have := (N.n1 o g q hq).1; omega⟩
  have hAt : At w fbc βc (fun _ => 1) V0 := by
    refine ⟨fun o g x hm => ?_, fun o g x o' g' x' b hm hm' hb hb' => ?_, fun o g x b hm hb => ?_⟩
    · obtain ⟨q, y, h1, h2, h3, h4⟩ := hown o g x hm
      refine ⟨(hnc o g q h1).2, ?_⟩
      rw [h4]
      exact (h.objs _ _ _ h3).2.unren (fun b _ hb => hbarc b hb) hnc h2
    · obtain ⟨q, y, h1, h2, h3, h4⟩ := hown o g x hm
      obtain ⟨q', y', h1', h2', h3', h4'⟩ := hown o' g' x' hm'
      rw [h4] at hb; rw [h4'] at hb'
      have := h.sep _ _ _ _ _ _ b h3 h3' hb hb'
      exact N.n3 _ _ _ _ _ _ (N.n1 _ _ _ h1).2.2 (N.n1 _ _ _ h1').2.2 this
    · obtain ⟨q, y, h1, h2, h3, h4⟩ := hown o g x hm
      have hb2 := hb
      rw [h4] at hb2
      exact ⟨(h.home _ _ _ b h3 hb2).1, fun hf => hf.2 (by rw [hHd]; exact ⟨o, g, x, hm, hb⟩)⟩
  refine (hcall w fbc βc us (fun b hb => bar_lt h hb.1) (fun g cs hg => (h.glob g cs hg).mono (Stays.refl _ _) fun b _ hb => hbarc b hb) hAt (by rw [hus]; exact hrlen) (fun i x v hx hv => ?_)).mono fun e w' hpost => ?_
  · obtain ⟨y, hy, hxy⟩ := hrget i x hx
    have hrep := hxs i y v hy hv
    cases x with
    | d z => exact .d _ _ ((toD1_rep hrep hxy).1.mono (Stays.refl _ _) fun b _ hb => hbarc b hb)
    | _ => exact hrep.unren (fun b _ hb => hbarc b hb) hnc hxy
  obtain ⟨u, β1, cn1, he, e1, e2, e3, e4, e5, hAt1, e6, e7, e8⟩ := hpost
  rw [← hHd] at e5
  -- the names behind the call
  obtain ⟨a1, a2, a3⟩ := back_app (V := s.V) hback N.n5 N.n3 fun o g x q hm hq => ⟨fun q' hq' => by
      have hqq := (N.n1 _ _ _ hq').2.2
      rw [hq] at hqq; simp at hqq; subst hqq
      obtain ⟨x0, hm0⟩ := (N.n1 _ _ _ hq').2.1
      obtain ⟨q2, y2, h1, _, h3, _⟩ := hown o g x0 hm0
      rw [hq'] at h1; simp at h1; subst h1
      exact (h.objs _ _ _ h3).1, fun hn => by obtain ⟨t, _, _, _, h5⟩ := (N.n2 _ _ _ hq).2 hn; exact h5⟩
  obtain ⟨β2, hβ2d⟩ : ∃ β2 : Nat → Nat → Value, β2 = fun o' g' => if hh : ∃ p : Nat × Nat, ρ2.get p.1 p.2 = some (o', g') then β1 hh.choose.1 hh.choose.2 else β o' g' := ⟨_, rfl⟩
  have hβ2q : ∀ o g q, ρ2.get o g = some q → β2 q.1 q.2 = β1 o g := by
    intro o g q hq
    have hex : ∃ p : Nat × Nat, ρ2.get p.1 p.2 = some (q.1, q.2) := ⟨(o, g), hq⟩
    rw [hβ2d]; simp only [hex, dif_pos]
    have hs := hex.choose_spec
    obtain ⟨k1, k2⟩ := N.n3 _ _ _ _ _ _ hs hq rfl
    rw [k1, k2]
  have hold : ∀ o g q, ρ.get o g = some q → β1 o g = β q.1 q.2 := fun o g q hq => by
    obtain ⟨x0, hm0⟩ := (N.n1 _ _ _ hq).2.1
    rw [(e6 o g x0 hm0).2, hβq o g q hq]
  have hβ2lt : ∀ o' g', g' < s.V.cn o' → β2 o' g' = β o' g' := by
    intro o' g' hlt
    by_cases hex : ∃ p : Nat × Nat, ρ2.get p.1 p.2 = some (o', g')
    · obtain ⟨p, hp⟩ := hex
      rw [show β2 o' g' = β1 p.1 p.2 from hβ2q _ _ _ hp]
      cases hr : ρ.get p.1 p.2 with
      | some q =>
        have := (N.n1 _ _ _ hr).2.2
        rw [hp] at this; simp at this; subst this
        exact hold _ _ _ hr
      | none =>
        obtain ⟨t, _, _, _, h5⟩ := (N.n2 _ _ _ hp).2 hr
        simp only at h5; omega
    · rw [hβ2d]; simp only [hex, dif_neg, not_false_eq_true]
  let T : Nat → Prop := fun o' => ∃ o g x q, (o, g, x) ∈ V1 ∧ ρ2.get o g = some q ∧ q.1 = o'
  have hT0 : ∀ o g x q, (o, g, x) ∈ V0 → ρ.get o g = some q → T q.1 := fun o g x q hm hq => by
    obtain ⟨⟨x', hx'⟩, _⟩ := e6 o g x hm
    exact ⟨o, g, x', q, hx', (N.n1 _ _ _ hq).2.2, rfl⟩
  have hTin : ∀ {o' g' y'}, T o' → (s.V.app ch).ob o' = some (g', y') → ∃ o g x, (o, g, x) ∈ V1 ∧ ρ2.get o g = some (o', g') ∧ x.ren ρ2 = some y' ∧ g' < (s.V.app ch).cn o' := by
    intro o' g' y' ⟨o, g, x, q, hm, hq, he⟩ hob
    obtain ⟨q', y, h1, h2, h3, h4⟩ := a1 o g x hm
    rw [hq] at h1; simp at h1; subst h1
    subst he
    rw [hob] at h3; simp at h3
    obtain ⟨rfl, rfl⟩ := h3
    exact ⟨o, g, x, hm, hq, h2, h4⟩
  have hUn : ∀ o', ¬ T o' → (s.V.app ch).ob o' = s.V.ob o' := fun o' ht => (a2 o' fun o g x q hm hq he => ht ⟨o, g, x, q, hm, hq, he⟩).1
  have hHT : ∀ o g x b, s.V.ob o = some (g, x) → rowBlk (β o g) = some b → H b → T o := fun o' g' x' b hob hb hHb => by
    obtain ⟨o, g, x, q, y, hm, hq, h3, h4⟩ := hHo b hHb
    have := h.sep _ _ _ _ _ _ b h3 hob h4 hb
    subst this
    exact hT0 o g x q hm hq
  have hcfb : ∀ b, c.fb b → fbc b := fun b hb => ⟨.inl hb, fun hHb => by
    obtain ⟨o, g, x, q, y, hm, hq, h3, h4⟩ := hHo b hHb
    exact (h.home _ _ _ b h3 h4).2.2 hb⟩
  have hbar2 : ∀ b, c.bar β2 (s.V.app ch) b → fbc b ∨ OwnsL β1 V1 b := by
    intro b hb
    rcases hb with hb | ⟨o', g', x', h1, h2⟩
    · exact .inl (hcfb b hb)
    · by_cases ht : T o'
      · obtain ⟨o, g, x, hm, hq, _, _⟩ := hTin ht h1
        exact .inr ⟨o, g, x, hm, by rw [← hβ2q _ _ _ hq]; exact h2⟩
      · have hob := h1
        rw [hUn o' ht] at hob
        have hb' := h2
        rw [hβ2lt o' g' (h.objs _ _ _ hob).1] at hb'
        exact .inl ⟨.inr ⟨o', g', x', hob, hb'⟩, fun hHb => ht (hHT o' g' x' b hob hb' hHb)⟩
  have hn2 : ∀ o g q, ρ2.get o g = some q → β2 q.1 q.2 = β1 o g ∧ q.2 < (s.V.app ch).cn q.1 := fun o g q hq => by
    obtain ⟨x, hm⟩ := (N.n2 _ _ _ hq).1
    obtain ⟨q', y, h1, h2, h3, h4⟩ := a1 o g x hm
    rw [hq] at h1; simp at h1; subst h1
    exact ⟨hβ2q _ _ _ hq, h4⟩
  refine ⟨u, r', ch, β2, he, hK, ?_, e8.ren (fun b _ hb => hbar2 b hb) hn2 hr⟩
  refine Rel.call h H T e1 e2 e3 e4 e5 (fun b hb => ?_) hHT a3 hβ2lt hUn (fun o' g' y' ht hob => ?_) (fun o1 o2 g1 g2 x1 x2 b t1 t2 h1 h2 h3 h4 => ?_)
  · obtain ⟨o, g, x, q, y, hm, hq, h3, h4⟩ := hHo b hb
    exact ⟨_, _, _, h3, h4⟩
  · obtain ⟨o, g, x, hm, hq, hy, hlt⟩ := hTin ht hob
    have hval : β2 o' g' = β1 o g := hβ2q _ _ _ hq
    refine ⟨hlt, ?_, fun b hb => ?_, fun hl => ?_⟩
    · rw [hval]; exact (hAt1.objs o g x hm).2.ren (fun b _ hb => hbar2 b hb) hn2 hy
    · rw [hval] at hb
      obtain ⟨k1, k2⟩ := hAt1.home o g x b hm hb
      refine ⟨k1, fun hf => k2 (hcfb b hf), ?_⟩
      rw [hHd]; exact e7 o g x b hm hb
    · cases hro : ρ.get o g with
      | some q =>
        have := (N.n1 _ _ _ hro).2.2
        rw [hq] at this; simp at this; subst this
        obtain ⟨x0, hm0⟩ := (N.n1 _ _ _ hro).2.1
        obtain ⟨q2, y2, k1, _, k3, _⟩ := hown o g x0 hm0
        rw [hro] at k1; simp at k1; subst k1
        rw [hval, hold _ _ _ hro]
        exact h.pin _ _ _ hl k3
      | none =>
        obtain ⟨t, _, _, k4, _⟩ := (N.n2 _ _ _ hq).2 hro
        simp only at k4; omega
  · obtain ⟨o, g, x, hm, hq, _, _⟩ := hTin t1 h1
    obtain ⟨o', g', x', hm', hq', _, _⟩ := hTin t2 h2
    rw [show β2 o1 g1 = β1 o g from hβ2q _ _ _ hq] at h3
    rw [show β2 o2 g2 = β1 o' g' from hβ2q _ _ _ hq'] at h4
    obtain ⟨rfl, rfl⟩ := hAt1.sep _ _ _ _ _ _ b hm hm' h3 h4
    rw [hq] at hq'; simp at hq'; exact hq'.1
end
end Go.Pw
