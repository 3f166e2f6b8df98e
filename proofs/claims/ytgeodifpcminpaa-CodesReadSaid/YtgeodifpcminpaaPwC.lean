/- How an abstract state stands to a world; what stays true as the world goes on. -/
import Derived.Test.YtgeodifpcminpaaPwB
set_option linter.all false
namespace Go.Pw
open Go.RowKit

theorem DRep.oneCell {w : World} {fb : Nat → Prop} {d : D} {v : Value} (h : DRep w fb d v) (h1 : d.one = true) : v.oneCell' = true := by
  cases h <;> first | rfl | simp [D.one] at h1

theorem AVRep.mono {w w' : World} {fb fb' : Nat → Prop} {β β' : Nat → Nat → Value} {cn cn' : Nat → Nat} (hw : Stays fb w w')
    (hf : ∀ b, b < w.heap.size → fb' b → fb b) (hβ : ∀ o g, g < cn o → β' o g = β o g) (hcn : ∀ o, cn o ≤ cn' o)
    {a : AV} {v : Value} (h : AVRep w fb β cn a v) : AVRep w' fb' β' cn' a v := by
  induction h with
  | d x v h => exact .d x v (h.mono hw hf)
  | ex xs a h => exact .ex xs a (h.mono hw hf)
  | agg cs vs hl h1 h ih => exact .agg cs vs hl h1 ih
  | ptr o g off b hg h => exact .ptr o g off b (Nat.lt_of_lt_of_le hg (hcn o)) ((hβ o g hg).trans h)
  | rptr o g es i off b b0 n cap hg h => exact .rptr o g es i off b b0 n cap (Nat.lt_of_lt_of_le hg (hcn o)) ((hβ o g hg).trans h)
  | dptr cs off b base vs hb hne h1 hc hv =>
    cases cs with
    | nil => exact absurd rfl hne
    | cons x xs =>
      have hlt : b < w.heap.size := lt_of_cell (hc 0 x (by simp))
      exact .dptr _ off b base vs (fun hh => hb (hf b hlt hh)) hne h1 (fun j c h1 => hw.cell hb (hc j c h1)) (fun j c h1 => (hv j c h1).mono hw hf)
  | own o g hg h1 => rw [← hβ o g hg] at h1 ⊢; exact .own o g (Nat.lt_of_lt_of_le hg (hcn o)) h1
  | map o g hg h1 => rw [← hβ o g hg] at h1 ⊢; exact .map o g (Nat.lt_of_lt_of_le hg (hcn o)) h1
  | fn f cs vs hl h ih => exact .fn f cs vs hl ih
  | tup cs vs hl h ih => exact .tup cs vs hl ih
  | undef v => exact .undef v

structure Ctx where
  w0 : World
  fb : Nat → Prop
  mine : Nat → Prop
  b0 : Nat → Value

def Owns (β : Nat → Nat → Value) (V : View) (b : Nat) : Prop := ∃ o g x, V.ob o = some (g, x) ∧ rowBlk (β o g) = some b
def Ctx.bar (c : Ctx) (β : Nat → Nat → Value) (V : View) (b : Nat) : Prop := c.fb b ∨ Owns β V b

structure PSt where
  sl : Nat → AV
  V : View

/-- What was there when the call began is as it was, but for what was handed over. -/
structure Keep (c : Ctx) (w : World) : Prop where
  os : w.os = c.w0.os
  tape : w.tape = c.w0.tape
  output : w.output = c.w0.output
  size : c.w0.heap.size ≤ w.heap.size
  block : ∀ k, k < c.w0.heap.size → ¬ c.mine k → w.heap[k]? = c.w0.heap[k]?

/-- THE ABSTRACT STATE s DESCRIBES THE SLOTS AND THE WORLD. -/
structure Rel (E : Env) (c : Ctx) (β : Nat → Nat → Value) (s : PSt) (tm : Array Value) (w : World) : Prop where
  keep : Keep c w
  low : ∀ b, c.fb b → b < c.w0.heap.size ∧ ¬ c.mine b
  glob : GOK E w (c.bar β s.V)
  slots : ∀ t, AVRep w (c.bar β s.V) β s.V.cn (s.sl t) (tm.getD t undef)
  objs : ∀ o g x, s.V.ob o = some (g, x) → g < s.V.cn o ∧ ORep w (c.bar β s.V) β s.V.cn x (β o g)
  sep : ∀ o o' g g' x x' b, s.V.ob o = some (g, x) → s.V.ob o' = some (g', x') → rowBlk (β o g) = some b → rowBlk (β o' g') = some b → o = o'
  home : ∀ o g x b, s.V.ob o = some (g, x) → rowBlk (β o g) = some b → b < w.heap.size ∧ (c.w0.heap.size ≤ b ∨ c.mine b) ∧ ¬ c.fb b
  pin : ∀ o g x, lim ≤ o → s.V.ob o = some (g, x) → β o g = c.b0 o

theorem Stays.of_below {fb : Nat → Prop} {w w' : World} (h : Below w.heap.size w w') : Stays fb w w' := fun b _ hlt => h.block b hlt

theorem RowRep.mono {w w' : World} {fb fb' : Nat → Prop} {ety es nil xs v} (hw : Stays fb w w') (hf : ∀ b, b < w.heap.size → fb' b → fb b)
    (hv : ∀ b, rowBlk v = some b → b < w.heap.size → w'.heap[b]? = w.heap[b]?) (h : RowRep w fb ety es nil xs v) : RowRep w' fb' ety es nil xs v := by
  rcases h with ⟨h1, h2, h3⟩ | ⟨h1, b, off, cap, cur, h2, h3, h4, h5, h6, h7, h8, h10, h9⟩
  · exact .inl ⟨h1, h2, h3⟩
  · subst h2
    have hlt : b < w.heap.size := (Array.getElem?_eq_some_iff.1 h3).1
    refine .inr ⟨h1, b, off, cap, cur, rfl, ?_, h4, h5, h6, h7, h8, h10, fun i x j c hi hj => ?_⟩
    · rw [hv b rfl hlt]; exact h3
    · obtain ⟨u, hu, hd⟩ := h9 i x j c hi hj
      exact ⟨u, hu, hd.mono hw hf⟩

theorem ORep.mono {w w' : World} {fb fb' : Nat → Prop} {β β' : Nat → Nat → Value} {cn cn' : Nat → Nat} (hw : Stays fb w w')
    (hf : ∀ b, b < w.heap.size → fb' b → fb b) (hβ : ∀ o g, g < cn o → β' o g = β o g) (hcn : ∀ o, cn o ≤ cn' o)
    {x : AObj} {v : Value} (hv : ∀ b, rowBlk v = some b → b < w.heap.size → w'.heap[b]? = w.heap[b]?) (h : ORep w fb β cn x v) : ORep w' fb' β' cn' x v := by
  cases h with
  | cells xs b cur e hb hl h1 h =>
    have hlt : b < w.heap.size := (Array.getElem?_eq_some_iff.1 hb).1
    exact .cells xs b cur e ((hv b rfl hlt).trans hb) hl h1 fun i x u hx hu => (h i x u hx hu).mono hw hf hβ hcn
  | row ety es nil xs v h => exact .row _ _ _ _ _ (h.mono hw hf hv)
  | map tys kvs b es hb hl h =>
    have hlt : b < w.heap.size := (Array.getElem?_eq_some_iff.1 hb).1
    exact .map tys kvs b es ((hv b rfl hlt).trans hb) hl fun i kv e hk he => by
      obtain ⟨h1, h2, h3, h4⟩ := h i kv e hk he
      exact ⟨h1, h2.mono hw hf, h3.mono hw hf, h4⟩

theorem Keep.grow {c : Ctx} {w w' : World} (h : Keep c w) (hg : Below w.heap.size w w') : Keep c w' :=
  ⟨hg.os.trans h.os, hg.tape.trans h.tape, hg.output.trans h.output, Nat.le_trans h.size hg.size,
    fun k hk hm => (hg.block k (Nat.lt_of_lt_of_le hk h.size)).trans (h.block k hk hm)⟩

theorem GOK.mono {E : Env} {w w' : World} {fb : Nat → Prop} (h : GOK E w fb) (hw : Stays fb w w') : GOK E w' fb :=
  fun g cs hg => (h g cs hg).mono hw (fun _ _ h => h)

/-- New blocks alone. -/
theorem Rel.grow {E : Env} {c : Ctx} {β : Nat → Nat → Value} {s : PSt} {tm : Array Value} {w w' : World} (h : Rel E c β s tm w) (hg : Below w.heap.size w w') : Rel E c β s tm w' := by
  refine ⟨h.keep.grow hg, h.low, h.glob.mono (.of_below hg), fun t => ?_, fun o g x hx => ?_, h.sep, fun o g x b hx hb => ?_, h.pin⟩
  · exact (h.slots t).mono (.of_below hg) (fun _ _ h => h) (fun _ _ _ => rfl) (fun _ => Nat.le_refl _)
  · obtain ⟨h1, h2⟩ := h.objs o g x hx
    exact ⟨h1, h2.mono (.of_below hg) (fun _ _ h => h) (fun _ _ _ => rfl) (fun _ => Nat.le_refl _) fun b _ hlt => hg.block b hlt⟩
  · obtain ⟨h1, h2⟩ := h.home o g x b hx hb
    exact ⟨Nat.lt_of_lt_of_le h1 hg.size, h2⟩

theorem getD_set {tm : Array Value} {t : Nat} {u d : Value} (ht : t < tm.size) (i : Nat) : (tm.setIfInBounds t u).getD i d = if i = t then u else tm.getD i d := by
  by_cases h : i = t
  · subst h; simp [Array.getD_eq_getD_getElem?, ht]
  · simp [Array.getD_eq_getD_getElem?, Array.getElem?_setIfInBounds_ne (Ne.symm h), h]

/-- A slot is written. -/
theorem Rel.set {E : Env} {c : Ctx} {β : Nat → Nat → Value} {s : PSt} {tm : Array Value} {w : World} (h : Rel E c β s tm w) {t : Nat} {v : AV} {u : Value}
    (ht : t < tm.size) (hv : AVRep w (c.bar β s.V) β s.V.cn v u) : Rel E c β { s with sl := upd s.sl t v } (tm.setIfInBounds t u) w := by
  refine ⟨h.keep, h.low, h.glob, fun i => ?_, h.objs, h.sep, h.home, h.pin⟩
  rw [getD_set ht]
  simp only [upd]
  split
  · exact hv
  · exact h.slots i

def upd2 (β : Nat → Nat → Value) (o g : Nat) (v : Value) : Nat → Nat → Value := fun o' g' => if o' = o ∧ g' = g then v else β o' g'

theorem upd2_same (β : Nat → Nat → Value) (o g : Nat) (v : Value) : upd2 β o g v o g = v := by simp [upd2]
theorem upd2_lt {β : Nat → Nat → Value} {cn : Nat → Nat} {o : Nat} {v : Value} (o' g' : Nat) (h : g' < cn o') : upd2 β o (cn o) v o' g' = β o' g' := by
  simp only [upd2]
  split
  · rename_i hh; obtain ⟨rfl, rfl⟩ := hh; omega
  · rfl

/-- What has changed of the world lies in the block of one value. -/
structure Only (v : Value) (w w' : World) : Prop where
  os : w'.os = w.os
  tape : w'.tape = w.tape
  output : w'.output = w.output
  size : w.heap.size ≤ w'.heap.size
  block : ∀ k, k < w.heap.size → rowBlk v ≠ some k → w'.heap[k]? = w.heap[k]?

theorem Only.of_below {w w' : World} (v : Value) (h : Below w.heap.size w w') : Only v w w' := ⟨h.os, h.tape, h.output, h.size, fun k hk _ => h.block k hk⟩

/-- AN OBJECT IS MADE AT A SITE: in a new block, or in that of the object which was there. -/
theorem Rel.fresh {E : Env} {c : Ctx} {β : Nat → Nat → Value} {s : PSt} {tm : Array Value} {w w' : World} (h : Rel E c β s tm w) {o : Nat} {x : AObj} {vo : Value} (hlim : o < lim)
    (hw : Only vo w w') (hb : ∀ b, rowBlk vo = some b → b < w'.heap.size ∧ (w.heap.size ≤ b ∨ ∃ g x, s.V.ob o = some (g, x) ∧ rowBlk (β o g) = some b))
    (ho : ∀ β' fb', β' = upd2 β o (s.V.cn o) vo → fb' = (c.bar β' (s.V.app (.fresh o x))) → (∀ b, b < w.heap.size → fb' b → c.bar β s.V b) →
      ORep w' fb' β' (s.V.app (.fresh o x)).cn x vo) :
    Rel E c (upd2 β o (s.V.cn o) vo) { s with V := s.V.app (.fresh o x) } tm w' := by
  have hob : (s.V.app (.fresh o x)).ob = upd s.V.ob o (some (s.V.cn o, x)) := rfl
  have hcn : (s.V.app (.fresh o x)).cn = upd s.V.cn o (s.V.cn o + 1) := rfl
  have hle : ∀ k, s.V.cn k ≤ (s.V.app (.fresh o x)).cn k := fun k => by rw [hcn]; simp only [upd]; split <;> simp_all
  have hβ : ∀ k g, g < s.V.cn k → upd2 β o (s.V.cn o) vo k g = β k g := fun k g hk => upd2_lt k g hk
  have hbar : ∀ b, b < w.heap.size → c.bar (upd2 β o (s.V.cn o) vo) (s.V.app (.fresh o x)) b → c.bar β s.V b := by
    intro b hlt hh
    rcases hh with hh | ⟨o', g', x', h1, h2⟩
    · exact .inl hh
    · rw [hob] at h1
      simp only [upd] at h1
      split at h1
      · rename_i heq
        simp only [Option.some.injEq, Prod.mk.injEq] at h1
        obtain ⟨rfl, rfl⟩ := h1
        subst heq
        rw [upd2_same] at h2
        rcases (hb b h2).2 with h3 | ⟨g, x, h3, h4⟩
        · omega
        · exact .inr ⟨_, g, x, h3, h4⟩
      · have := (h.objs o' g' x' h1).1
        rw [upd2_lt o' g' this] at h2
        exact .inr ⟨o', g', x', h1, h2⟩
  have hst : Stays (c.bar β s.V) w w' := by
    intro b hn hlt
    refine hw.block b hlt fun he => ?_
    rcases (hb b he).2 with h3 | ⟨g, x, h3, h4⟩
    · omega
    · exact hn (.inr ⟨o, g, x, h3, h4⟩)
  refine ⟨⟨hw.os.trans h.keep.os, hw.tape.trans h.keep.tape, hw.output.trans h.keep.output, Nat.le_trans h.keep.size hw.size, fun k hk hm => ?_⟩, h.low, ?_, fun t => ?_, fun o' g' x' hx => ?_, ?_, ?_, ?_⟩
  · rw [← h.keep.block k hk hm]
    refine hw.block k (Nat.lt_of_lt_of_le hk h.keep.size) fun he => ?_
    rcases (hb k he).2 with h3 | ⟨g, x, h3, h4⟩
    · have := h.keep.size; omega
    · rcases (h.home o g x k h3 h4).2.1 with h5 | h5
      · omega
      · exact hm h5
  · intro g cs hg
    exact (h.glob g cs hg).mono hst hbar
  · exact (h.slots t).mono hst hbar hβ hle
  · rw [hob] at hx
    simp only [upd] at hx
    split at hx
    · rename_i heq
      simp only [Option.some.injEq, Prod.mk.injEq] at hx
      obtain ⟨rfl, rfl⟩ := hx
      subst heq
      rw [upd2_same]
      exact ⟨by rw [hcn]; simp [upd], ho _ _ rfl rfl hbar⟩
    · rename_i hne
      obtain ⟨h1, h2⟩ := h.objs o' g' x' hx
      rw [upd2_lt o' g' h1]
      refine ⟨Nat.lt_of_lt_of_le h1 (hle _), h2.mono hst hbar hβ hle fun b hbb hlt => hw.block b hlt fun he => ?_⟩
      rcases (hb b he).2 with h3 | ⟨g, x, h3, h4⟩
      · omega
      · exact hne (h.sep o' o g' g x' x b hx h3 hbb h4)
  · intro o1 o2 g1 g2 x1 x2 b h1 h2 h3 h4
    rw [hob] at h1 h2
    simp only [upd] at h1 h2
    split at h1 <;> split at h2
    · simp_all
    · rename_i e1 e2
      simp only [Option.some.injEq, Prod.mk.injEq] at h1
      obtain ⟨rfl, rfl⟩ := h1
      subst e1
      rw [upd2_same] at h3
      have h5 := (h.objs _ _ _ h2).1
      rw [upd2_lt _ _ h5] at h4
      rcases (hb b h3).2 with h6 | ⟨g, x, h6, h7⟩
      · have := (h.home _ _ _ b h2 h4).1; omega
      · exact (h.sep _ _ _ _ _ _ b h6 h2 h7 h4)
    · rename_i e1 e2
      simp only [Option.some.injEq, Prod.mk.injEq] at h2
      obtain ⟨rfl, rfl⟩ := h2
      subst e2
      rw [upd2_same] at h4
      have h5 := (h.objs _ _ _ h1).1
      rw [upd2_lt _ _ h5] at h3
      rcases (hb b h4).2 with h6 | ⟨g, x, h6, h7⟩
      · have := (h.home _ _ _ b h1 h3).1; omega
      · exact (h.sep _ _ _ _ _ _ b h1 h6 h3 h7)
    · have h5 := (h.objs _ _ _ h1).1
      have h6 := (h.objs _ _ _ h2).1
      rw [upd2_lt _ _ h5] at h3
      rw [upd2_lt _ _ h6] at h4
      exact h.sep _ _ _ _ _ _ b h1 h2 h3 h4
  · intro o1 g1 x1 b h1 h2
    rw [hob] at h1
    simp only [upd] at h1
    split at h1
    · rename_i e1
      simp only [Option.some.injEq, Prod.mk.injEq] at h1
      obtain ⟨rfl, rfl⟩ := h1
      subst e1
      rw [upd2_same] at h2
      obtain ⟨h3, h4⟩ := hb b h2
      refine ⟨h3, ?_⟩
      rcases h4 with h4 | ⟨g, x, h4, h5⟩
      · refine ⟨.inl (Nat.le_trans h.keep.size h4), fun hf => ?_⟩
        have := (h.low b hf).1
        have := h.keep.size
        omega
      · exact (h.home _ g x b h4 h5).2
    · have h3 := (h.objs _ _ _ h1).1
      rw [upd2_lt _ _ h3] at h2
      obtain ⟨h4, h5⟩ := h.home _ _ _ b h1 h2
      exact ⟨Nat.lt_of_lt_of_le h4 hw.size, h5⟩
  · intro o1 g1 x1 ho1 h1
    rw [hob] at h1
    simp only [upd] at h1
    split at h1
    · rename_i e1; subst e1; omega
    · rw [upd2_lt _ _ (h.objs _ _ _ h1).1]; exact h.pin _ _ _ ho1 h1

/-- AN OBJECT IS CHANGED IN ITS OWN BLOCK. -/
theorem Rel.kept {E : Env} {c : Ctx} {β : Nat → Nat → Value} {s : PSt} {tm : Array Value} {w w' : World} (h : Rel E c β s tm w) {o g : Nat} {x x0 : AObj}
    (hx0 : s.V.ob o = some (g, x0)) (hw : Only (β o g) w w') 
    (ho : ∀ fb', (∀ b, b < w.heap.size → fb' b → c.bar β s.V b) → fb' = c.bar β (s.V.app (.keep o g x)) → ORep w' fb' β s.V.cn x (β o g)) :
    Rel E c β { s with V := s.V.app (.keep o g x) } tm w' := by
  have hob : (s.V.app (.keep o g x)).ob = upd s.V.ob o (some (g, x)) := rfl
  have hcn : (s.V.app (.keep o g x)).cn = s.V.cn := rfl
  have hback : ∀ o1 g1 x1, (s.V.app (.keep o g x)).ob o1 = some (g1, x1) → ∃ x2, s.V.ob o1 = some (g1, x2) := by
    intro o1 g1 x1 h1
    rw [hob] at h1
    simp only [upd] at h1
    split at h1
    · rename_i e1; subst e1
      simp only [Option.some.injEq, Prod.mk.injEq] at h1
      obtain ⟨rfl, rfl⟩ := h1
      exact ⟨x0, hx0⟩
    · exact ⟨x1, h1⟩
  have hbar : ∀ b, c.bar β (s.V.app (.keep o g x)) b → c.bar β s.V b := by
    intro b hh
    rcases hh with hh | ⟨o', g', x', h1, h2⟩
    · exact .inl hh
    · obtain ⟨x2, h3⟩ := hback _ _ _ h1
      exact .inr ⟨o', g', x2, h3, h2⟩
  have hst : Stays (c.bar β s.V) w w' := fun b hn hlt => hw.block b hlt fun he => hn (.inr ⟨o, g, x0, hx0, he⟩)
  refine ⟨⟨hw.os.trans h.keep.os, hw.tape.trans h.keep.tape, hw.output.trans h.keep.output, Nat.le_trans h.keep.size hw.size, fun k hk hm => ?_⟩, h.low, fun g cs hg => (h.glob g cs hg).mono hst fun b _ => hbar b, fun t => ?_, fun o' g' x' hx => ?_, ?_, ?_, ?_⟩
  · rw [← h.keep.block k hk hm]
    refine hw.block k (Nat.lt_of_lt_of_le hk h.keep.size) fun he => ?_
    rcases (h.home o g x0 k hx0 he).2.1 with h5 | h5
    · omega
    · exact hm h5
  · exact (h.slots t).mono hst (fun b _ => hbar b) (fun _ _ _ => rfl) (fun _ => Nat.le_refl _)
  · rw [hob] at hx
    simp only [upd] at hx
    split at hx
    · rename_i e1; subst e1
      simp only [Option.some.injEq, Prod.mk.injEq] at hx
      obtain ⟨rfl, rfl⟩ := hx
      exact ⟨(h.objs _ _ _ hx0).1, ho _ (fun b _ => hbar b) rfl⟩
    · rename_i hne
      obtain ⟨h1, h2⟩ := h.objs o' g' x' hx
      exact ⟨h1, h2.mono hst (fun b _ => hbar b) (fun _ _ _ => rfl) (fun _ => Nat.le_refl _) fun b hbb hlt => hw.block b hlt fun he => hne (h.sep o' o g' g x' x0 b hx hx0 hbb he)⟩
  · intro o1 o2 g1 g2 x1 x2 b h1 h2 h3 h4
    obtain ⟨y1, k1⟩ := hback _ _ _ h1
    obtain ⟨y2, k2⟩ := hback _ _ _ h2
    exact h.sep _ _ _ _ _ _ b k1 k2 h3 h4
  · intro o1 g1 x1 b h1 h2
    obtain ⟨y1, k1⟩ := hback _ _ _ h1
    obtain ⟨h4, h5⟩ := h.home _ _ _ b k1 h2
    exact ⟨Nat.lt_of_lt_of_le h4 hw.size, h5⟩
  · intro o1 g1 x1 ho1 h1
    obtain ⟨y1, k1⟩ := hback _ _ _ h1
    exact h.pin _ _ _ ho1 k1

/-- An object is let go. -/
theorem Rel.drop {E : Env} {c : Ctx} {β : Nat → Nat → Value} {s : PSt} {tm : Array Value} {w : World} (h : Rel E c β s tm w) {s' : PSt}
    (hsl : s'.sl = s.sl) (hcn : s'.V.cn = s.V.cn) (hob : ∀ o y, s'.V.ob o = some y → s.V.ob o = some y) : Rel E c β s' tm w := by
  have hbar : ∀ b, c.bar β s'.V b → c.bar β s.V b := by
    intro b hh
    rcases hh with hh | ⟨o', g', x', h1, h2⟩
    · exact .inl hh
    · exact .inr ⟨o', g', x', hob _ _ h1, h2⟩
  refine ⟨h.keep, h.low, fun g cs hg => (h.glob g cs hg).mono (Stays.refl _ _) fun b _ => hbar b, fun t => ?_, fun o' g' x' hx => ?_, fun o1 o2 g1 g2 x1 x2 b h1 h2 => h.sep _ _ _ _ _ _ b (hob _ _ h1) (hob _ _ h2), fun o g x b hx => h.home o g x b (hob _ _ hx), fun o g x ho hx => h.pin o g x ho (hob _ _ hx)⟩
  · rw [hsl, hcn]; exact (h.slots t).mono (Stays.refl _ _) (fun b _ => hbar b) (fun _ _ _ => rfl) (fun _ => Nat.le_refl _)
  · obtain ⟨h1, h2⟩ := h.objs o' g' x' (hob _ _ hx)
    rw [hcn]
    exact ⟨h1, h2.mono (Stays.refl _ _) (fun b _ => hbar b) (fun _ _ _ => rfl) (fun _ => Nat.le_refl _) fun _ _ _ => rfl⟩

theorem AVRep.weaken {w : World} {fb β cn} {v : Value} {a : AV} (_ : AVRep w fb β cn a v) : AVRep w fb β cn .undef v := .undef v

theorem View.get_some {V : View} {o g : Nat} {x : AObj} (h : V.get o g = some x) : V.ob o = some (g, x) := by
  unfold View.get at h
  split at h
  · rename_i g' x' hh
    split at h
    · rename_i e; subst e; simp_all
    · cases h
  · cases h

/-- The reference to an object that was just made. -/
theorem AVRep.own_new {w : World} {fb : Nat → Prop} {β : Nat → Nat → Value} {cn cn' : Nat → Nat} {o : Nat} {v : Value} (hv : v.oneCell' = true) (hcn : cn o < cn' o) : AVRep w fb (upd2 β o (cn o) v) cn' (.own o (cn o)) v := by
  have := AVRep.own (w := w) (fb := fb) (β := upd2 β o (cn o) v) (cn := cn') o (cn o) hcn (by rw [upd2_same]; exact hv)
  rwa [upd2_same] at this
theorem AVRep.map_new {w : World} {fb : Nat → Prop} {β : Nat → Nat → Value} {cn cn' : Nat → Nat} {o : Nat} {v : Value} (hv : v.oneCell' = true) (hcn : cn o < cn' o) : AVRep w fb (upd2 β o (cn o) v) cn' (.map o (cn o)) v := by
  have := AVRep.map (w := w) (fb := fb) (β := upd2 β o (cn o) v) (cn := cn') o (cn o) hcn (by rw [upd2_same]; exact hv)
  rwa [upd2_same] at this
theorem AVRep.oneCell {w : World} {fb : Nat → Prop} {β : Nat → Nat → Value} {cn : Nat → Nat} {a : AV} {v : Value} (h : AVRep w fb β cn a v) (h1 : a.one = true) : v.oneCell' = true := by
  cases h with
  | d x v h => exact h.oneCell h1
  | own o g hg hh => exact hh
  | map o g hg hh => exact hh
  | _ => first | rfl | simp [AV.one] at h1
theorem cn_fresh (V : View) (o : Nat) (x : AObj) : V.cn o < (V.app (.fresh o x)).cn o := by simp [View.app, upd]
end Go.Pw
