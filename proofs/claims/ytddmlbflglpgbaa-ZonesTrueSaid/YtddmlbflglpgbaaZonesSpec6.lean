/- A part of the proof. -/
import Derived.Test.YtddmlbflglpgbaaZonesSpec5
set_option linter.all false
namespace Go.Pw

/-- Where the first least value is. -/
def argF (f : Nat → Int) : Nat → Nat
  | 0 => 0
  | m + 1 => if f m < f (argF f m) then m else argF f m
theorem argF_spec (f : Nat → Int) : ∀ m, 1 ≤ m → argF f m < m ∧ (∀ i, i < m → f (argF f m) ≤ f i) ∧ ∀ i, i < argF f m → f (argF f m) < f i
  | 0, h => by omega
  | m + 1, _ => by
    rw [argF]
    by_cases h0 : m = 0
    · subst h0
      have h0 : (if f 0 < f (argF f 0) then 0 else argF f 0) = 0 := by split <;> rfl
      rw [h0]
      exact ⟨by omega, fun i hi => by have : i = 0 := by omega
                                      subst this; omega, fun i hi => by omega⟩
    · obtain ⟨h1, h2, h3⟩ := argF_spec f m (by omega)
      split
      · rename_i hlt
        refine ⟨by omega, fun i hi => ?_, fun i hi => ?_⟩
        · rcases (show i < m ∨ i = m by omega) with h | h
          · have := h2 i h; omega
          · subst h; omega
        · have := h2 i hi; omega
      · rename_i hlt
        refine ⟨by omega, fun i hi => ?_, h3⟩
        rcases (show i < m ∨ i = m by omega) with h | h
        · exact h2 i h
        · subst h; omega
/-- How many multiples of the step are below the turn. -/
def stepsN (t s : Int) : Nat := ((t + s - 1) / s).toNat
theorem stepsN_iff {t s : Int} (hs : 1 ≤ s) (ht : 1 ≤ t) (j : Nat) : j < stepsN t s ↔ (j : Int) * s < t := by
  unfold stepsN
  have h1 := Int.ediv_mul_add_emod (t + s - 1) s
  have h2 := Int.emod_nonneg (t + s - 1) (b := s) (by omega)
  have h3 := Int.emod_lt_of_pos (t + s - 1) (b := s) (by omega)
  have h0 : 0 ≤ (t + s - 1) / s := Int.ediv_nonneg (by omega) (by omega)
  constructor
  · intro h
    have : ((j : Int) + 1) * s ≤ (t + s - 1) / s * s := Int.mul_le_mul_of_nonneg_right (by omega) (by omega)
    rw [Int.add_mul] at this; omega
  · intro h
    rcases Int.lt_or_le (j : Int) ((t + s - 1) / s) with h4 | h4
    · omega
    · have : (t + s - 1) / s * s ≤ (j : Int) * s := Int.mul_le_mul_of_nonneg_right h4 (by omega)
      omega
theorem stepsN_pos {t s : Int} (hs : 1 ≤ s) (ht : 1 ≤ t) : 1 ≤ stepsN t s := (stepsN_iff hs ht 0).2 (by simp; omega)

def GDisk.skF (d : GDisk) (hi sw step : Int) (j : Nat) : Int := gapV d.turn (j * step) hi * sw
def GDisk.sw1 (d : GDisk) : Int := d.swR 1 0 d.size.toNat
def GDisk.sw2 (d : GDisk) : Int := d.swR 2 0 d.size.toNat
def GDisk.F1 (d : GDisk) (step : Int) : Nat → Int := d.skF d.hhi d.sw1 step
def GDisk.F2 (d : GDisk) (step : Int) : Nat → Int := d.skF d.chi d.sw2 step
def GDisk.A1 (d : GDisk) (step : Int) : Nat := argF (d.F1 step) (stepsN d.turn step)
def GDisk.A2 (d : GDisk) (step : Int) : Nat := argF (d.F2 step) (stepsN d.turn step)
/-- Skews. -/
def GDisk.skR (d : GDisk) (step : Int) : Int × Int × Int × Int := if d.ok then (if inZ step 1 d.turn then (d.A1 step * step, d.A2 step * step, d.ticksR 0 d.size.toNat + d.F1 step (d.A1 step) + d.F2 step (d.A2 step), 0) else (0, 0, 0, 1)) else (0, 0, 0, 10)

theorem skF_bound {d : GDisk} (g : d.Good) {hi sw step : Int} (h1 : 0 ≤ hi ∧ hi ≤ 2000) (h2 : 0 ≤ sw ∧ sw ≤ 5120) (hs : 1 ≤ step) {j : Nat} (hj : j < stepsN d.turn step) :
    (0 ≤ (j : Int) * step ∧ (j : Int) * step < d.turn) ∧ (0 ≤ gapV d.turn (j * step) hi ∧ gapV d.turn (j * step) hi ≤ 2001000) ∧ 0 ≤ d.skF hi sw step j ∧ d.skF hi sw step j ≤ 2001000 * 5120 := by
  have t1 := g.t1; have t2 := g.t2
  have hlt := (stepsN_iff hs (by omega) j).1 hj
  have h0 : 0 ≤ (j : Int) * step := Int.mul_nonneg (by omega) (by omega)
  obtain ⟨k0, k1, k2⟩ := gapT_spec (t := d.turn) (skew := j * step) (ticks := hi) (by omega)
  have hle := gapT_le (t := d.turn) (skew := j * step) (ticks := hi) (by omega) h1.2 h0
  have h3 : 0 ≤ gapT d.turn (j * step) hi * d.turn ∧ gapT d.turn (j * step) hi * d.turn ≤ 2000 * 1000 := ⟨Int.mul_nonneg (by omega) (by omega), Int.mul_le_mul (by omega) (by omega) (by omega) (by omega)⟩
  have h4 : 0 ≤ gapV d.turn (j * step) hi ∧ gapV d.turn (j * step) hi ≤ 2001000 := by unfold gapV; omega
  refine ⟨⟨h0, hlt⟩, h4, ?_⟩
  unfold GDisk.skF
  exact ⟨Int.mul_nonneg (by omega) (by omega), Int.mul_le_mul (by omega) (by omega) (by omega) (by omega)⟩

/-- The pair that comes first among the best of those that were tried. -/
structure BestP (f1 f2 : Nat → Int) (V : Nat → Nat → Prop) (A B : Nat) : Prop where
  mem : V A B
  le : ∀ x y, V x y → f1 A + f2 B ≤ f1 x + f2 y
  lt : ∀ x y, V x y → (x < A ∨ (x = A ∧ y < B)) → f1 A + f2 B < f1 x + f2 y
theorem BestP.eq {f1 f2 : Nat → Int} {M : Nat} (hM : 1 ≤ M) {A B : Nat} (h : BestP f1 f2 (fun x y => x < M ∧ y < M) A B) : A = argF f1 M ∧ B = argF f2 M := by
  obtain ⟨a1, a2, a3⟩ := argF_spec f1 M hM
  obtain ⟨b1, b2, b3⟩ := argF_spec f2 M hM
  obtain ⟨m1, m2⟩ := h.mem
  have e1 := a2 A m1
  have e2 := b2 B m2
  have e3 := h.le _ _ ⟨a1, b1⟩
  have hA : A = argF f1 M := by
    rcases Nat.lt_trichotomy A (argF f1 M) with h1 | h1 | h1
    · have := a3 A h1; omega
    · exact h1
    · have := h.lt _ _ ⟨a1, b1⟩ (.inl h1); omega
  refine ⟨hA, ?_⟩
  rcases Nat.lt_trichotomy B (argF f2 M) with h1 | h1 | h1
  · have := b3 B h1; omega
  · exact h1
  · have := h.lt _ _ ⟨a1, b1⟩ (.inr ⟨hA.symm, h1⟩); omega
theorem BestP.step {f1 f2 : Nat → Int} {V : Nat → Nat → Prop} {A B i j : Nat} (h : BestP f1 f2 V A B) (hn : ∀ x y, V x y → x < i ∨ (x = i ∧ y < j)) :
    (f1 i + f2 j < f1 A + f2 B → BestP f1 f2 (fun x y => V x y ∨ (x = i ∧ y = j)) i j) ∧ (¬ f1 i + f2 j < f1 A + f2 B → BestP f1 f2 (fun x y => V x y ∨ (x = i ∧ y = j)) A B) := by
  refine ⟨fun hlt => ⟨.inr ⟨rfl, rfl⟩, fun x y hv => ?_, fun x y hv _ => ?_⟩, fun hge => ⟨.inl h.mem, fun x y hv => ?_, fun x y hv hl => ?_⟩⟩
  · rcases hv with hv | ⟨rfl, rfl⟩
    · have := h.le x y hv; omega
    · omega
  · rcases hv with hv | ⟨rfl, rfl⟩
    · have := h.le x y hv; omega
    · omega
  · rcases hv with hv | ⟨rfl, rfl⟩
    · exact h.le x y hv
    · omega
  · rcases hv with hv | ⟨rfl, rfl⟩
    · exact h.lt x y hv hl
    · have := hn A B h.mem; omega
theorem BestP.first {f1 f2 : Nat → Int} {i j : Nat} : BestP f1 f2 (fun x y => x = i ∧ y = j) i j :=
  ⟨⟨rfl, rfl⟩, fun x y h => by obtain ⟨rfl, rfl⟩ := h; omega, fun x y h hl => by obtain ⟨rfl, rfl⟩ := h; omega⟩
theorem BestP.cong {f1 f2 : Nat → Int} {V W : Nat → Nat → Prop} {A B : Nat} (h : BestP f1 f2 V A B) (hw : ∀ x y, W x y ↔ V x y) : BestP f1 f2 W A B :=
  ⟨(hw A B).2 h.mem, fun x y hv => h.le x y ((hw x y).1 hv), fun x y hv hl => h.lt x y ((hw x y).1 hv) hl⟩
/-- A run of all sectors takes a turn for each track. -/
theorem ticks_tf {d : GDisk} (g : d.Good) : ∀ k, k ≤ d.nt → d.ticksR 0 (d.tf k).toNat = k * d.turn
  | 0, _ => by simp [GDisk.tf, GDisk.ticksR, sumF]
  | k + 1, h => by
    have h1 := g.tf k (by omega)
    have h2 := g.ts (k := k) (by omega)
    have h3 := g.own (k := k) (by omega)
    have ih := ticks_tf g k (by omega)
    unfold GDisk.ticksR at ih ⊢
    rw [GDisk.tf, show (d.tf k + d.ts k).toNat = (d.tf k).toNat + (d.ts k).toNat by omega, sumF_add, ih, sumF_const d.ownN _ (d.own k) _ fun i hi => own_in g (k := k) (by omega) (by unfold GDisk.holds; omega)]
    rw [show (((d.ts k).toNat : Nat) : Int) = d.ts k by omega, Int.mul_comm (d.ts k), h3.2.2.1, show ((k + 1 : Nat) : Int) = (k : Int) + 1 by omega, Int.add_mul]; omega
theorem ticks_all {d : GDisk} (g : d.Good) : d.ticksR 0 d.size.toNat = d.cyls * d.heads * d.turn := by
  have := ticks_tf g d.nt (Nat.le_refl _)
  unfold GDisk.size
  rw [this, GDisk.nt]
  have := g.hn
  rw [Int.natCast_mul, this]
end Go.Pw
