/- Each operation does what 'ev' says: slices, lengths, maps, comparisons. -/
import Derived.Test.YtgeodifpcminpaaPwF
set_option linter.all false
namespace Go.Pw
open Go.RowKit
set_option linter.unusedSimpArgs false
set_option linter.unusedVariables false
section
variable {E : Env} {c : Ctx} {β : Nat → Nat → Value} {s : PSt} {tm : Array Value} {w : World} {K : AV → Chg → Prop}

/-- A part of a slice. -/
theorem sub_rep {w : World} {fb} {nil : Bool} {l : List D} {a : Option Addr} {len cap : Nat} (h : DRep w fb (.list nil l) (.slice a len cap)) {es x y : Nat} (hes : 0 < es) (hu : Unif es l) (hxy : x ≤ y) (hy : y ≤ l.length) :
    len = l.length ∧ len ≤ cap ∧ DRep w fb (.list nil ((l.drop x).take (y - x))) (sliced a x y cap es) := by
  cases h with
  | nil =>
    simp at hy; subst hy; simp at hxy; subst hxy
    exact ⟨rfl, by omega, by simp [sliced]; exact .nil⟩
  | empty a _ hm =>
    simp at hy; subst hy; simp at hxy; subst hxy
    exact ⟨rfl, by omega, by simp [sliced]; split <;> exact .empty _ _ hm⟩
  | list _ es' b off _ vs hcap hm hb hpos hs h1 hc hv =>
    refine ⟨rfl, hcap, ?_⟩
    have hlen : ((l.drop x).take (y - x)).length = y - x := by simp; omega
    unfold sliced
    by_cases hcx : cap = x
    · rw [if_pos hcx]
      have : y = x := by omega
      subst this
      simp
      exact .empty _ _ (by omega)
    · rw [if_neg hcx]
      by_cases hxy' : x = y
      · subst hxy'; simp; exact .empty _ _ (by omega)
      have hes' : es = es' := by
        cases l with
        | nil => simp at hy; omega
        | cons z zs => exact (hu z (by simp)).symm.trans (hs z (by simp))
      subst hes'
      simp only [Option.map_some, Addr.add_lit]
      rw [show y - x = ((l.drop x).take (y - x)).length by omega]
      have hm' : ∀ z, z ∈ ((l.drop x).take (y - x)) → z ∈ l := fun z hz => List.mem_of_mem_drop (List.mem_of_mem_take hz)
      have hget : ∀ (i : Nat) (z : D), ((l.drop x).take (y - x))[i]? = some z → l[x + i]? = some z := by
        intro i z hz
        rw [List.getElem?_take] at hz
        split at hz
        · rwa [List.getElem?_drop] at hz
        · cases hz
      rw [hlen]
      have hgoal := DRep.list (w := w) (fb := fb) ((l.drop x).take (y - x)) es b (off + x * es) (cap - x) (fun i j => vs (x + i) j) (by omega) (by omega) hb hpos
        (fun z hz => hs z (hm' z hz)) (fun z c hz hc => h1 z c (hm' z hz) hc)
        (fun i z j c hz hj => by rw [show off + x * es + i * es + j = off + (x + i) * es + j by rw [Nat.add_mul]; omega]; exact hc _ z j c (hget i z hz) hj)
        (fun i z j c hz hj => hv _ z j c (hget i z hz) hj)
      rwa [hlen] at hgoal

theorem list_slice {fb} {nil : Bool} {l : List D} {u : Value} (h : DRep w fb (.list nil l) u) : ∃ a cap, u = .slice a l.length cap := by
  cases h <;> exact ⟨_, _, rfl⟩

/-- The bounds of a slice expression. -/
theorem run_bounds {t e : TypeId} {es : Nat} (ht : E.P.underlying t = some (.slice e)) (hsz : szOf E.P e = some es) {a : Option Addr} {len cap : Nat} (hlc : len ≤ cap) {lo hi : Bool} {rest : List AV} {lov hiv : Option Value}
    (hlo : lov.isSome = lo) (hhi : hiv.isSome = hi) {fb β' cn}
    (hrest : ∃ vs : List Value, vs = lov.toList ++ hiv.toList ∧ vs.length = rest.length ∧ ∀ (i : Nat) (x : AV) (v : Value), rest[i]? = some x → vs[i]? = some v → AVRep w fb β' cn x v)
    {C : Nat → Nat → Prop} (he : rngP lo hi len rest C) :
    ∃ x y, x ≤ y ∧ y ≤ len ∧ C x y ∧ (hi = false → y = len) ∧ (Instr.sliceAt t (.slice a len cap) lov hiv none).run E.P w = .ok (sliced a x y cap es) w := by
  have hel : E.P.elem t = e := by simp [Program.elem, ht]
  have ht' : E.P.underlying t = some (.slice (E.P.elem t)) := by rw [hel]; exact ht
  obtain ⟨vs, hvs, hl, hr⟩ := hrest
  subst hvs
  rcases lov with _ | lv <;> rcases hiv with _ | hv <;> simp only [Option.isSome_some, Option.isSome_none] at hlo hhi <;> subst hlo hhi <;> simp only [rngP, if_true, if_false, Bool.false_eq_true] at he
  · cases rest with
    | nil => exact ⟨0, len, by omega, by omega, he, fun _ => rfl, by rw [run_sliceAt_slice w t _ _ _ _ ht', run_slice_all w t a len cap ht', hel, run_sizeOf hsz]; rfl⟩
    | cons => exact he.elim
  · split at he
    · rename_i k l
      obtain ⟨rfl, _⟩ := rep_int (hr 0 _ hv rfl rfl)
      obtain ⟨h0, h1, h2⟩ := he
      exact ⟨0, l.toNat, by omega, by omega, h2, by simp, by rw [run_sliceAt_slice w t _ _ _ _ ht', run_slice_h w t a len cap ht' k l h0 (by omega), hel, run_sizeOf hsz]; rfl⟩
    · exact he.elim
  · split at he
    · rename_i k l
      obtain ⟨rfl, _⟩ := rep_int (hr 0 _ lv rfl rfl)
      obtain ⟨h0, h1, h2⟩ := he
      exact ⟨l.toNat, len, by omega, by omega, h2, fun _ => rfl, by rw [run_sliceAt_slice w t _ _ _ _ ht', run_slice_l w t a len cap ht' k l h0 h1, hel, run_sizeOf hsz]; rfl⟩
    · exact he.elim
  · split at he
    · rename_i k1 l k2 h
      obtain ⟨rfl, _⟩ := rep_int (hr 0 _ lv rfl rfl)
      obtain ⟨rfl, _⟩ := rep_int (hr 1 _ hv rfl rfl)
      obtain ⟨h0, h1, h2, h3⟩ := he
      exact ⟨l.toNat, h.toNat, by omega, by omega, h3, by simp, by rw [run_sliceAt_slice w t _ _ _ _ ht', run_slice_lh w t a len cap ht' k1 k2 l h h0 h1 (by omega), hel, run_sizeOf hsz]; rfl⟩
    · exact he.elim
end
end Go.Pw
