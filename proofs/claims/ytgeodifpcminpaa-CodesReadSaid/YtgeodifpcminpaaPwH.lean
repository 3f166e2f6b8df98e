/- Each operation does what 'ev' says: slice expressions, lengths, comparisons, parts, look-ups. -/
import Derived.Test.YtgeodifpcminpaaPwG
set_option linter.all false
namespace Go.Pw
open Go.RowKit
set_option linter.unusedSimpArgs false
set_option linter.unusedVariables false
section
variable {E : Env} {c : Ctx} {β : Nat → Nat → Value} {s : PSt} {tm : Array Value} {w : World} {K : AV → Chg → Prop}

/-- What an instruction on the memory came to. -/
def GotV (E : Env) (c : Ctx) (s : PSt) (tm : Array Value) (K : AV → Chg → Prop) (r : Result Value) : Prop :=
  ∃ u w' v ch β', r = .ok u w' ∧ K v ch ∧ Rel E c β' ⟨s.sl, s.V.app ch⟩ tm w' ∧ AVRep w' (c.bar β' (s.V.app ch)) β' (s.V.app ch).cn v u

theorem gotV_same (h : Rel E c β s tm w) {v : AV} {u : Value} {r : Result Value} (hK : K v .none) (hr : r = .ok u w) (hv : AVRep w (c.bar β s.V) β s.V.cn v u) : GotV E c s tm K r :=
  ⟨u, w, v, .none, β, hr, hK, h, hv⟩

theorem Only.refl (v : Value) (w : World) : Only v w w := ⟨rfl, rfl, rfl, Nat.le_refl _, fun _ _ _ => rfl⟩

theorem sound_slice (h : Rel E c β s tm w) {t e : TypeId} {es : Nat} (ht : E.P.underlying t = some (.slice e)) (hsz : szOf E.P e = some es) (hes : 0 < es)
    {x : AV} {u : Value} {rest : List AV} {lov hiv : Option Value} {dst : Option Nat}
    (hx : AVRep w (c.bar β s.V) β s.V.cn x u)
    (hrest : ∃ vs : List Value, vs = lov.toList ++ hiv.toList ∧ vs.length = rest.length ∧ ∀ (i : Nat) (x : AV) (v : Value), rest[i]? = some x → vs[i]? = some v → AVRep w (c.bar β s.V) β s.V.cn x v)
    (he : ev E dst s.V (.slice es lov.isSome hiv.isSome false) (x :: rest) K) : GotV E c s tm K ((Instr.sliceAt t u lov hiv none).run E.P w) := by
  unfold ev at he
  simp only [Bool.false_eq_true, if_false] at he
  split at he
  · rename_i nl l rest' heq
    simp only [List.cons.injEq] at heq; obtain ⟨rfl, rfl⟩ := heq
    obtain ⟨hu, he⟩ := he
    cases hx with | d _ _ hx =>
    obtain ⟨a, cap, rfl⟩ := list_slice hx
    have hlc : l.length ≤ cap := (sub_rep hx hes hu (Nat.le_refl 0) (Nat.zero_le _)).2.1
    obtain ⟨p, q, h1, h2, hK, _, hr⟩ := run_bounds ht hsz (a := a) (cap := cap) hlc rfl rfl hrest he
    exact gotV_same h hK hr (.d _ _ (sub_rep hx hes hu h1 h2).2.2)
  · rename_i l rest' heq
    simp only [List.cons.injEq] at heq; obtain ⟨rfl, rfl⟩ := heq
    obtain ⟨hu, he⟩ := he
    cases hx with | ex _ a hx =>
    obtain ⟨p, q, h1, h2, hK, _, hr⟩ := run_bounds ht hsz (a := some a) (cap := l.length) (Nat.le_refl _) rfl rfl hrest he
    exact gotV_same h hK hr (.d _ _ (sub_rep hx hes hu h1 h2).2.2)
  · rename_i o g rest' heq
    simp only [List.cons.injEq] at heq; obtain ⟨rfl, rfl⟩ := heq
    split at he
    · rename_i ety es' nl l hg
      obtain ⟨hol, rfl, hhi, he⟩ := he
      have hob := View.get_some hg
      obtain ⟨hlt, ho⟩ := h.objs _ _ _ hob
      cases ho with | row _ _ _ _ _ ho =>
      cases hx with | own _ _ _ _ =>
      rcases ho with ⟨h1, h2, h3⟩ | ⟨h1, b, off, cap, cur, h2, h3, h4, h5, h6, h7, h8, h10, h9⟩
      · subst h2
        rw [h3]
        obtain ⟨p, q, hp, hq, hK, hqf, hr⟩ := run_bounds ht hsz (a := none) (cap := 0) (len := 0) (Nat.le_refl _) rfl rfl hrest he
        have : p = 0 := by omega
        subst this
        have : q = 0 := by omega
        subst this
        have hv : sliced none 0 0 0 es = .slice none 0 0 := by simp [sliced]
        rw [hv] at hr
        refine ⟨_, w, _, _, _, hr, hK, h.fresh (vo := .slice none 0 0) hol (.refl _ _) (fun b hb => by simp [rowBlk] at hb) (fun β' fb' _ _ _ => .row _ _ _ _ _ (.inl ⟨h1, by simp, rfl⟩)), ?_⟩
        exact AVRep.own_new rfl (cn_fresh _ _ _)
      · rw [h2]
        obtain ⟨p, q, hp, hq, hK, hqf, hr⟩ := run_bounds ht hsz (a := some ⟨b, off, none⟩) (cap := cap) (len := l.length) h4 rfl rfl hrest he
        have hq' : q = l.length := hqf hhi
        subst hq'
        obtain ⟨off', cap', hv, hcap, hofs, hsz'⟩ : ∃ off' cap', sliced (some ⟨b, off, none⟩) p l.length cap es = .slice (some ⟨b, off', none⟩) (l.length - p) cap' ∧ cap' = cap - p ∧ (p < l.length → off' = off + p * es) ∧ off' + cap' * es ≤ cur.size := by
          unfold sliced
          by_cases hc : cap = p
          · rw [if_pos hc]; refine ⟨off, cap - p, rfl, rfl, fun h => by omega, ?_⟩
            have : cap - p = 0 := by omega
            rw [this]; have := Nat.zero_le (cap * es); omega
          · rw [if_neg hc]
            simp only [Option.map_some, Addr.add_lit]
            refine ⟨_, _, rfl, rfl, fun _ => rfl, ?_⟩
            have : cap * es = p * es + (cap - p) * es := by rw [← Nat.add_mul]; congr 1; omega
            omega
        rw [hv] at hr
        have hblk : rowBlk (β o g) = some b := by rw [h2]; rfl
        have hlb : b < w.heap.size := (Array.getElem?_eq_some_iff.1 h3).1
        refine ⟨_, w, _, _, _, hr, hK, h.fresh (vo := .slice (some ⟨b, off', none⟩) (l.length - p) cap') hol (.refl _ _) (fun b' hb => by
            simp [rowBlk] at hb; subst hb; exact ⟨hlb, .inr ⟨g, _, hob, hblk⟩⟩) (fun β' fb' _ _ hf => .row _ _ _ _ _ (.inr ⟨h1, b, off', cap', cur, by simp, h3, by simp; omega, by omega, hsz', h7,
              fun z hz => h8 z (List.mem_of_mem_drop hz), fun z c hz hc => h10 z c (List.mem_of_mem_drop hz) hc, fun i z j c hi hj => ?_⟩)), ?_⟩
        · rw [List.getElem?_drop] at hi
          have hlt' : p + i < l.length := (List.getElem?_eq_some_iff.1 hi).1
          obtain ⟨u, hu, hd⟩ := h9 (p + i) z j c hi hj
          refine ⟨u, ?_, hd.mono (Stays.refl _ _) hf⟩
          rw [hofs (by omega), show off + p * es + i * es + j = off + (p + i) * es + j by rw [Nat.add_mul]; omega]
          exact hu
        · exact AVRep.own_new rfl (cn_fresh _ _ _)
    · exact he.elim
  · exact he.elim

theorem sound_slice3 (h : Rel E c β s tm w) {t e : TypeId} {es : Nat} (ht : E.P.underlying t = some (.slice e)) (hsz : szOf E.P e = some es) (hes : 0 < es)
    {x : AV} {u : Value} {rest : List AV} {lov hiv : Option Value} {mv : Value} {dst : Option Nat}
    (hx : AVRep w (c.bar β s.V) β s.V.cn x u)
    (hrest : ∃ vs : List Value, vs = lov.toList ++ hiv.toList ++ [mv] ∧ vs.length = rest.length ∧ ∀ (i : Nat) (x : AV) (v : Value), rest[i]? = some x → vs[i]? = some v → AVRep w (c.bar β s.V) β s.V.cn x v)
    (he : ev E dst s.V (.slice es lov.isSome hiv.isSome true) (x :: rest) K) : GotV E c s tm K ((Instr.sliceAt t u lov hiv (some mv)).run E.P w) := by
  have hel : E.P.elem t = e := by simp [Program.elem, ht]
  have ht' : E.P.underlying t = some (.slice (E.P.elem t)) := by rw [hel]; exact ht
  unfold ev at he
  simp only [if_true] at he
  obtain ⟨vs, hvs, hl, hr⟩ := hrest
  subst hvs
  split at he
  · rename_i l k1 hh k2 m hlo hhi heq
    simp only [List.cons.injEq] at heq; obtain ⟨rfl, rfl⟩ := heq
    obtain ⟨hu, rfl, h0, h1, hK⟩ := he
    cases lov with
    | some _ => simp at hlo
    | none =>
    cases hiv with
    | none => simp at hhi
    | some hv =>
    obtain ⟨rfl, _⟩ := rep_int (hr 0 _ hv rfl rfl)
    obtain ⟨rfl, _⟩ := rep_int (hr 1 _ mv rfl rfl)
    cases hx with | d _ _ hx =>
    obtain ⟨a, cap, rfl⟩ := list_slice hx
    obtain ⟨_, hlc, hsub⟩ := sub_rep hx hes hu (Nat.zero_le hh.toNat) (show hh.toNat ≤ l.length by omega)
    refine gotV_same h hK (u := sliced a 0 hh.toNat hh.toNat es) (by rw [run_sliceAt_slice w t _ _ _ _ ht', run_slice_hm w t a l.length cap ht' k1 k2 hh hh h0 (Int.le_refl _) (by omega), hel, run_sizeOf hsz]; rfl) ?_
    have hne : ∃ ad, a = some ad := by cases hx <;> exact ⟨_, rfl⟩
    obtain ⟨ad, rfl⟩ := hne
    have hlen : (l.take hh.toNat).length = hh.toNat := by simp; omega
    have hval : ∃ ad', sliced (some ad) 0 hh.toNat hh.toNat es = .slice (some ad') (l.take hh.toNat).length (l.take hh.toNat).length := by
      rw [hlen]; unfold sliced
      split
      · rename_i h0; exact ⟨ad, by simp [h0]⟩
      · exact ⟨ad.add (0 * es), by simp⟩
    obtain ⟨ad', hval⟩ := hval
    rw [hval]
    refine .ex _ _ ?_
    -- the same elements, the capacity cut
    have hsub' : DRep w (c.bar β s.V) (.list false (l.take hh.toNat)) (sliced (some ad) 0 hh.toNat cap es) := by simpa using hsub
    have hvals : sliced (some ad) 0 hh.toNat cap es = .slice (some ad) hh.toNat cap := by
      unfold sliced; split
      · rename_i h0; simp
      · simp [Addr.add]
    have had : (l.take hh.toNat).length ≠ 0 → ad' = ad := by
      intro hne
      rw [hlen] at hne
      unfold sliced at hval
      rw [if_neg hne] at hval
      simp [Addr.add] at hval
      exact hval.1.symm
    rw [hvals] at hsub'
    cases hll : l.take hh.toNat with
    | nil => exact .empty _ _ (by simp [maxLen])
    | cons z zs =>
      rw [hll] at had hsub' hlen
      rw [had (by simp)]
      rw [← hlen] at hsub'
      cases hsub' with
      | list _ es' b off _ vs hcap hm hb hpos hs h1' hc hv => exact .list _ es' b off _ vs (Nat.le_refl _) (by omega) hb hpos hs h1' hc hv
  · rename_i k1 hh k2 m hlo hhi heq
    simp only [List.cons.injEq] at heq; obtain ⟨rfl, rfl⟩ := heq
    obtain ⟨rfl, rfl, hK⟩ := he
    cases lov with
    | some _ => simp at hlo
    | none =>
    cases hiv with
    | none => simp at hhi
    | some hv =>
    obtain ⟨rfl, _⟩ := rep_int (hr 0 _ hv rfl rfl)
    obtain ⟨rfl, _⟩ := rep_int (hr 1 _ mv rfl rfl)
    cases hx with | d _ _ hx =>
    cases hx with | nil =>
    refine gotV_same h hK (u := .slice none 0 0) (by rw [run_sliceAt_slice w t _ _ _ _ ht', run_slice_hm w t none 0 0 ht' k1 k2 0 0 (Int.le_refl _) (Int.le_refl _) (by omega), hel, run_sizeOf hsz]; rfl) (.d _ _ .nil)
  · exact he.elim
end
end Go.Pw
