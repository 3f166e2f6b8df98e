/- A part of the proof. -/
import Derived.Test.YtgeodifpcminpaaPkA
set_option linter.all false
namespace Go.Pw
open Go.RowKit
set_option linter.unusedSimpArgs false
set_option linter.unusedVariables false

theorem splice_length {α : Type} {cs vs : List α} {off : Nat} (h : off + vs.length ≤ cs.length) : (splice cs off vs).length = cs.length := by
  simp [splice]; omega
theorem splice_get {α : Type} {cs vs : List α} {off : Nat} (h : off + vs.length ≤ cs.length) (i : Nat) :
    (splice cs off vs)[i]? = if i < off then cs[i]? else if i < off + vs.length then vs[i - off]? else cs[i]? := by
  unfold splice
  split
  · rename_i hi
    rw [List.append_assoc, List.getElem?_append_left (by simp; omega), List.getElem?_take, if_pos hi]
  · rename_i hi
    split
    · rename_i hi2
      rw [List.append_assoc, List.getElem?_append_right (by simp; omega), List.length_take, Nat.min_eq_left (by omega), List.getElem?_append_left (by omega)]
    · rename_i hi2
      rw [List.getElem?_append_right (by simp; omega), List.getElem?_drop]
      congr 1
      simp; omega
theorem splice_mem {α : Type} {cs vs : List α} {off : Nat} {x : α} (h : x ∈ splice cs off vs) : x ∈ cs ∨ x ∈ vs := by
  simp only [splice, List.mem_append] at h
  rcases h with (h | h) | h
  · exact .inl (List.mem_of_mem_take h)
  · exact .inr h
  · exact .inl (List.mem_of_mem_drop h)

section
variable {E : Env} {c : Ctx} {β : Nat → Nat → Value} {s : PSt} {tm : Array Value} {w : World} {K : AV → Chg → Prop}

theorem spliceR {α : Type} {R : α → Value → Prop} {cs vs : List α} {us ws : Array Value} {off : Nat} (h1 : CellsR R cs us) (h2 : CellsR R vs ws) (h : off + vs.length ≤ cs.length) :
    CellsR R (splice cs off vs) (splice us.toList off ws.toList).toArray := by
  have e1 := h1.1; have e2 := h2.1
  have hh : off + ws.toList.length ≤ us.toList.length := by simp; omega
  refine ⟨by rw [List.size_toArray, splice_length hh, splice_length h]; simp; omega, fun i x v hx hv => ?_⟩
  rw [List.getElem?_toArray] at hv
  rw [splice_get h] at hx
  rw [splice_get hh] at hv
  have e3 : ws.toList.length = vs.length := by simp; omega
  rw [e3] at hv
  split at hx
  · rename_i hi; rw [if_pos hi] at hv; exact h1.2 i x v hx (by simpa using hv)
  · rename_i hi; rw [if_neg hi] at hv
    split at hx
    · rename_i hi2; rw [if_pos hi2] at hv; exact h2.2 _ x v hx (by simpa using hv)
    · rename_i hi2; rw [if_neg hi2] at hv; exact h1.2 i x v hx (by simpa using hv)

theorem only_setRow {b : Nat} {cur : Array Value} {v : Value} (hv : rowBlk v = some b) : Only v w (w.setRow b cur) := by
  refine ⟨rfl, rfl, rfl, by simp [World.setRow], fun k hk hne => setRow_other w b k _ (fun h => hne (by rw [hv, h]))⟩

theorem run_storeVar {t : TypeId} {n : Nat} (hsz : szOf E.P t = some n) {b off : Nat} {cur : Array Value} {e : TypeId} (hb : w.heap[b]? = some (.cells cur e (0, 0))) {u : Value} (hu : u.cells.size = n) (h1 : ∀ v, v ∈ u.cells.toList → v.oneCell' = true) (hfit : off + n ≤ cur.size) :
    (Instr.storeAt t (.pointer (some ⟨b, off, none⟩)) u).run E.P w = .ok () (w.setRow b (splice cur.toList off u.cells.toList).toArray) := by
  have := run_storeCells_at E.P b off e u.cells.toList 0 cur w hb (by simp; omega) h1
  simp only [Nat.add_zero] at this
  simp [Instr.storeAt, Instr.sureAddr, storeVar, run_sizeOf hsz, hu, this, splice]

theorem oneCells_of {α : Type} {R : α → Value → Prop} {one : α → Bool} {cs : List α} {us : Array Value} (h : CellsR R cs us) (h1 : ∀ y, y ∈ cs → one y = true) (h2 : ∀ y v, one y = true → R y v → v.oneCell' = true) : ∀ v, v ∈ us.toList → v.oneCell' = true := by
  intro v hv
  obtain ⟨i, hi⟩ := List.getElem?_of_mem hv
  have hi' : us[i]? = some v := by simpa using hi
  have hlt : i < us.size := (Array.getElem?_eq_some_iff.1 hi').1
  obtain ⟨y, hy⟩ : ∃ y, cs[i]? = some y := ⟨_, List.getElem?_eq_getElem (by have := h.1; omega)⟩
  exact h2 y v (h1 y (List.mem_of_getElem? hy)) (h.2 i y v hy hi')

theorem toD1_one {fb β' cn} {x : AV} {u : Value} {d : D} (h : AVRep w fb β' cn x u) (hd : x.toD1 = some d) : CellsR (DRep w fb) d.cells u.cells ∧ ∀ y, y ∈ d.cells → y.one = true := by
  obtain ⟨hr, _⟩ := toD1_rep h hd
  have hne : (∀ l, d ≠ .tup l) ∧ d ≠ .junk := by
    unfold AV.toD1 at hd
    split at hd
    · split at hd <;> simp at hd; subst hd; exact ⟨fun _ => by simp, by simp⟩
    · split at hd <;> simp at hd; subst hd; exact ⟨fun _ => by simp, by simp⟩
    · unfold AV.toD0 at hd
      split at hd
      · cases hd
      · cases hd
      · simp at hd; subst hd; exact ⟨fun l hl => by simp_all, fun hj => by simp_all⟩
      · simp at hd; subst hd; exact ⟨fun _ => by simp, by simp⟩
      · split at hd
        · cases hd
        · simp at hd; subst hd; exact ⟨fun _ => by simp, by simp⟩
      · cases hd
  have single : d.one = true → d.cells = [d] → CellsR (DRep w fb) d.cells u.cells ∧ ∀ y, y ∈ d.cells → y.one = true := by
    intro h1 hc
    rw [hc, cells_one (hr.oneCell h1)]
    refine ⟨⟨rfl, fun i c v hc hv => ?_⟩, by simpa using h1⟩
    match i with
    | 0 => simp at hc hv; subst hc hv; exact hr
    | i + 1 => simp at hc
  cases d with
  | agg cs => cases hr with | agg _ vs hl h1 hc => exact ⟨⟨hl, hc⟩, h1⟩
  | tup l => exact absurd rfl (hne.1 l)
  | junk => exact absurd rfl hne.2
  | _ => exact single rfl rfl

theorem sound_store (h : Rel E c β s tm w) {t : TypeId} {n : Nat} (hsz : szOf E.P t = some n) (hn : 0 < n) {dst : Option Nat} {p x : AV} {up ux : Value}
    (hp : AVRep w (c.bar β s.V) β s.V.cn p up) (hx : AVRep w (c.bar β s.V) β s.V.cn x ux) (he : ev E dst s.V (.store n) [p, x] K) :
    GotU E c s tm K ((Instr.storeAt t up ux).run E.P w) := by
  unfold ev at he
  simp only at he
  split at he
  · rename_i o g off x' heq
    simp only [List.cons.injEq, and_true] at heq; obtain ⟨rfl, rfl⟩ := heq
    split at he
    · rename_i cs vs hg hc
      obtain ⟨hvn, hfit, he⟩ := he
      have hob := View.get_some hg
      obtain ⟨hlt, ho⟩ := h.objs _ _ _ hob
      cases hp with | ptr _ _ _ b hlt hβ =>
      rw [hβ] at ho
      cases ho with | cells _ _ cur e hb hl h1 hr =>
      obtain ⟨h3, h4⟩ := cells?_rep hx hc
      have hones := oneCells_of (one := AV.one) h3 h4 fun y v h1 h2 => h2.oneCell h1
      have hun : ux.cells.size = n := by have := h3.1; omega
      refine ⟨_, _, β, run_storeVar hsz hb hun hones (by omega), he, h.kept hob (by rw [hβ]; exact only_setRow rfl) fun fb' hf hfe => ?_⟩
      have hst : Stays (c.bar β s.V) w (w.setRow b (splice cur.toList off ux.cells.toList).toArray) := fun k hk hlt => by
        refine setRow_other w b k _ fun hkb => hk (.inr ⟨o, g, _, hob, by rw [hβ, hkb]; rfl⟩)
      rw [hβ]
      have hsp := spliceR (off := off) ⟨hl, hr⟩ h3 (by omega)
      refine .cells _ b _ e (setRow_heap w b cur _ e _ hb) hsp.1 (fun y hy => (splice_mem hy).elim (h1 y) (h4 y)) fun i y u hy hu => ?_
      exact (hsp.2 i y u hy hu).mono hst hf (fun _ _ _ => rfl) (fun _ => Nat.le_refl _)
    · exact he.elim
  · rename_i o g es0 i off q p' heq
    simp only [List.cons.injEq, and_true] at heq; obtain ⟨rfl, rfl⟩ := heq
    obtain ⟨hq1, hq2⟩ := cells?_rep hx (show AV.cells? (.own q p') = some [.own q p'] from rfl)
    have hones := oneCells_of (one := AV.one) hq1 hq2 fun y v h1 h2 => h2.oneCell h1
    have hu0 : ∃ u, ux.cells.toList = [u] ∧ AVRep w (c.bar β s.V) β s.V.cn (.own q p') u := by
      have h1 := hq1.1
      simp at h1
      refine ⟨ux.cells[0]'(by omega), ?_, hq1.2 0 _ _ (by simp) (Array.getElem?_eq_getElem (by omega))⟩
      apply List.ext_getElem
      · simpa using h1
      · intro j h2 h3
        simp at h3; subst h3; simp
    obtain ⟨u0, hu1, hu2⟩ := hu0
    cases hu2 with | own _ _ hpl hpo =>
    have key : ∀ (l : List D) (b b0 cap : Nat) (ety : Nat) (cur : Array Value), β o g = .slice (some ⟨b, b0, none⟩) l.length cap → w.heap[b]? = some (.cells cur ety (0, 0)) → l.length ≤ cap → cap ≤ maxLen → b0 + cap * 1 ≤ cur.size →
        (∀ x, x ∈ l → x.cells.length = 1) → (∀ x c, x ∈ l → c ∈ x.cells → c.one = true) → i < l.length →
        (∀ (j : Nat) (x : D) (cc : D), j ≠ i → l[j]? = some x → x.cells[0]? = some cc → ∃ u, cur[b0 + j]? = some u ∧ DRep w (c.bar β s.V) cc u) →
        (∃ y, s.V.ob o = some (g, y)) → es0 = 1 → off = 0 → n = 1 → up = .pointer (some ⟨b, b0 + i * es0 + off, none⟩) → K .undef (.keep o g (.rowH ety l i q p')) → GotU E c s tm K ((Instr.storeAt t up ux).run E.P w) := by
      intro l b b0 cap ety cur hβ h3 h4 h5 h6 h8 h10 hi h9 hobe hes hoff hn1 hup hK
      obtain ⟨yy, hob⟩ := hobe
      subst hes hoff hn1 hup
      have hun : ux.cells.size = 1 := by have := congrArg List.length hu1; simpa using this
      refine ⟨_, _, β, run_storeVar hsz h3 hun hones (by omega), hK, h.kept hob (by rw [hβ]; exact only_setRow rfl) fun fb' hf hfe => ?_⟩
      have hst : Stays (c.bar β s.V) w (w.setRow b (splice cur.toList (b0 + i * 1 + 0) ux.cells.toList).toArray) := fun k hk hlt => by
        refine setRow_other w b k _ fun hkb => hk (.inr ⟨o, g, _, hob, by rw [hβ, hkb]; rfl⟩)
      have hfit' : (b0 + i * 1 + 0) + ux.cells.toList.length ≤ cur.toList.length := by rw [hu1]; simp; omega
      refine .rowH _ _ _ _ _ _ ⟨b, b0, cap, _, by rw [hβ], setRow_heap w b cur _ _ _ h3, h4, h5, by rw [List.size_toArray, splice_length hfit']; simpa using h6, h8, h10, ⟨hi, ?_, hpl, hpo⟩, fun j x cc hj hx hc => ?_⟩
      · rw [List.getElem?_toArray, splice_get hfit', hu1]
        rw [if_neg (by omega), if_pos (by simp)]
        simp
      · obtain ⟨u, hu, hd⟩ := h9 j x cc hj hx hc
        refine ⟨u, ?_, hd.mono hst hf⟩
        rw [List.getElem?_toArray, splice_get hfit', hu1]
        by_cases hji : b0 + j < b0 + i * 1 + 0
        · rw [if_pos hji]; simpa using hu
        · rw [if_neg hji, if_neg (by simp; omega)]; simpa using hu
    split at he
    · rename_i ety es nl l hg
      obtain ⟨hes, hes2, hnl, hoff, hn1, hi, hK⟩ := he
      subst hes2
      have hob := View.get_some hg
      obtain ⟨hlt, ho⟩ := h.objs _ _ _ hob
      cases hp with | rptr _ _ _ _ _ b b0 len cap hlt hβ =>
      rw [hβ] at ho
      cases ho with | row _ _ _ _ _ ho =>
      rcases ho with ⟨_, _, h3⟩ | ⟨_, b', off', cap', cur, h2, h3, h4, h5, h6, h7, h8, h10, h9⟩
      · cases h3
      · simp only [Value.slice.injEq, Option.some.injEq, Addr.mk.injEq] at h2
        obtain ⟨⟨rfl, rfl, _⟩, rfl, rfl⟩ := h2
        refine key l b b0 cap ety cur hβ h3 h4 h5 h6 h8 h10 hi (fun j x cc _ hx hc => ?_) ⟨_, hob⟩ hes hoff hn1 rfl hK
        obtain ⟨u, hu, hd⟩ := h9 j x 0 cc hx hc
        exact ⟨u, by simpa using hu, hd⟩
    · rename_i ety l k q1 p1 hg
      obtain ⟨hes, hoff, hn1, hik, hK⟩ := he
      subst hik
      have hob := View.get_some hg
      obtain ⟨hlt, ho⟩ := h.objs _ _ _ hob
      cases hp with | rptr _ _ _ _ _ b b0 len cap hlt hβ =>
      rw [hβ] at ho
      cases ho with | rowH _ _ _ _ _ _ ho =>
      obtain ⟨b', off', cap', cur, h2, h3, h4, h5, h6, h8, h10, ⟨k1, k2, k3, k4⟩, h9⟩ := ho
      simp only [Value.slice.injEq, Option.some.injEq, Addr.mk.injEq] at h2
      obtain ⟨⟨rfl, rfl, _⟩, rfl, rfl⟩ := h2
      exact key l b b0 cap ety cur hβ h3 h4 h5 h6 h8 h10 k1 h9 ⟨_, hob⟩ hes hoff hn1 rfl hK
    · exact he.elim
  · rename_i o g es0 i off x' hno heq
    simp only [List.cons.injEq, and_true] at heq; obtain ⟨rfl, rfl⟩ := heq
    split at he
    · rename_i ety es nl l y hg hd
      obtain ⟨rfl, he⟩ := he
      split at he
      · rename_i z hz
        obtain ⟨hyn, hfit, hcase, he⟩ := he
        have hob := View.get_some hg
        obtain ⟨hlt, ho⟩ := h.objs _ _ _ hob
        cases hp with | rptr _ _ _ _ _ b b0 len cap hlt hβ =>
        rw [hβ] at ho
        cases ho with | row _ _ _ _ _ ho =>
        rcases ho with ⟨_, _, h3⟩ | ⟨hnl, b', off', cap', cur, h2, h3, h4, h5, h6, h7, h8, h10, h9⟩
        · cases h3
        · simp only [Value.slice.injEq, Option.some.injEq, Addr.mk.injEq] at h2
          obtain ⟨⟨rfl, rfl, _⟩, rfl, rfl⟩ := h2
          obtain ⟨hyr, hy1⟩ := toD1_one hx hd
          have hones := oneCells_of (one := D.one) hyr hy1 fun y v h1 h2 => h2.oneCell h1
          have hun : ux.cells.size = n := by have := hyr.1; omega
          have hzl : z.cells.length = es0 := h8 z (List.mem_of_getElem? hz)
          have hi : i < l.length := (List.getElem?_eq_some_iff.1 hz).1
          have hbig : b0 + i * es0 + off + n ≤ cur.size := by
            have : (i + 1) * es0 ≤ cap * es0 := Nat.mul_le_mul_right _ (by omega)
            rw [Nat.add_mul] at this; omega
          generalize hz' : (if n = es0 then y else D.agg (splice z.cells off y.cells)) = z' at he
          have hz'c : z'.cells = splice z.cells off y.cells := by
            rw [← hz']
            split
            · rename_i hne
              have : off = 0 := by omega
              subst this
              simp [splice, hzl, hyn, hne]
            · rfl
          have hz'l : z'.cells.length = es0 := by rw [hz'c, splice_length (by omega)]; exact hzl
          refine ⟨_, _, β, run_storeVar hsz h3 hun hones hbig, he, h.kept hob (by rw [hβ]; exact only_setRow rfl) fun fb' hf hfe => ?_⟩
          have hst : Stays (c.bar β s.V) w (w.setRow b (splice cur.toList (b0 + i * es0 + off) ux.cells.toList).toArray) := fun k hk hlt => by
            refine setRow_other w b k _ fun hkb => hk (.inr ⟨o, g, _, hob, by rw [hβ, hkb]; rfl⟩)
          rw [hβ]
          have hfit' : (b0 + i * es0 + off) + ux.cells.toList.length ≤ cur.toList.length := by simp; omega
          refine .row _ _ _ _ _ (.inr ⟨hnl, b, b0, cap, _, by simp, setRow_heap w b cur _ _ _ h3, by simpa using h4, h5, by rw [List.size_toArray, splice_length hfit']; simpa using h6, h7, fun q hq => ?_, fun q cc hq hc => ?_, fun k q j cc hk hj => ?_⟩)
          · rcases List.mem_or_eq_of_mem_set hq with hq | rfl
            · exact h8 q hq
            · exact hz'l
          · rcases List.mem_or_eq_of_mem_set hq with hq | rfl
            · exact h10 q cc hq hc
            · rw [hz'c] at hc
              exact (splice_mem hc).elim (h10 z cc (List.mem_of_getElem? hz)) (hy1 cc)
          · rw [List.getElem?_toArray, splice_get hfit']
            have hlen : ux.cells.toList.length = n := by simpa using hun
            rw [hlen]
            have hjlt : j < q.cells.length := (List.getElem?_eq_some_iff.1 hj).1
            by_cases hki : i = k
            · subst hki
              simp [hi] at hk; subst hk
              rw [hz'l] at hjlt
              rw [hz'c, splice_get (by omega), hyn] at hj
              by_cases hj1 : j < off
              · rw [if_pos hj1] at hj
                rw [if_pos (by omega)]
                obtain ⟨u, hu, hd⟩ := h9 i z j cc hz hj
                exact ⟨u, by simpa using hu, hd.mono hst hf⟩
              · rw [if_neg hj1] at hj
                rw [if_neg (by omega)]
                by_cases hj2 : j < off + n
                · rw [if_pos hj2] at hj
                  rw [if_pos (by omega), show b0 + i * es0 + j - (b0 + i * es0 + off) = j - off by omega]
                  obtain ⟨u, hu⟩ : ∃ u, ux.cells[j - off]? = some u := ⟨_, Array.getElem?_eq_getElem (by omega)⟩
                  exact ⟨u, by simpa using hu, (hyr.2 _ cc u hj hu).mono hst hf⟩
                · rw [if_neg hj2] at hj
                  rw [if_neg (by omega)]
                  obtain ⟨u, hu, hd⟩ := h9 i z j cc hz hj
                  exact ⟨u, by simpa using hu, hd.mono hst hf⟩
            · rw [List.getElem?_set_ne hki] at hk
              rw [h8 q (List.mem_of_getElem? hk)] at hjlt
              obtain ⟨u, hu, hd⟩ := h9 k q j cc hk hj
              have hout : ¬ (b0 + i * es0 + off ≤ b0 + k * es0 + j ∧ b0 + k * es0 + j < b0 + i * es0 + off + n) := by
                rintro ⟨g1, g2⟩
                rcases Nat.lt_or_ge k i with hlt | hge
                · have : (k + 1) * es0 ≤ i * es0 := Nat.mul_le_mul_right _ hlt
                  rw [Nat.add_mul] at this; omega
                · have : (i + 1) * es0 ≤ k * es0 := Nat.mul_le_mul_right _ (by omega)
                  rw [Nat.add_mul] at this; omega
              refine ⟨u, ?_, hd.mono hst hf⟩
              split
              · simpa using hu
              · rw [if_neg (by omega)]; simpa using hu
      · exact he.elim
    · exact he.elim
  · exact he.elim
end
end Go.Pw
