/- Append does what 'ev' says. -/
import Derived.Test.YtgeodifpcminpaaPwP
set_option linter.all false
namespace Go.Pw
open Go.RowKit
set_option linter.unusedSimpArgs false
set_option linter.unusedVariables false

section
variable {P : Program} {w : World}
/-- Nothing is appended. -/
theorem run_app_zero {t tx ty e : TypeId} {i : TypeInfo} {z : Value} (ht : P.underlying t = some (.slice e)) (hi : P.info? e = some i) (hz : i.zero = some z) {x : Value} {news : List Value} (hs : Src P w i z tx x 0 news)
    {a : Option Addr} {sLen sCap : Nat} (hroom : sLen ≤ sCap) :
    (Builtin.append_ #[t, tx] ty #[.slice a sLen sCap, x]).run P w = .ok (.slice a sLen sCap) w ∧ news = [] := by
  have hty : ∀ w' : World, (typeInfo e).run P w' = .ok i w' := fun w' => by simp [typeInfo, hi]
  have hzv : ∀ w' : World, (zeroValue e).run P w' = .ok z w' := fun w' => by simp [zeroValue, typeInfo, hi, hz]
  rcases hs with ⟨e', hx, ⟨rfl, _, rfl⟩ | ⟨b, cap, rfl, hl, hnews⟩⟩ | ⟨hx, rfl, hn, hby', rfl, hzs, hpos⟩
  · refine ⟨?_, rfl⟩
    cases a <;> simp [Builtin.append_, run_underlying ht, run_underlying hx, sizeOf, hty, Builtin.lenOf, hroom, run_firstCells_none, storeCells]
  · have : news = [] := List.eq_nil_of_length_eq_zero (by omega)
    subst this
    refine ⟨?_, rfl⟩
    have hf := run_firstCells_some (P := P) w i.size 0 b 0 cap [] (by simp) (by simp)
    cases a <;> simp [Builtin.append_, run_underlying ht, run_underlying hx, sizeOf, hty, Builtin.lenOf, hroom, hf, storeCells]
  · have hzn : (Builtin.zeroCells z.cells 0).toList = [] := by simp [Builtin.zeroCells]
    have hw0 : IntKind.i64.wrap 0 = 0 := by have := wrap_small (n := 0) (by unfold bound; omega); simpa using this
    refine ⟨?_, hzn⟩
    cases a <;> simp [Builtin.append_, run_underlying ht, run_underlying hx, sizeOf, hty, hzv, asInt, asIntOf, hw0, hroom, storeCells]
end

section
variable {E : Env} {c : Ctx} {β : Nat → Nat → Value} {s : PSt} {tm : Array Value} {w : World} {K : AV → Chg → Prop}

theorem below_refl' (w : World) : Below w.heap.size w w := Below.refl _ _

/-- The cells of elements that lie in a row. -/
theorem src_core {fb : Nat → Prop} {ys : List D} {tx e' : TypeId} {i : TypeInfo} {z : Value} {es b off cap : Nat} {vs : Nat → Nat → Value} (hs : Unif es ys) (h1 : ∀ x c, x ∈ ys → c ∈ x.cells → c.one = true)
    (hc : ∀ (i : Nat) (x : D) (j : Nat) (c : D), ys[i]? = some x → x.cells[j]? = some c → w.cell? ⟨b, off + i * es + j, none⟩ = some (vs i j))
    (hv : ∀ (i : Nat) (x : D) (j : Nat) (c : D), ys[i]? = some x → x.cells[j]? = some c → DRep w fb c (vs i j)) (hu : Unif i.size ys) (hpos : 0 < i.size) (hx : E.P.underlying tx = some (.slice e')) :
    ∃ news, Src E.P w i z tx (.slice (some ⟨b, off, none⟩) ys.length cap) ys.length news ∧ CellsR (DRep w fb) (flatD ys) news.toArray ∧ ∀ y, y ∈ flatD ys → y.one = true := by
  cases ys with
  | nil => exact ⟨[], .inl ⟨e', hx, .inr ⟨_, cap, rfl, by simp, by simp⟩⟩, ⟨by simp [flatD], fun j x v hj => by simp [flatD] at hj⟩, by simp [flatD]⟩
  | cons y0 ys0 =>
    have hes' : i.size = es := (hu y0 (by simp)).symm.trans (hs y0 (by simp))
    subst hes'
    generalize hys : y0 :: ys0 = ys at *
    have hfl := flatD_length hu
    have hget : ∀ (q : Nat) (x : D), (flatD ys)[q]? = some x → ∃ p, ys[q / i.size]? = some p ∧ p.cells[q % i.size]? = some x := by
      intro q x hq
      have hlt : q < ys.length * i.size := by rw [← hfl]; exact (List.getElem?_eq_some_iff.1 hq).1
      have hi : q / i.size < ys.length := Nat.div_lt_of_lt_mul (by rw [Nat.mul_comm]; exact hlt)
      have hj : q % i.size < i.size := Nat.mod_lt _ hpos
      have hp : ys[q / i.size]? = some ys[q / i.size] := List.getElem?_eq_getElem hi
      have hl := hu _ (List.mem_of_getElem? hp)
      have hcx : ys[q / i.size].cells[q % i.size]? = some (ys[q / i.size].cells[q % i.size]'(by omega)) := List.getElem?_eq_getElem (by omega)
      have := flatD_get hu hp hcx
      rw [Nat.mul_comm, Nat.div_add_mod, hq] at this
      simp at this; subst this
      exact ⟨_, hp, hcx⟩
    refine ⟨(List.range (ys.length * i.size)).map fun q => vs (q / i.size) (q % i.size), .inl ⟨e', hx, .inr ⟨_, cap, rfl, by simp, fun j v hj => ?_⟩⟩, ⟨by simp [hfl], fun j x v hj hv' => ?_⟩, fun y hy => ?_⟩
    · simp only [List.getElem?_map, List.getElem?_range] at hj
      by_cases hlt : j < ys.length * i.size
      · have hj' : (flatD ys)[j]? = some ((flatD ys)[j]'(by omega)) := List.getElem?_eq_getElem (by omega)
        obtain ⟨p, hp, hpx⟩ := hget j _ hj'
        simp [hlt] at hj
        have := hc _ p _ _ hp hpx
        rw [Addr.add_lit]
        rw [show off + j = off + j / i.size * i.size + j % i.size by rw [Nat.add_assoc, Nat.mul_comm, Nat.div_add_mod]]
        rw [this, hj]
      · simp at hj
        obtain ⟨q, hq, _⟩ := hj
        have := (List.getElem?_eq_some_iff.1 hq).1
        simp at this; omega
    · obtain ⟨p, hp, hpx⟩ := hget j x hj
      have hlt : j < ys.length * i.size := by rw [← hfl]; exact (List.getElem?_eq_some_iff.1 hj).1
      simp [hlt] at hv'
      subst hv'
      exact hv _ p _ x hp hpx
    · simp only [flatD, List.mem_flatMap] at hy
      obtain ⟨q, hq, hy⟩ := hy
      exact h1 q y hq hy

/-- The cells of a slice that is appended. -/
theorem src_list {fb : Nat → Prop} {nl : Bool} {ys : List D} {u : Value} {tx e' : TypeId} {i : TypeInfo} {z : Value} (h : DRep w fb (.list nl ys) u) (hu : Unif i.size ys) (hpos : 0 < i.size) (hx : E.P.underlying tx = some (.slice e')) :
    ∃ news, Src E.P w i z tx u ys.length news ∧ CellsR (DRep w fb) (flatD ys) news.toArray ∧ ∀ y, y ∈ flatD ys → y.one = true := by
  cases h with
  | nil => exact ⟨[], .inl ⟨e', hx, .inl ⟨rfl, rfl, rfl⟩⟩, ⟨by simp [flatD], fun j x v hj => by simp [flatD] at hj⟩, by simp [flatD]⟩
  | empty a cap hm => exact ⟨[], .inl ⟨e', hx, .inr ⟨a, cap, rfl, by simp, by simp⟩⟩, ⟨by simp [flatD], fun j x v hj => by simp [flatD] at hj⟩, by simp [flatD]⟩
  | list _ es b off cap vs hcap hm hb hes hs h1 hc hv => exact src_core (E := E) hs h1 hc hv hu hpos hx

theorem src_row {fb : Nat → Prop} {ety es : Nat} {nl : Bool} {ys : List D} {u : Value} {tx e' : TypeId} {i : TypeInfo} {z : Value} (h : RowRep w fb ety es nl ys u) (hu : Unif i.size ys) (hpos : 0 < i.size) (hx : E.P.underlying tx = some (.slice e')) :
    ∃ news, Src E.P w i z tx u ys.length news ∧ CellsR (DRep w fb) (flatD ys) news.toArray ∧ ∀ y, y ∈ flatD ys → y.one = true := by
  rcases h with ⟨h1, h2, h3⟩ | ⟨h1, b, off, cap, cur, h2, h3, h4, h5, h6, h7, h8, h10, h9⟩
  · subst h2 h3
    exact ⟨[], .inl ⟨e', hx, .inl ⟨rfl, rfl, rfl⟩⟩, ⟨by simp [flatD], fun j x v hj => by simp [flatD] at hj⟩, by simp [flatD]⟩
  · subst h2
    refine src_core (E := E) (vs := fun i j => cur.getD (off + i * es + j) undef) h8 h10 (fun i x j c hi hj => ?_) (fun i x j c hi hj => ?_) hu hpos hx
    · obtain ⟨u, hu, _⟩ := h9 i x j c hi hj
      rw [cells_cell h3, hu]; simp [Array.getD_eq_getD_getElem?, hu]
    · obtain ⟨u, hu, hd⟩ := h9 i x j c hi hj
      simpa [Array.getD_eq_getD_getElem?, hu] using hd

theorem zeroCells_get {z : Array Value} {n q : Nat} (hq : q < n * z.size) (hz : 0 < z.size) : (Builtin.zeroCells z n)[q]? = z[q % z.size]? := by
  have hm : q % z.size < z.size := Nat.mod_lt _ hz
  simp only [Builtin.zeroCells, Array.getElem?_map, Array.getElem?_range, hq, if_true, Option.map_some]
  rw [getElem!_pos z _ hm, Array.getElem?_eq_getElem hm]

/-- What 'appSrc' tells of the second operand. -/
theorem src_rep (h : Rel E c β s tm w) {tx e : TypeId} {i : TypeInfo} {zv : Value} {zo : Option D} {y : AV} {u : Value} {ys : List D} (hy : AVRep w (c.bar β s.V) β s.V.cn y u) (hs : appSrc s.V zo y = some ys) (hu : Unif i.size ys) (hpos : 0 < i.size)
    (hcase : (zo = none ∧ ∃ e', E.P.underlying tx = some (.slice e')) ∨ (∃ z, zo = some z ∧ E.P.underlying tx = some (.int .i64) ∧ zeroD E.P e = some z ∧ E.P.info? e = some i ∧ i.zero = some zv ∧ z.cells.length = i.size ∧ i.bytes ≤ 65536)) :
    ∃ news, Src E.P w i zv tx u ys.length news ∧ CellsR (DRep w (c.bar β s.V)) (flatD ys) news.toArray ∧ ∀ y, y ∈ flatD ys → y.one = true := by
  rcases hcase with ⟨rfl, e', hx⟩ | ⟨z, rfl, hx, hz, hi, hzv, hzl, hby⟩
  · simp only [appSrc] at hs
    split at hs
    · rename_i nl l hl
      simp at hs; subst hs
      unfold AV.asList at hl
      split at hl
      · simp at hl; obtain ⟨rfl, rfl⟩ := hl
        cases hy with | d _ _ hy => exact src_list (E := E) hy hu hpos hx
      · simp at hl; obtain ⟨rfl, rfl⟩ := hl
        cases hy with | ex _ a hy => exact src_list (E := E) hy hu hpos hx
      · rename_i o g
        split at hl
        · rename_i ety es nl l hg
          simp at hl; obtain ⟨rfl, rfl⟩ := hl
          cases hy with
          | own _ _ hgg hone =>
            obtain ⟨_, ho⟩ := h.objs _ _ _ (View.get_some hg)
            generalize hv : β o g = v at ho
            cases ho with | row _ _ _ _ _ ho => exact src_row (E := E) ho hu hpos hx
        · cases hl
      · cases hl
    · cases hs
  · simp only [appSrc] at hs
    split at hs
    · rename_i n
      split at hs
      · rename_i hn
        simp at hs; subst hs
        obtain ⟨rfl, _⟩ := rep_int hy
        obtain ⟨i', zv', hi', hzv', hzr, hz1, hzs, hzc⟩ := zeroD_val hz
        rw [hi] at hi'; simp at hi'; subst hi'
        rw [hzv] at hzv'; simp at hzv'; subst hzv'
        refine ⟨_, .inr ⟨hx, by simp; omega, by simp; omega, by omega, rfl, by omega, hpos⟩, ⟨?_, fun q x v hq hv => ?_⟩, fun y hy => ?_⟩
        · rw [flatD_length hu]; simp [Builtin.zeroCells, hzs, hzl]
        · obtain ⟨a1, a2⟩ := flatD_replicate hzl hpos hq
          obtain ⟨u', hu', hd⟩ := hzc w (c.bar β s.V) _ _ a2
          have hlt : q < (List.replicate n.toNat z).length * zv.cells.size := by rw [hzs, hzl, ← flatD_length hu]; exact (List.getElem?_eq_some_iff.1 hq).1
          have := zeroCells_get hlt (by omega)
          simp only [Array.toArray_toList] at hv
          rw [hv, hzs, hzl, hu'] at this
          simp at this; subst this; exact hd
        · simp only [flatD, List.mem_flatMap] at hy
          obtain ⟨q, hq, hy⟩ := hy
          rw [List.eq_of_mem_replicate hq] at hy; exact hz1 y hy
      · cases hs
    · cases hs

/-- A row that has grown: the old cells, the new ones. -/
theorem grown_row {w' : World} {fb : Nat → Prop} {ety es : Nat} {l ys : List D} {b : Nat} {cap : Nat} {cur : Array Value} {olds news : List Value} {rest : Array Value} (hb : w'.heap[b]? = some (.cells cur ety (0, 0))) (hcur : cur = (olds ++ news).toArray ++ rest)
    (hsz : cap * es ≤ cur.size) (hlc : (l ++ ys).length ≤ cap) (hm : cap ≤ maxLen) (hes : 0 < es) (hul : Unif es l) (huy : Unif es ys) (h1l : ∀ x c, x ∈ l → c ∈ x.cells → c.one = true) (h1y : ∀ y, y ∈ flatD ys → y.one = true)
    (hol : olds.length = l.length * es) (hold : ∀ (q : Nat) (x : D) (v : Value), (flatD l)[q]? = some x → olds[q]? = some v → DRep w' fb x v) (hnew : ∀ (q : Nat) (x : D) (v : Value), (flatD ys)[q]? = some x → news[q]? = some v → DRep w' fb x v) (hnl : news.length = ys.length * es) :
    RowRep w' fb ety es false (l ++ ys) (.slice (some ⟨b, 0, none⟩) (l ++ ys).length cap) := by
  have hu : Unif es (l ++ ys) := fun x hx => (List.mem_append.1 hx).elim (hul x) (huy x)
  refine rowRep_of hb hlc hm hsz hes hu (fun x c hx hc => (List.mem_append.1 hx).elim (fun h => h1l x c h hc) (fun h => h1y c (List.mem_flatMap.2 ⟨x, h, hc⟩))) fun q x hq => ?_
  have hfa : flatD (l ++ ys) = flatD l ++ flatD ys := by simp [flatD]
  have e1 := flatD_length hul
  have e2 := flatD_length huy
  rw [hfa] at hq
  subst hcur
  by_cases hlt : q < (flatD l).length
  · rw [List.getElem?_append_left hlt] at hq
    obtain ⟨v, hv⟩ : ∃ v, olds[q]? = some v := ⟨_, List.getElem?_eq_getElem (by omega)⟩
    refine ⟨v, ?_, hold q x v hq hv⟩
    rw [Array.getElem?_append_left (by simp; omega), List.getElem?_toArray, List.getElem?_append_left (by omega)]; exact hv
  · rw [List.getElem?_append_right (by omega)] at hq
    have := (List.getElem?_eq_some_iff.1 hq).1
    obtain ⟨v, hv⟩ : ∃ v, news[q - (flatD l).length]? = some v := ⟨_, List.getElem?_eq_getElem (by omega)⟩
    refine ⟨v, ?_, hnew _ x v hq hv⟩
    rw [Array.getElem?_append_left (by simp; omega), List.getElem?_toArray, List.getElem?_append_right (by omega), ← hv]
    congr 1; omega

theorem sound_app (h : Rel E c β s tm w) {t tx ty e : TypeId} {i : TypeInfo} {zv : Value} {zo : Option D} {own : Bool} {dst : Option Nat} (ht : E.P.underlying t = some (.slice e)) (hi : E.P.info? e = some i) (hzv : i.zero = some zv) (hpos : 0 < i.size) (hby : i.bytes ≤ 65536) (hzs : zv.cells.size = i.size)
    (hcase : (zo = none ∧ ∃ e', E.P.underlying tx = some (.slice e')) ∨ (∃ z, zo = some z ∧ E.P.underlying tx = some (.int .i64) ∧ zeroD E.P e = some z ∧ E.P.info? e = some i ∧ i.zero = some zv ∧ z.cells.length = i.size ∧ i.bytes ≤ 65536))
    {x y : AV} {ux uy : Value} (hx : AVRep w (c.bar β s.V) β s.V.cn x ux) (hy : AVRep w (c.bar β s.V) β s.V.cn y uy) (he : ev E dst s.V (.app e i.size zo own) [x, y] K) :
    GotV E c s tm K ((Builtin.append_ #[t, tx] ty #[ux, uy]).run E.P w) := by
  unfold ev at he
  simp only at he
  split at he
  · exact he.elim
  rename_i ys hs
  -- the growth: from old cells that are read in w, into a new block
  have grow : ∀ (l : List D) (a : Option Addr) (sCap : Nat) (olds : List Value), Unif i.size ys → Unif i.size l → (∀ x c, x ∈ l → c ∈ x.cells → c.one = true) → olds.length = l.length * i.size →
      ((a = none ∧ l.length = 0) ∨ ∃ ad, a = some ad ∧ ∀ (j : Nat) (v : Value), olds[j]? = some v → w.cell? (ad.add j) = some v) →
      (∀ (q : Nat) (x : D) (v : Value), (flatD l)[q]? = some x → olds[q]? = some v → DRep w (c.bar β s.V) x v) → sCap < l.length + ys.length → l.length + ys.length ≤ bound →
      ∃ vo w', (Builtin.append_ #[t, tx] ty #[.slice a l.length sCap, uy]).run E.P w = .ok vo w' ∧ Below w.heap.size w w' ∧ vo.oneCell' = true ∧ (∀ b, rowBlk vo = some b → w.heap.size ≤ b ∧ b < w'.heap.size) ∧
        ∀ fb', (∀ b, b < w.heap.size → fb' b → c.bar β s.V b) → RowRep w' fb' e i.size false (l ++ ys) vo := by
    intro l a sCap olds huy hul h1l hol holds hold hroom hlen
    obtain ⟨news, hsrc, hnews, hn1⟩ := src_rep h (e := e) (zv := zv) hy hs huy hpos hcase
    obtain ⟨cap, cur, hrun, hc1, hc2, hcur⟩ := run_app_grow (P := E.P) (ty := ty) ht hi hzv hby hsrc hol holds hroom hlen
    have hb := below_drew_alloc w (.cells cur e)
    have hnl : news.length = ys.length * i.size := by have := hnews.1; rw [flatD_length huy] at this; simpa using this
    refine ⟨_, _, hrun, hb, rfl, fun b hbb => by simp [rowBlk] at hbb; subst hbb; exact ⟨Nat.le_refl _, by simp⟩, fun fb' hfb => ?_⟩
    have hlen2 : (l ++ ys).length = l.length + ys.length := by simp
    rw [← hlen2]
    refine grown_row (w' := w.drew.alloc (.cells cur e)) (heap_alloc_new w.drew _) hcur ?_ (by omega) hc2 hpos hul huy h1l hn1 hol (fun q x v hq hv => (hold q x v hq hv).mono (.of_below hb) hfb)
      (fun q x v hq hv => (hnews.2 q x v hq (by simpa using hv)).mono (.of_below hb) hfb) hnl
    rw [hcur]
    simp only [Array.size_append, List.size_toArray, List.length_append, size_zeroCells, hzs, hol, hnl, ← Nat.add_mul]
    exact Nat.mul_le_mul_right _ (by omega)
  have nilgrow : Unif i.size ys → ys.length ≤ bound → ys ≠ [] → ∃ vo w', (Builtin.append_ #[t, tx] ty #[.slice none 0 0, uy]).run E.P w = .ok vo w' ∧ Below w.heap.size w w' ∧ vo.oneCell' = true ∧ (∀ b, rowBlk vo = some b → w.heap.size ≤ b ∧ b < w'.heap.size) ∧
        ∀ fb', (∀ b, b < w.heap.size → fb' b → c.bar β s.V b) → RowRep w' fb' e i.size false ys vo := by
    intro huy hlen hne
    have hp : 0 < ys.length := List.length_pos_iff.2 hne
    have := grow [] none 0 [] huy (by simp [Unif]) (by simp) (by simp) (.inl ⟨rfl, rfl⟩) (by simp [flatD]) (by simpa using hp) (by simpa using hlen)
    simpa using this
  have nilzero : ys = [] → (Builtin.append_ #[t, tx] ty #[.slice none 0 0, uy]).run E.P w = .ok (.slice none 0 0) w := by
    intro hne; subst hne
    obtain ⟨news, hsrc, _, _⟩ := src_rep h (e := e) (zv := zv) hy hs (by simp [Unif]) hpos hcase
    exact (run_app_zero (P := E.P) (ty := ty) ht hi hzv hsrc (a := none) (Nat.le_refl 0)).1
  split at he
  · -- an own row
    rename_i o g
    split at he
    · rename_i ety' es' nl l hg
      obtain ⟨hol, rfl, rfl, huy, hlen, he⟩ := he
      cases hx with
      | own _ _ hgg hone =>
        obtain ⟨_, ho⟩ := h.objs _ _ _ (View.get_some hg)
        have hvo : ∃ v, β o g = v := ⟨_, rfl⟩
        obtain ⟨v, hv⟩ := hvo
        rw [hv] at ho ⊢
        cases ho with
        | row _ _ _ _ _ ho =>
          rcases ho with ⟨h1, h2, h3⟩ | ⟨h1, b, off, cap, cur, h2, h3, h4, h5, h6, h7, h8, h10, h9⟩
          · subst h1 h2 h3
            by_cases hne : ys = []
            · have hz := nilzero hne
              subst hne
              obtain ⟨β', h5, h6⟩ := fresh_row h (t := o) hol (below_refl' w) (ety := e) (es := i.size) (nl := true) (l := []) (vo := .slice none 0 0) rfl (fun b hb => by simp [rowBlk] at hb) fun fb' _ => .inl ⟨rfl, rfl, rfl⟩
              exact ⟨_, _, _, _, β', hz, he, h5, h6⟩
            · obtain ⟨vo, w', k1, k2, k3, k4, k5⟩ := nilgrow huy (by simpa using hlen) hne
              obtain ⟨β', h5, h6⟩ := fresh_row h (t := o) hol k2 k3 k4 k5
              have : (true && ys.isEmpty) = false := by cases ys <;> simp_all
              rw [this] at he
              exact ⟨_, _, _, _, β', k1, he, h5, h6⟩
          · subst h1 h2
            simp only [Bool.false_and] at he
            by_cases hroom : l.length + ys.length ≤ cap
            · -- in place
              obtain ⟨news, hsrc, hnews, hn1⟩ := src_rep h (e := e) (zv := zv) hy hs huy hpos hcase
              have hnl : news.length = ys.length * i.size := by have := hnews.1; rw [flatD_length huy] at this; simpa using this
              have hfit : off + l.length * i.size + news.length ≤ cur.size := by
                have : (l.length + ys.length) * i.size ≤ cap * i.size := Nat.mul_le_mul_right _ hroom
                rw [Nat.add_mul] at this; omega
              have hrun := run_app_room (P := E.P) (ty := ty) ht hi hzv hsrc h3 hroom hfit (fun v hv => by
                obtain ⟨q, hq⟩ := List.mem_iff_getElem?.1 hv
                have hql : q < (flatD ys).length := by rw [flatD_length huy, ← hnl]; exact (List.getElem?_eq_some_iff.1 hq).1
                have hqx : (flatD ys)[q]? = some (flatD ys)[q] := List.getElem?_eq_getElem hql
                exact (hnews.2 q _ v hqx (by simpa using hq)).oneCell (hn1 _ (List.mem_of_getElem? hqx)))
              have hlt : b < w.heap.size := (Array.getElem?_eq_some_iff.1 h3).1
              have hmine : c.bar β s.V b := .inr ⟨o, g, _, View.get_some hg, by rw [hv]; rfl⟩
              have hcl : (splice cur.toList (off + l.length * i.size) news).length = cur.size := by rw [splice_length (by simpa using hfit)]; simp
              have hsc : ∀ (q : Nat), (splice cur.toList (off + l.length * i.size) news).toArray[q]? = if off + l.length * i.size ≤ q ∧ q < off + l.length * i.size + news.length then news[q - (off + l.length * i.size)]? else cur[q]? := by
                intro q
                rw [List.getElem?_toArray, splice_get (by simpa using hfit)]
                simp
                by_cases k1 : q < off + l.length * i.size
                · rw [if_pos k1, if_neg (by omega)]
                · rw [if_neg k1]
                  by_cases k2 : q < off + l.length * i.size + news.length
                  · rw [if_pos k2, if_pos ⟨by omega, k2⟩]
                  · rw [if_neg k2, if_neg (by omega)]
              have honly : Only (.slice (some ⟨b, off, none⟩) (l.length + ys.length) cap) w (w.setRow b (splice cur.toList (off + l.length * i.size) news).toArray) := only_setRow rfl
              have hst : Stays (c.bar β s.V) w (w.setRow b (splice cur.toList (off + l.length * i.size) news).toArray) := fun k hk hlk => honly.block k hlk (by simp [rowBlk]; rintro rfl; exact hk hmine)
              have hrel := h.fresh (o := o) (x := .row e i.size false (l ++ ys)) hol honly (fun b' hb' => by
                simp [rowBlk] at hb'; subst hb'
                refine ⟨by simpa using hlt, .inr ⟨g, _, View.get_some hg, by rw [hv]; rfl⟩⟩) (fun β' fb' _ _ hf => .row _ _ _ _ _ (.inr ⟨rfl, b, off, cap, (splice cur.toList (off + l.length * i.size) news).toArray, by simp, ?_, by simpa using hroom, h5, by simpa [hcl] using h6, hpos, fun x hx => (List.mem_append.1 hx).elim (h8 x) (huy x),
                  fun x cc hx hc => (List.mem_append.1 hx).elim (fun hh => h10 x cc hh hc) (fun hh => hn1 cc (List.mem_flatMap.2 ⟨x, hh, hc⟩)), fun p x j cc hp hj => ?_⟩))
              · refine ⟨_, _, _, _, _, hrun, he, hrel, AVRep.own_new rfl (cn_fresh _ _ _)⟩
              · exact setRow_heap w b cur _ e _ h3
              · have hjl : j < i.size := by
                  have := (List.getElem?_eq_some_iff.1 hj).1
                  have h11 : x.cells.length = i.size := (List.mem_append.1 (List.mem_of_getElem? hp)).elim (h8 x) (huy x)
                  omega
                rw [hsc]
                by_cases hpl : p < l.length
                · rw [List.getElem?_append_left hpl] at hp
                  obtain ⟨u, hu, hd⟩ := h9 p x j cc hp hj
                  have : p * i.size + j < l.length * i.size := by
                    have : (p + 1) * i.size ≤ l.length * i.size := Nat.mul_le_mul_right _ hpl
                    rw [Nat.add_mul] at this; omega
                  rw [if_neg (by omega)]
                  exact ⟨u, hu, hd.mono hst hf⟩
                · rw [List.getElem?_append_right (by omega)] at hp
                  have hge : l.length * i.size ≤ p * i.size := Nat.mul_le_mul_right _ (by omega)
                  have hfy := flatD_get huy hp hj
                  have hql := (List.getElem?_eq_some_iff.1 hfy).1
                  rw [flatD_length huy] at hql
                  have hsub : (p - l.length) * i.size = p * i.size - l.length * i.size := Nat.sub_mul _ _ _
                  rw [if_pos (by omega), show off + p * i.size + j - (off + l.length * i.size) = (p - l.length) * i.size + j by omega]
                  have hqn : news[(p - l.length) * i.size + j]? = some (news[(p - l.length) * i.size + j]'(by omega)) := List.getElem?_eq_getElem (by omega)
                  exact ⟨_, hqn, (hnews.2 _ _ _ hfy (by simpa using hqn)).mono hst hf⟩
            · -- it grows
              have hcs : ∀ q, q < l.length * i.size → ∃ v, cur[off + q]? = some v := fun q hq => by
                have : l.length * i.size ≤ cap * i.size := Nat.mul_le_mul_right _ h4
                exact ⟨_, Array.getElem?_eq_getElem (by omega)⟩
              obtain ⟨vo, w', k1, k2, k3, k4, k5⟩ := grow l (some ⟨b, off, none⟩) cap ((List.range (l.length * i.size)).map fun q => cur.getD (off + q) undef) huy h8 h10 (by simp) (.inr ⟨_, rfl, fun j v hj => by
                  have hjl : j < l.length * i.size := by have := (List.getElem?_eq_some_iff.1 hj).1; simpa using this
                  obtain ⟨u, hu⟩ := hcs j hjl
                  simp [hjl, Array.getD_eq_getD_getElem?, hu] at hj
                  subst hj
                  rw [Addr.add_lit, cells_cell h3, hu]⟩) (fun q x v hq hv => by
                  have hql : q < l.length * i.size := by rw [← flatD_length h8]; exact (List.getElem?_eq_some_iff.1 hq).1
                  have hdv : q / i.size < l.length := Nat.div_lt_of_lt_mul (by rw [Nat.mul_comm]; exact hql)
                  have hmd : q % i.size < i.size := Nat.mod_lt _ hpos
                  have hp : l[q / i.size]? = some l[q / i.size] := List.getElem?_eq_getElem hdv
                  have hpl := h8 _ (List.mem_of_getElem? hp)
                  have hcx : l[q / i.size].cells[q % i.size]? = some (l[q / i.size].cells[q % i.size]'(by omega)) := List.getElem?_eq_getElem (by omega)
                  have hfl := flatD_get h8 hp hcx
                  rw [Nat.mul_comm, Nat.div_add_mod, hq] at hfl
                  simp at hfl
                  obtain ⟨u, hu, hd⟩ := h9 _ _ _ _ hp hcx
                  rw [Nat.add_assoc, Nat.mul_comm, Nat.div_add_mod] at hu
                  simp [hql, Array.getD_eq_getD_getElem?, hu] at hv
                  subst hv; rw [hfl]; exact hd) (by omega) hlen
              obtain ⟨β', h5, h6⟩ := fresh_row h (t := o) hol k2 k3 k4 k5
              exact ⟨_, _, _, _, β', k1, he, h5, h6⟩
    · exact he.elim
  · -- nil
    obtain ⟨huy, hlen, he⟩ := he
    cases hx with
    | d _ _ hx =>
      have hux : ux = .slice none 0 0 := by cases hx; rfl
      subst hux
      by_cases hne : ys = []
      · have hz := nilzero hne
        subst hne
        split at he
        · split at he
          · rename_i t'
            obtain ⟨β', h5, h6⟩ := fresh_row h (t := t') he.1 (below_refl' w) (ety := e) (es := i.size) (nl := true) (l := []) (vo := .slice none 0 0) rfl (fun b hb => by simp [rowBlk] at hb) fun fb' _ => .inl ⟨rfl, rfl, rfl⟩
            exact ⟨_, _, _, _, β', hz, he.2, h5, h6⟩
          · exact he.elim
        · exact gotV_same h he hz (.d _ _ .nil)
      · obtain ⟨vo, w', k1, k2, k3, k4, k5⟩ := nilgrow huy hlen hne
        have hie : ys.isEmpty = false := by cases ys <;> simp_all
        rw [hie] at he
        split at he
        · split at he
          · rename_i t'
            obtain ⟨β', h5, h6⟩ := fresh_row h (t := t') he.1 k2 k3 k4 k5
            exact ⟨_, _, _, _, β', k1, he.2, h5, h6⟩
          · exact he.elim
        · refine ⟨_, _, _, .none, β, k1, he, h.grow k2, .d _ _ (listRep_of_row (k5 _ fun b _ hb => hb) fun b hb hbar => ?_)⟩
          have := bar_lt h hbar; have := (k4 b hb).1; omega
  · -- a literal
    rename_i l
    obtain ⟨hu, hlen, he⟩ := he
    have hul : Unif i.size l := fun x hx => hu x (by simp [hx])
    have huy : Unif i.size ys := fun x hx => hu x (by simp [hx])
    cases hx with
    | ex _ a hx =>
      by_cases hne : ys = []
      · subst hne
        obtain ⟨news, hsrc, _, _⟩ := src_rep h (e := e) (zv := zv) hy hs (by simp [Unif]) hpos hcase
        have hz := (run_app_zero (P := E.P) (ty := ty) ht hi hzv hsrc (a := some a) (Nat.le_refl l.length)).1
        split at he
        · split at he
          · exact gotV_same h he hz (.ex _ a hx)
          · exact he.elim
        · simp only [List.append_nil] at he
          exact gotV_same h he hz (.d _ _ hx)
      · have hyp : 0 < ys.length := List.length_pos_iff.2 hne
        obtain ⟨olds, hsl, hol, ho1⟩ := src_list (E := E) (tx := t) (z := zv) hx hul hpos ht
        have hlo : olds.length = l.length * i.size := by have := hol.1; rw [flatD_length hul] at this; simpa using this
        have hcells : ∀ (j : Nat) (v : Value), olds[j]? = some v → w.cell? (a.add j) = some v := by
          rcases hsl with ⟨e', _, ⟨h1, _, _⟩ | ⟨a', cap, h1, _, h2⟩⟩ | ⟨_, h1, _⟩
          · cases h1
          · simp at h1; obtain ⟨rfl, _⟩ := h1; exact h2
          · cases h1
        obtain ⟨vo, w', k1, k2, k3, k4, k5⟩ := grow l (some a) l.length olds huy hul (fun x cc hx hc => ho1 cc (List.mem_flatMap.2 ⟨x, hx, hc⟩)) hlo (.inr ⟨a, rfl, hcells⟩) (fun q x v hq hv => hol.2 q x v hq (by simpa using hv)) (by omega) hlen
        split at he
        · split at he
          · rename_i t'
            split at he
            · exact absurd rfl hne
            · obtain ⟨β', h5, h6⟩ := fresh_row h (t := t') he.1 k2 k3 k4 k5
              exact ⟨_, _, _, _, β', k1, he.2, h5, h6⟩
          · exact he.elim
        · refine ⟨_, _, _, .none, β, k1, he, h.grow k2, .d _ _ (listRep_of_row (k5 _ fun b _ hb => hb) fun b hb hbar => ?_)⟩
          have := bar_lt h hbar; have := (k4 b hb).1; omega
  · exact he.elim
end
end Go.Pw
