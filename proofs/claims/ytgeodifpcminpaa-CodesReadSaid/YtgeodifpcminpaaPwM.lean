/- New objects, stores into cells, literals. -/
import Derived.Test.YtgeodifpcminpaaPwL
set_option linter.all false
namespace Go.Pw
open Go.RowKit
set_option linter.unusedSimpArgs false
set_option linter.unusedVariables false
section
variable {E : Env} {c : Ctx} {β : Nat → Nat → Value} {s : PSt} {tm : Array Value} {w : World} {K : AV → Chg → Prop}

theorem below_alloc (w : World) (o : Obj) : Below w.heap.size w (w.alloc o) := (Below.refl _ _).alloc (Nat.le_refl _) o
theorem below_drew (w : World) : Below w.heap.size w w.drew := (Below.refl _ _).drew
theorem below_drew_alloc (w : World) (o : Obj) : Below w.heap.size w (w.drew.alloc o) := ((Below.refl _ _).drew).alloc (Nat.le_refl _) o

theorem cells_one {v : Value} (h : v.oneCell' = true) : v.cells = #[v] := by cases v <;> first | rfl | simp [Value.oneCell'] at h

theorem cells?_rep {fb β' cn} {x : AV} {u : Value} {cs : List AV} (h : AVRep w fb β' cn x u) (hc : x.cells? = some cs) : CellsR (AVRep w fb β' cn) cs u.cells ∧ ∀ y, y ∈ cs → y.one = true := by
  have one : ∀ {y : AV}, AVRep w fb β' cn y u → y.one = true → CellsR (AVRep w fb β' cn) [y] u.cells ∧ ∀ z, z ∈ [y] → z.one = true := by
    intro y hy h1
    rw [cells_one (hy.oneCell h1)]
    refine ⟨⟨rfl, fun i c v hc hv => ?_⟩, by simpa using h1⟩
    match i with
    | 0 => simp at hc hv; subst hc hv; exact hy
    | i + 1 => simp at hc
  have dcase : ∀ ds : List D, x = .d (.agg ds) → CellsR (AVRep w fb β' cn) (ds.map .d) u.cells ∧ ∀ y, y ∈ ds.map AV.d → y.one = true := by
    intro ds hx
    subst hx
    obtain ⟨vs, rfl, h2, h3⟩ := dagg_inv h
    refine ⟨⟨by simpa [Value.cells] using h2.1, fun i c v hc hv => ?_⟩, by simpa [AV.one] using h3⟩
    rw [List.getElem?_map] at hc
    cases hd : ds[i]? with
    | none => simp [hd] at hc
    | some d => simp [hd] at hc; subst hc; exact .d _ _ (h2.2 i d v hd hv)
  cases x with
  | agg cs' =>
    simp [AV.cells?] at hc; subst hc
    obtain ⟨vs, rfl, h2, h3⟩ := agg_inv h
    exact ⟨h2, h3⟩
  | d y =>
    cases y <;> simp [AV.cells?] at hc <;> subst hc <;> first | exact dcase _ rfl | exact one h rfl
  | tup => simp [AV.cells?] at hc
  | undef => simp [AV.cells?] at hc
  | _ => simp [AV.cells?] at hc; subst hc; exact one h rfl

/-- New cells. -/
theorem fresh_cells (h : Rel E c β s tm w) {t : Nat} (hlim : t < lim) {cs : List AV} {cur : Array Value} {e : TypeId} (hR : CellsR (AVRep w (c.bar β s.V) β s.V.cn) cs cur) (h1 : ∀ y, y ∈ cs → y.one = true) :
    ∃ β', Rel E c β' ⟨s.sl, s.V.app (.fresh t (.cells cs))⟩ tm (w.alloc (.cells cur e)) ∧
      AVRep (w.alloc (.cells cur e)) (c.bar β' (s.V.app (.fresh t (.cells cs)))) β' (s.V.app (.fresh t (.cells cs))).cn (.ptr t (s.V.cn t) 0) (.pointer (some ⟨w.heap.size, 0, none⟩)) := by
  refine ⟨upd2 β t (s.V.cn t) (.pointer (some ⟨w.heap.size, 0, none⟩)), h.fresh hlim (.of_below _ (below_alloc w _)) (fun b hb => ?_) (fun β' fb' hβ' hfe hf => ?_), .ptr _ _ _ w.heap.size (cn_fresh _ _ _) (upd2_same _ _ _ _)⟩
  · simp [rowBlk] at hb; subst hb; exact ⟨by simp, .inl (Nat.le_refl _)⟩
  · refine .cells cs w.heap.size cur e (heap_alloc_new w _) hR.1 h1 fun i x u hx hu => ?_
    refine (hR.2 i x u hx hu).mono (.of_below (below_alloc w _)) hf (fun o g hg => ?_) (fun k => ?_)
    · rw [hβ']; exact upd2_lt o g hg
    · simp only [View.app, upd]; split <;> simp_all

theorem sound_box (h : Rel E c β s tm w) {t : Nat} {x : AV} {u : Value} {e : TypeId} (hx : AVRep w (c.bar β s.V) β s.V.cn x u) (he : ev E (some t) s.V .box [x] K) :
    GotV E c s tm K ((Instr.box e u).run E.P w) := by
  unfold ev at he
  simp only at he
  split at he
  · rename_i cs hc
    obtain ⟨h3, h4⟩ := cells?_rep hx hc
    obtain ⟨β', h5, h6⟩ := fresh_cells h (t := t) he.1 (e := e) h3 h4
    exact ⟨_, _, _, _, β', by simp [Instr.box, newVar, newRow], he.2, h5, h6⟩
  · exact he.elim

theorem zeroCs_run {t : TypeId} {z : List D} (h : zeroCs E.P t = some z) : ∃ v, (zeroValue t).run E.P w = .ok v w ∧ ∀ fb, CellsR (DRep w fb) z v.cells ∧ ∀ y, y ∈ z → y.one = true := by
  unfold zeroCs at h
  cases hi : E.P.info? t with
  | none => simp [hi] at h
  | some i =>
    simp only [hi, Option.bind_some] at h
    split at h
    · rename_i v hz
      refine ⟨v, by simp [zeroValue, typeInfo, hi, hz], fun fb => ⟨⟨by rw [listM_length h]; simp, fun i y u hy hu => ?_⟩, fun y hy => ?_⟩⟩
      · obtain ⟨x, hx, hxy⟩ := listM_get' h hy
        have : x = u := by simpa [Array.getElem?_toList, hu] using hx.symm
        subst this
        exact decV_rep hxy
      · obtain ⟨x, _, hx⟩ := listM_mem h hy
        unfold decV at hx
        split at hx <;> (try split at hx) <;> simp at hx <;> subst hx <;> rfl
    · cases h

theorem cellsR_d {fb β' cn} {l : List D} {vs : Array Value} (h : CellsR (DRep w fb) l vs) : CellsR (AVRep w fb β' cn) (l.map .d) vs := by
  refine ⟨by simpa using h.1, fun i c v hc hv => ?_⟩
  rw [List.getElem?_map] at hc
  cases hd : l[i]? with
  | none => simp [hd] at hc
  | some d => simp [hd] at hc; subst hc; exact .d _ _ (h.2 i d v hd hv)

theorem sound_zero (h : Rel E c β s tm w) {t : Nat} {e : TypeId} {z : List D} (hz : zeroCs E.P e = some z) (he : ev E (some t) s.V (.zero z) [] K) :
    GotV E c s tm K ((Instr.alloc e true (.tuple #[])).run E.P w) := by
  unfold ev at he
  simp only at he
  obtain ⟨v, hv, hr⟩ := zeroCs_run (w := w) hz
  obtain ⟨hr, h1⟩ := hr (c.bar β s.V)
  obtain ⟨β', h5, h6⟩ := fresh_cells h (t := t) he.1 (e := e) (cellsR_d hr) (by simpa [AV.one] using h1)
  exact ⟨_, _, _, _, β', by simp [Instr.alloc, hv, newVar, newRow], he.2, h5, h6⟩

theorem sound_mkmap (h : Rel E c β s tm w) {t : Nat} {e : TypeId} {tys : KTy} (he : ev E (some t) s.V (.mkmap tys) [] K) :
    GotV E c s tm K ((Instr.makeMap e none).run E.P w) := by
  unfold ev at he
  simp only at he
  refine ⟨_, _, _, _, upd2 β t (s.V.cn t) (.map (some w.heap.size)), run_makeMap _ _, he.2, h.fresh he.1 (.of_below _ (below_alloc w _)) (fun b hb => ?_) (fun β' fb' hβ' hfe hf => ?_), AVRep.map_new rfl (cn_fresh _ _ _)⟩
  · simp [rowBlk] at hb; subst hb; exact ⟨by simp, .inl (Nat.le_refl _)⟩
  · exact .map tys [] w.heap.size #[] (heap_alloc_new w _) rfl fun i kv e h1 => by simp at h1

/-- New rows. -/
theorem fresh_row (h : Rel E c β s tm w) {t : Nat} (hlim : t < lim) {ety es : Nat} {nl : Bool} {l : List D} {vo : Value} {w' : World} (hw : Below w.heap.size w w') (h1 : vo.oneCell' = true)
    (hb : ∀ b, rowBlk vo = some b → w.heap.size ≤ b ∧ b < w'.heap.size) (hr : ∀ fb', (∀ b, b < w.heap.size → fb' b → c.bar β s.V b) → RowRep w' fb' ety es nl l vo) :
    ∃ β', Rel E c β' ⟨s.sl, s.V.app (.fresh t (.row ety es nl l))⟩ tm w' ∧ AVRep w' (c.bar β' (s.V.app (.fresh t (.row ety es nl l)))) β' (s.V.app (.fresh t (.row ety es nl l))).cn (.own t (s.V.cn t)) vo :=
  ⟨upd2 β t (s.V.cn t) vo, h.fresh hlim (.of_below _ hw) (fun b hbb => ⟨(hb b hbb).2, .inl (hb b hbb).1⟩) (fun β' fb' hβ' hfe hf => .row _ _ _ _ _ (hr fb' hf)), AVRep.own_new h1 (cn_fresh _ _ _)⟩

/-- The cells of some elements, one behind the other. -/
def flatD (l : List D) : List D := l.flatMap D.cells

theorem flatD_get {es : Nat} : ∀ {l : List D}, Unif es l → ∀ {i j : Nat} {x c : D}, l[i]? = some x → x.cells[j]? = some c → (flatD l)[i * es + j]? = some c
  | [], _, i, j, x, c, hi, _ => by simp at hi
  | y :: l, hu, 0, j, x, c, hi, hj => by
    simp at hi; subst hi
    simp only [flatD, List.flatMap_cons, Nat.zero_mul, Nat.zero_add]
    rw [List.getElem?_append_left (List.getElem?_eq_some_iff.1 hj).1]; exact hj
  | y :: l, hu, i + 1, j, x, c, hi, hj => by
    simp at hi
    have := flatD_get (l := l) (fun z hz => hu z (by simp [hz])) hi hj
    have hy := hu y (by simp)
    simp only [flatD, List.flatMap_cons] at this ⊢
    rw [List.getElem?_append_right (by rw [hy, Nat.add_mul]; omega), hy, show (i + 1) * es + j - es = i * es + j by rw [Nat.add_mul]; omega]
    exact this
theorem flatD_length {es : Nat} : ∀ {l : List D}, Unif es l → (flatD l).length = l.length * es
  | [], _ => by simp [flatD]
  | y :: l, hu => by
    have := flatD_length (l := l) (fun z hz => hu z (by simp [hz]))
    have hy := hu y (by simp)
    simp only [flatD, List.flatMap_cons, List.length_append, List.length_cons] at this ⊢
    rw [this, hy, Nat.add_mul]; omega

/-- A row whose first cells read as the elements. -/
theorem rowRep_of {w' : World} {fb : Nat → Prop} {ety es : Nat} {l : List D} {b : Nat} {cap : Nat} {cur : Array Value} (hb : w'.heap[b]? = some (.cells cur ety (0, 0))) (hlc : l.length ≤ cap) (hm : cap ≤ maxLen) (hsz : cap * es ≤ cur.size) (hes : 0 < es)
    (hu : Unif es l) (h1 : ∀ x c, x ∈ l → c ∈ x.cells → c.one = true) (hR : ∀ (q : Nat) (x : D), (flatD l)[q]? = some x → ∃ u, cur[q]? = some u ∧ DRep w' fb x u) :
    RowRep w' fb ety es false l (.slice (some ⟨b, 0, none⟩) l.length cap) :=
  .inr ⟨rfl, b, 0, cap, cur, rfl, hb, hlc, hm, by omega, hes, hu, h1, fun i x j cc hi hj => by rw [Nat.zero_add]; exact hR _ _ (flatD_get hu hi hj)⟩

theorem madeCells_get {z : Array Value} {n es i j : Nat} (hz : z.size = es) (hi : i < n) (hj : j < es) : (madeCells z (n * es))[i * es + j]? = z[j]? := by
  have hlt : i * es + j < n * es := by
    have : (i + 1) * es ≤ n * es := Nat.mul_le_mul_right _ hi
    rw [Nat.add_mul] at this; omega
  have hm : (i * es + j) % z.size = j := by rw [hz, Nat.mul_comm, Nat.mul_add_mod, Nat.mod_eq_of_lt hj]
  simp only [madeCells, Array.getElem?_map, Array.getElem?_range, hlt, if_true, Option.map_some, hm]
  rw [getElem!_pos z j (by omega), Array.getElem?_eq_getElem (by omega)]

/-- What is zero of a type, as data and as a value. -/
theorem zeroD_val {e : TypeId} {z : D} (h : zeroD E.P e = some z) : ∃ i v, E.P.info? e = some i ∧ i.zero = some v ∧ (∀ w fb, DRep w fb z v) ∧ (∀ x, x ∈ z.cells → x.one = true) ∧ v.cells.size = z.cells.length ∧
    (∀ w fb (j : Nat) (x : D), z.cells[j]? = some x → ∃ u, v.cells[j]? = some u ∧ DRep w fb x u) := by
  have dec1 : ∀ {v : Value} {d : D}, decV v = some d → d.one = true := by
    intro v d hx
    unfold decV at hx
    split at hx <;> (try split at hx) <;> simp at hx <;> subst hx <;> rfl
  unfold zeroD at h
  cases hi : E.P.info? e with
  | none => simp [hi] at h
  | some i =>
    simp only [hi, Option.bind_some] at h
    split at h
    · rename_i cs hz
      cases hl : listM decV cs.toList with
      | none => simp [hl] at h
      | some l =>
        simp [hl] at h; subst h
        have hr : ∀ w fb (j : Nat) (x : D), l[j]? = some x → ∃ u, cs[j]? = some u ∧ DRep w fb x u := by
          intro w fb j x hj
          obtain ⟨u, hu, hd⟩ := listM_get' hl hj
          exact ⟨u, by rwa [Array.getElem?_toList] at hu, decV_rep hd⟩
        have h1 : ∀ x, x ∈ l → x.one = true := fun x hx => by
          obtain ⟨u, _, hd⟩ := listM_mem hl hx
          exact dec1 hd
        refine ⟨i, .agg cs, rfl, hz, fun w fb => .agg l cs (by rw [listM_length hl]; simp) h1 (fun j x u hj hu => ?_), h1, by simp [Value.cells, D.cells, listM_length hl], hr⟩
        obtain ⟨u', hu', hd⟩ := hr w fb j x hj
        rw [hu] at hu'; simp at hu'; subst hu'; exact hd
    · rename_i v hnv hz
      have h1 := dec1 h
      have hrep : ∀ w fb, DRep w fb z v := fun w fb => decV_rep h
      have hv1 := (hrep default (fun _ => False)).oneCell h1
      have hc : z.cells = [z] := by cases z <;> first | rfl | simp [D.one] at h1
      refine ⟨i, v, rfl, hz, hrep, by rw [hc]; simpa using h1, by rw [hc, cells_one hv1]; rfl, fun w fb j x hj => ?_⟩
      rw [hc] at hj
      match j with
      | 0 => simp at hj; subst hj; exact ⟨v, by rw [cells_one hv1]; rfl, hrep w fb⟩
      | j + 1 => simp at hj
    · cases h

theorem flatD_replicate {z : D} {n q : Nat} {x : D} {es : Nat} (hz : z.cells.length = es) (hes : 0 < es) (h : (flatD (List.replicate n z))[q]? = some x) : q / es < n ∧ z.cells[q % es]? = some x := by
  have hu : Unif es (List.replicate n z) := fun y hy => by rw [List.eq_of_mem_replicate hy]; exact hz
  have hlt : q < n * es := by
    have := (List.getElem?_eq_some_iff.1 h).1
    rw [flatD_length hu] at this; simpa using this
  have hi : q / es < n := Nat.div_lt_of_lt_mul (by rw [Nat.mul_comm]; exact hlt)
  have hj : q % es < es := Nat.mod_lt _ hes
  obtain ⟨c, hc⟩ : ∃ c, z.cells[q % es]? = some c := ⟨_, List.getElem?_eq_getElem (by omega)⟩
  have := flatD_get hu (i := q / es) (j := q % es) (x := z) (c := c) (by simp [hi]) hc
  rw [Nat.mul_comm, Nat.div_add_mod] at this
  rw [h] at this; simp at this; subst this
  exact ⟨hi, hc⟩

theorem listRep_of_row {w' : World} {fb : Nat → Prop} {ety es : Nat} {nl : Bool} {l : List D} {v : Value} (h : RowRep w' fb ety es nl l v) (hb : ∀ b, rowBlk v = some b → ¬ fb b) : DRep w' fb (.list nl l) v := by
  rcases h with ⟨h1, h2, h3⟩ | ⟨h1, b, off, cap, cur, h2, h3, h4, h5, h6, h7, h8, h10, h9⟩
  · subst h1 h2; rw [h3]; exact .nil
  · subst h1; subst h2
    refine .list l es b off cap (fun i j => cur.getD (off + i * es + j) undef) h4 h5 (hb b rfl) h7 h8 h10 (fun i x j c hi hj => ?_) (fun i x j c hi hj => ?_)
    · obtain ⟨u, hu, _⟩ := h9 i x j c hi hj
      rw [cells_cell h3, hu]; simp [Array.getD_eq_getD_getElem?, hu]
    · obtain ⟨u, hu, hd⟩ := h9 i x j c hi hj
      simpa [Array.getD_eq_getD_getElem?, hu] using hd

theorem bar_lt (h : Rel E c β s tm w) {b : Nat} (hb : c.bar β s.V b) : b < w.heap.size := by
  rcases hb with hb | ⟨o, g, x, h1, h2⟩
  · exact Nat.lt_of_lt_of_le (h.low b hb).1 h.keep.size
  · exact (h.home o g x b h1 h2).1

theorem sound_mksl (h : Rel E c β s tm w) {t : Nat} {ty e : TypeId} {i : TypeInfo} {z : D} {own : Bool} (ht : E.P.underlying ty = some (.slice e)) (hi : E.P.info? e = some i) (hz : zeroD E.P e = some z)
    (hpos : 0 < i.size) (hby : i.bytes ≤ 131072) (hzl : z.cells.length = i.size)
    {x y : AV} {u v : Value} (hx : AVRep w (c.bar β s.V) β s.V.cn x u) (hy : AVRep w (c.bar β s.V) β s.V.cn y v) (he : ev E (some t) s.V (.mksl e i.size z own) [x, y] K) :
    GotV E c s tm K ((Instr.makeSlice ty u v).run E.P w) := by
  unfold ev at he
  simp only at he
  split at he
  · rename_i t' n m h1 h2
    simp only [Option.some.injEq, List.cons.injEq, and_true] at h1 h2
    obtain rfl := h1
    obtain ⟨rfl, rfl⟩ := h2
    obtain ⟨rfl, h0, hn, he⟩ := he
    obtain ⟨rfl, _⟩ := rep_int hx
    obtain ⟨rfl, _⟩ := rep_int hy
    obtain ⟨i', zv, hi', hzv, hzr, hz1, hzs, hzc⟩ := zeroD_val hz
    rw [hi] at hi'; simp at hi'; subst hi'
    have hbd : n ≤ 1073741824 := hn
    have hrun := run_make (P := E.P) w ty e i zv ht hi hzv .i64 .i64 n n h0 (Int.le_refl _) (by
      have h1 : (i.bytes : Int) * n ≤ 131072 * 1073741824 := Int.mul_le_mul (by omega) hbd h0 (by omega)
      omega) (by omega)
    have hlen : (List.replicate n.toNat z).length = n.toNat := by simp
    have hrow : ∀ fb', (∀ b, b < w.heap.size → fb' b → c.bar β s.V b) → RowRep (w.alloc (.cells (madeCells zv.cells (n.toNat * i.size)) e)) fb' e i.size false (List.replicate n.toNat z) (.slice (some ⟨w.heap.size, 0, none⟩) n.toNat n.toNat) := by
      intro fb' _
      have := rowRep_of (w' := w.alloc (.cells (madeCells zv.cells (n.toNat * i.size)) e)) (fb := fb') (ety := e) (es := i.size) (l := List.replicate n.toNat z) (b := w.heap.size) (cap := n.toNat) (heap_alloc_new w _) (by simp) (by unfold maxLen; omega) (by rw [size_madeCells]; omega) hpos
        (fun y hy => by rw [List.eq_of_mem_replicate hy]; exact hzl) (fun y cc hy hc => by rw [List.eq_of_mem_replicate hy] at hc; exact hz1 _ hc) (fun q y hq => by
          obtain ⟨a1, a2⟩ := flatD_replicate hzl hpos hq
          obtain ⟨u, hu, hd⟩ := hzc (w.alloc (.cells (madeCells zv.cells (n.toNat * i.size)) e)) fb' _ _ a2
          refine ⟨u, ?_, hd⟩
          have := madeCells_get (z := zv.cells) (n := n.toNat) (es := i.size) (by omega) a1 (Nat.mod_lt q hpos)
          rw [Nat.mul_comm (q / i.size), Nat.div_add_mod] at this
          rw [this]; exact hu)
      rwa [hlen] at this
    cases own with
    | true =>
      simp only [if_true] at he
      obtain ⟨β', h5, h6⟩ := fresh_row h (t := t) he.1 (below_alloc w _) (vo := .slice (some ⟨w.heap.size, 0, none⟩) n.toNat n.toNat) rfl (fun b hb => by simp [rowBlk] at hb; subst hb; exact ⟨Nat.le_refl _, by simp⟩) hrow
      exact ⟨_, _, _, _, β', hrun, he.2, h5, h6⟩
    | false =>
      simp only [Bool.false_eq_true, if_false] at he
      have hrel := h.grow (below_alloc w (.cells (madeCells zv.cells (n.toNat * i.size)) e))
      refine ⟨_, _, _, .none, β, hrun, he, hrel, .d _ _ (listRep_of_row (hrow _ fun b _ hb => hb) fun b hb hbar => ?_)⟩
      simp [rowBlk] at hb; subst hb
      have := bar_lt h hbar; omega
  · exact he.elim
end
end Go.Pw
