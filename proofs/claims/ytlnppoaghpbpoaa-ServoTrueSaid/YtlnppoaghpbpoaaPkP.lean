/- A part of the proof. -/
import Derived.Test.YtlnppoaghpbpoaaPwO
import Derived.Great.BuildSlice
set_option linter.all false
section
namespace Go.Pw
open Go.RowKit
set_option linter.unusedSimpArgs false
set_option linter.unusedVariables false

section
variable {E : Env} {c : Ctx} {β : Nat → Nat → Value} {s : PSt} {tm : Array Value} {w : World} {K : AV → Chg → Prop}

/-- A slice literal lies in a new block. -/
theorem run_lit {ty e : TypeId} {ie : TypeInfo} {z : D} {len : Nat} (ht : E.P.underlying ty = some (.slice e)) (hi : E.P.info? e = some ie) (hz : zeroD E.P e = some z) (hpos : 0 < ie.size) (hzl : z.cells.length = ie.size)
    (hsmall : len * ie.size ≤ 16777216) {ix : List Nat} {xs : List AV} {us : List Value} {l : List D} (hix : ix.length = xs.length) (hxs : ValsR (AVRep w (c.bar β s.V) β s.V.cn) xs us)
    (hf : fillR ie.size (List.replicate len z) (ix.zip xs) = some l) {parts : Array (Nat × Value)} (hparts : parts.toList = ix.zip us) (h : Rel E c β s tm w) :
    ∃ cells, (Instr.buildSlice ty len parts).run E.P w = .ok (.slice (some ⟨w.heap.size, 0, none⟩) len len) (w.alloc (.cells cells e)) ∧ l.length = len ∧
      ∀ fb', (∀ b, b < w.heap.size → fb' b → c.bar β s.V b) → RowRep (w.alloc (.cells cells e)) fb' e ie.size false l (.slice (some ⟨w.heap.size, 0, none⟩) len len) := by
  obtain ⟨i', zv, hi', hzv, hzr, hz1, hzs, hzc⟩ := zeroD_val hz
  rw [hi] at hi'; simp at hi'; subst hi'
  have hu0 : Unif ie.size (List.replicate len z) := fun y hy => by rw [List.eq_of_mem_replicate hy]; exact hzl
  have hfl := flatD_length hu0
  have hones : ∀ y, y ∈ flatD (List.replicate len z) → y.one = true := fun y hy => by
    simp only [flatD, List.mem_flatMap] at hy
    obtain ⟨q, hq, hy⟩ := hy
    rw [List.eq_of_mem_replicate hq] at hy; exact hz1 y hy
  have hc0 : CellsR (DRep w (c.bar β s.V)) (flatD (List.replicate len z)) (madeCells zv.cells (len * ie.size)) := by
    refine ⟨by rw [size_madeCells, hfl]; simp, fun q y u hq hu => ?_⟩
    obtain ⟨a1, a2⟩ := flatD_replicate hzl hpos hq
    obtain ⟨u', hu', hd⟩ := hzc w (c.bar β s.V) _ _ a2
    have := madeCells_get (z := zv.cells) (n := len) (es := ie.size) (by omega) a1 (Nat.mod_lt q hpos)
    rw [Nat.mul_comm (q / ie.size), Nat.div_add_mod, hu, hu'] at this
    simp at this; subst this; exact hd
  obtain ⟨cells, g1, g2, g3, g4, g5⟩ := fill_row ix xs us _ l _ hix hxs hu0 hones hc0 hf
  have hlen : l.length = len := by simpa using g5
  refine ⟨cells, ?_, hlen, fun fb' hfb => ?_⟩
  · by_cases h0 : len = 0
    · subst h0
      have hmc : madeCells zv.cells (0 * ie.size) = #[] := by simp [madeCells, Array.range_zero']
      rw [hmc] at g1
      have hs : sizeOf e = (do pure (← typeInfo e).size) := rfl
      simp [Instr.buildSlice, run_underlying ht, sizeOf, typeInfo, hi, newRow, hparts, Array.range_zero', g1]
    · have := run_buildSlice (P := E.P) w ty e len parts cells ie zv ht hi hzv (by omega) (by have := Nat.mul_pos (Nat.pos_of_ne_zero h0) hpos; omega) (by rw [hparts]; exact g1)
      exact this
  · have := rowRep_of (w' := w.alloc (.cells cells e)) (fb := fb') (ety := e) (es := ie.size) (l := l) (b := w.heap.size) (cap := len) (cur := cells) (heap_alloc_new w _) (by omega) (by unfold maxLen; have : len ≤ len * ie.size := Nat.le_mul_of_pos_right _ hpos; omega)
      (by rw [g2.1, flatD_length g3, hlen]; exact Nat.le_refl _) hpos g3 (fun x y hx hy => g4 y (List.mem_flatMap.2 ⟨x, hx, hy⟩)) (fun q y hq => by
        obtain ⟨u, hu⟩ : ∃ u, cells[q]? = some u := ⟨_, Array.getElem?_eq_getElem (by have := (List.getElem?_eq_some_iff.1 hq).1; have := g2.1; omega)⟩
        exact ⟨u, hu, (g2.2 q y u hq hu).mono (.of_below (below_alloc w _)) hfb⟩)
    rwa [hlen] at this

theorem sound_mkrowO (h : Rel E c β s tm w) {t : Nat} {ty e : TypeId} {ie : TypeInfo} {z : D} {len : Nat} (ht : E.P.underlying ty = some (.slice e)) (hi : E.P.info? e = some ie) (hz : zeroD E.P e = some z) (hpos : 0 < ie.size) (hzl : z.cells.length = ie.size)
    (hsmall : len * ie.size ≤ 16777216) {ix : List Nat} {xs : List AV} {us : List Value} (hxs : ValsR (AVRep w (c.bar β s.V) β s.V.cn) xs us) {parts : Array (Nat × Value)} (hparts : parts.toList = ix.zip us)
    (he : ev E (some t) s.V (.mkrowO e ie.size z len ix) xs K) : GotV E c s tm K ((Instr.buildSlice ty len parts).run E.P w) := by
  unfold ev at he
  simp only at he
  split at he
  · rename_i t' l h1 hf
    simp only [Option.some.injEq] at h1; subst h1
    obtain ⟨hlim, hix, he⟩ := he
    obtain ⟨cells, hrun, hlen, hrow⟩ := run_lit ht hi hz hpos hzl hsmall hix hxs hf hparts h
    obtain ⟨β', h5, h6⟩ := fresh_row h (t := t) hlim (below_alloc w _) (vo := .slice (some ⟨w.heap.size, 0, none⟩) len len) rfl (fun b hb => by simp [rowBlk] at hb; subst hb; exact ⟨Nat.le_refl _, by simp⟩) hrow
    exact ⟨_, _, _, _, β', hrun, he, h5, h6⟩
  · exact he.elim

theorem sound_mkrow (h : Rel E c β s tm w) {dst : Option Nat} {ty e : TypeId} {ie : TypeInfo} {z : D} {len : Nat} (ht : E.P.underlying ty = some (.slice e)) (hi : E.P.info? e = some ie) (hz : zeroD E.P e = some z) (hpos : 0 < ie.size) (hzl : z.cells.length = ie.size)
    (hsmall : len * ie.size ≤ 16777216) {ix : List Nat} {xs : List AV} {us : List Value} (hxs : ValsR (AVRep w (c.bar β s.V) β s.V.cn) xs us) {parts : Array (Nat × Value)} (hparts : parts.toList = ix.zip us)
    (he : ev E dst s.V (.mkrow ie.size z len ix) xs K) : GotV E c s tm K ((Instr.buildSlice ty len parts).run E.P w) := by
  unfold ev at he
  simp only at he
  split at he
  · rename_i l hf
    obtain ⟨hix, he⟩ := he
    obtain ⟨cells, hrun, hlen, hrow⟩ := run_lit ht hi hz hpos hzl hsmall hix hxs hf hparts h
    have hrel := h.grow (below_alloc w (.cells cells e))
    refine ⟨_, _, _, .none, β, hrun, he, hrel, ?_⟩
    have := listRep_of_row (hrow _ fun b _ hb => hb) fun b hb hbar => by
      simp [rowBlk] at hb; subst hb
      have := bar_lt h hbar; omega
    subst hlen
    exact .ex l _ this
  · exact he.elim

/-- What is appended, in the model's own words: so many elements, whose cells are known. -/
def Src (P : Program) (w : World) (i : TypeInfo) (z : Value) (tx : TypeId) (x : Value) (n : Nat) (news : List Value) : Prop :=
  (∃ e', P.underlying tx = some (.slice e') ∧ ((x = .slice none 0 0 ∧ n = 0 ∧ news = []) ∨
    ∃ a cap, x = .slice (some a) n cap ∧ news.length = n * i.size ∧ ∀ (j : Nat) (v : Value), news[j]? = some v → w.cell? (a.add j) = some v)) ∨
  (P.underlying tx = some (.int .i64) ∧ x = .int .i64 n ∧ n ≤ bound ∧ i.bytes ≤ 131072 ∧ news = (Builtin.zeroCells z.cells n).toList ∧ z.cells.size = i.size ∧ 0 < i.size)

theorem wrap_small {n : Nat} (h : n ≤ bound) : IntKind.i64.wrap (n : Int) = n := by
  have h' : n ≤ 1073741824 := h
  rw [IntKind.wrap_i64]; omega

section
variable {P : Program} {w : World}

theorem zeroCells_nil {z : Array Value} {n : Nat} (h : n * z.size = 0) : Builtin.zeroCells z n = #[] := by simp [Builtin.zeroCells, h]

/-- Room: the cells are laid behind the others. -/
theorem run_app_room {t tx ty e : TypeId} {i : TypeInfo} {z : Value} (ht : P.underlying t = some (.slice e)) (hi : P.info? e = some i) (hz : i.zero = some z) {x : Value} {n : Nat} {news : List Value} (hs : Src P w i z tx x n news)
    {b off sLen sCap : Nat} {cur : Array Value} (hb : w.heap[b]? = some (.cells cur e (0, 0))) (hroom : sLen + n ≤ sCap) (hfit : off + sLen * i.size + news.length ≤ cur.size) (h1 : ∀ v, v ∈ news → v.oneCell' = true) :
    (Builtin.append_ #[t, tx] ty #[.slice (some ⟨b, off, none⟩) sLen sCap, x]).run P w = .ok (.slice (some ⟨b, off, none⟩) (sLen + n) sCap) (w.setRow b (splice cur.toList (off + sLen * i.size) news).toArray) := by
  have hst := run_storeCells_at P b (off + sLen * i.size) e news 0 cur w hb (by simpa using hfit) h1
  simp only [Nat.add_zero] at hst
  rcases hs with ⟨e', hx, ⟨rfl, rfl, rfl⟩ | ⟨a, cap, rfl, hl, hnews⟩⟩ | ⟨hx, rfl, hn, hby, rfl, hzs, hpos⟩
  · simp only [List.append_nil, List.length_nil, Nat.add_zero] at hst
    simp [Builtin.append_, run_underlying ht, run_underlying hx, sizeOf, typeInfo, hi, Builtin.lenOf, Builtin.firstCells, hroom, Addr.add_lit, splice]
    have : sLen ≤ sCap := by omega
    simp [this]
    simp [storeCells]
    rw [setRow_self w b cur e (0, 0) hb]
  · have hf := run_firstCells_some (P := P) w i.size n a n cap news hl hnews
    simp [Builtin.append_, run_underlying ht, run_underlying hx, sizeOf, typeInfo, hi, Builtin.lenOf, hroom, hf, Addr.add_lit, hst, splice]
  · have hw := wrap_small hn
    have hn' : n ≤ 1073741824 := hn
    have h2 : ¬ (281474976710656 < (n : Int) * (i.bytes : Int)) := by
      have : (n : Int) * (i.bytes : Int) ≤ 1073741824 * 131072 := Int.mul_le_mul (by omega) (by omega) (by omega) (by omega)
      omega
    have hty : ∀ w' : World, (typeInfo e).run P w' = .ok i w' := fun w' => by simp [typeInfo, hi]
    have hzv : ∀ w' : World, (zeroValue e).run P w' = .ok z w' := fun w' => by simp [zeroValue, typeInfo, hi, hz]
    have hne : i.size ≠ 0 := by omega
    have h0 : ¬ ((n : Int) < 0) := by omega
    by_cases hn0 : n = 0
    · subst hn0
      have hzn : (Builtin.zeroCells z.cells 0).toList = [] := by simp [Builtin.zeroCells]
      rw [hzn] at hst ⊢
      have : sLen ≤ sCap := by omega
      have hw0 : IntKind.i64.wrap 0 = 0 := by simpa using hw
      simp [Builtin.append_, run_underlying ht, run_underlying hx, sizeOf, hty, asInt, asIntOf, hw0, this, Addr.add_lit, splice]
      simp [storeCells]
      rw [setRow_self w b cur e (0, 0) hb]
    · simp [Builtin.append_, run_underlying ht, run_underlying hx, sizeOf, hty, hzv, asInt, asIntOf, hw, h0, h2, hroom, hn0, hne, (Nat.mul_ne_zero hn0 hne), Addr.add_lit, hst, splice]

theorem grow_le {need old : Nat} (h : need ≤ 2 * bound) (h0 : old < need) : Builtin.nextslicecap need old ≤ 4 * bound := by
  unfold Builtin.nextslicecap
  split
  · omega
  · split
    · omega
    · have key : ∀ (r c : Nat), c ≤ 4 * bound → Builtin.growBy need r c ≤ 4 * bound := by
        intro r
        induction r with
        | zero => intro c hc; simpa [Builtin.growBy] using hc
        | succ r ih =>
          intro c hc
          simp only [Builtin.growBy]
          split
          · exact hc
          · exact ih _ (by unfold bound at *; omega)
      exact key 4 old (by omega)

/-- No room: all of it lies anew. -/
theorem run_app_grow {t tx ty e : TypeId} {i : TypeInfo} {z : Value} (ht : P.underlying t = some (.slice e)) (hi : P.info? e = some i) (hz : i.zero = some z) (hby : i.bytes ≤ 65536) {x : Value} {n : Nat} {news : List Value} (hs : Src P w i z tx x n news)
    {a : Option Addr} {sLen sCap : Nat} {olds : List Value} (hlo : olds.length = sLen * i.size) (holds : (a = none ∧ sLen = 0) ∨ ∃ ad, a = some ad ∧ ∀ (j : Nat) (v : Value), olds[j]? = some v → w.cell? (ad.add j) = some v)
    (hroom : sCap < sLen + n) (hlen : sLen + n ≤ bound) :
    ∃ cap cur, (Builtin.append_ #[t, tx] ty #[.slice a sLen sCap, x]).run P w = .ok (.slice (some ⟨w.heap.size, 0, none⟩) (sLen + n) cap) (w.drew.alloc (.cells cur e)) ∧ sLen + n ≤ cap ∧ cap ≤ maxLen ∧
      cur = (olds ++ news).toArray ++ Builtin.zeroCells z.cells (cap - (sLen + n)) := by
  refine ⟨grownCap w (sLen + n) sCap e, _, ?_, grownCap_ge w (sLen + n) sCap e, grownCap_le_maxLen w (sLen + n) sCap e (by unfold bound at hlen; unfold maxLen; omega), rfl⟩
  have hgl := grow_le (need := sLen + n) (old := sCap) (by omega) hroom
  have hnr : ¬ (sLen + n ≤ sCap) := by omega
  have h63' : ¬ (9223372036854775807 < ((sLen : Int) + (n : Int))) := by unfold bound at hlen; omega
  have h48' : ¬ (281474976710656 < Builtin.nextslicecap (sLen + n) sCap * i.bytes) := by
    have : Builtin.nextslicecap (sLen + n) sCap * i.bytes ≤ (4 * bound) * 65536 := Nat.mul_le_mul hgl hby
    unfold bound at this; omega
  have hfo : (Builtin.firstCells i.size sLen (.slice a sLen sCap)).run P w.drew = .ok olds.toArray w.drew := by
    rcases holds with ⟨rfl, rfl⟩ | ⟨ad, rfl, hc⟩
    · simp at hlo; subst hlo; simp [Builtin.firstCells]
    · exact run_firstCells_some (P := P) w.drew i.size sLen ad sLen sCap olds hlo (by simpa using hc)
  rcases hs with ⟨e', hx, ⟨rfl, rfl, rfl⟩ | ⟨b, cap, rfl, hl, hnews⟩⟩ | ⟨hx, rfl, hn, hby', rfl, hzs, hpos⟩
  · have : ¬ sLen ≤ sCap := by omega
    have h63'' : ¬ (9223372036854775807 < (sLen : Int)) := by omega
    simp only [Nat.add_zero] at h48'
    simp [Builtin.append_, run_underlying ht, run_underlying hx, sizeOf, typeInfo, zeroValue, hi, hz, Builtin.lenOf, this, h63'', h48', Question.forced, hfo, newRow, grownCap, run_firstCells_none]
  · have hf := run_firstCells_some (P := P) w.drew i.size n b n cap news hl (by simpa using hnews)
    simp [Builtin.append_, run_underlying ht, run_underlying hx, sizeOf, typeInfo, zeroValue, hi, hz, Builtin.lenOf, hnr, h63', h48', Question.forced, hf, hfo, newRow, grownCap]
    congr 2
    apply Array.ext'
    simp [List.append_assoc]
  · have hw := wrap_small hn
    have hn' : n ≤ 1073741824 := hn
    have h2 : ¬ (281474976710656 < (n : Int) * (i.bytes : Int)) := by
      have : (n : Int) * (i.bytes : Int) ≤ 1073741824 * 131072 := Int.mul_le_mul (by omega) (by omega) (by omega) (by omega)
      omega
    have hty : ∀ w' : World, (typeInfo e).run P w' = .ok i w' := fun w' => by simp [typeInfo, hi]
    have hzv : ∀ w' : World, (zeroValue e).run P w' = .ok z w' := fun w' => by simp [zeroValue, typeInfo, hi, hz]
    have hne : i.size ≠ 0 := by omega
    have h0 : ¬ ((n : Int) < 0) := by omega
    by_cases hn0 : n = 0
    · subst hn0
      have hzn : (Builtin.zeroCells z.cells 0).toList = [] := by simp [Builtin.zeroCells]
      have hzn' : (Builtin.zeroCells z.cells 0) = #[] := by simp [Builtin.zeroCells]
      have : ¬ sLen ≤ sCap := by omega
      have h63'' : ¬ (9223372036854775807 < (sLen : Int)) := by omega
      have hw0 : IntKind.i64.wrap 0 = 0 := by simpa using hw
      simp only [Nat.add_zero] at h48'
      simp [Builtin.append_, run_underlying ht, run_underlying hx, sizeOf, hty, hzv, asInt, asIntOf, hw0, this, h63'', h48', Question.forced, hfo, newRow, grownCap, hzn]
    · simp [Builtin.append_, run_underlying ht, run_underlying hx, sizeOf, hty, hzv, asInt, asIntOf, hw, h0, h2, hnr, h63', h48', hn0, hne, (Nat.mul_ne_zero hn0 hne), Question.forced, hfo, newRow, grownCap]
      congr 2
      apply Array.ext'
      simp [List.append_assoc]
end
end
end Go.Pw
end
section
namespace Go.Pw
open Go.RowKit
set_option linter.unusedSimpArgs false
set_option linter.unusedVariables false

section
variable {P : Program} {w : World}
/-- Nothing is appended. -/
theorem run_app_zero {t tx ty e : TypeId} {i : TypeInfo} {z : Value} (ht : P.underlying t = some (.slice e)) (hi : P.info? e = some i) (hz : i.zero = some z) {x : Value} {news : List Value} (hs : Src P w i z tx x 0 news)
    {a : Option Addr} {sLen sCap : Nat} (hroom : sLen ≤ sCap) :
    (Builtin.append_ #[t, tx] ty #[.slice a sLen sCap, x]).run P w = .ok (.slice a sLen sCap) w ∧ news = [] := by
  have hty : ∀ w' : World, (typeInfo e).run P w' = .ok i w' := fun w' => by simp [typeInfo, hi]
  have hzv : ∀ w' : World, (zeroValue e).run P w' = .ok z w' := fun w' => by simp [zeroValue, typeInfo, hi, hz]
  rcases hs with ⟨e', hx, ⟨rfl, _, rfl⟩ | ⟨b, cap, rfl, hl, hnews⟩⟩ | ⟨hx, rfl, hn, hby', rfl, hzs, hpos⟩
  · refine ⟨?_, rfl⟩
    cases a <;> simp [Builtin.append_, run_underlying ht, run_underlying hx, sizeOf, hty, Builtin.lenOf, hroom, run_firstCells_none, storeCells]
  · have : news = [] := List.eq_nil_of_length_eq_zero (by omega)
    subst this
    refine ⟨?_, rfl⟩
    have hf := run_firstCells_some (P := P) w i.size 0 b 0 cap [] (by simp) (by simp)
    cases a <;> simp [Builtin.append_, run_underlying ht, run_underlying hx, sizeOf, hty, Builtin.lenOf, hroom, hf, storeCells]
  · have hzn : (Builtin.zeroCells z.cells 0).toList = [] := by simp [Builtin.zeroCells]
    have hw0 : IntKind.i64.wrap 0 = 0 := by have := wrap_small (n := 0) (by unfold bound; omega); simpa using this
    refine ⟨?_, hzn⟩
    cases a <;> simp [Builtin.append_, run_underlying ht, run_underlying hx, sizeOf, hty, hzv, asInt, asIntOf, hw0, hroom, storeCells]
end

section
variable {E : Env} {c : Ctx} {β : Nat → Nat → Value} {s : PSt} {tm : Array Value} {w : World} {K : AV → Chg → Prop}

theorem below_refl' (w : World) : Below w.heap.size w w := Below.refl _ _

/-- The cells of elements that lie in a row. -/
theorem src_core {fb : Nat → Prop} {ys : List D} {tx e' : TypeId} {i : TypeInfo} {z : Value} {es b off cap : Nat} {vs : Nat → Nat → Value} (hs : Unif es ys) (h1 : ∀ x c, x ∈ ys → c ∈ x.cells → c.one = true)
    (hc : ∀ (i : Nat) (x : D) (j : Nat) (c : D), ys[i]? = some x → x.cells[j]? = some c → w.cell? ⟨b, off + i * es + j, none⟩ = some (vs i j))
    (hv : ∀ (i : Nat) (x : D) (j : Nat) (c : D), ys[i]? = some x → x.cells[j]? = some c → DRep w fb c (vs i j)) (hu : Unif i.size ys) (hpos : 0 < i.size) (hx : E.P.underlying tx = some (.slice e')) :
    ∃ news, Src E.P w i z tx (.slice (some ⟨b, off, none⟩) ys.length cap) ys.length news ∧ CellsR (DRep w fb) (flatD ys) news.toArray ∧ ∀ y, y ∈ flatD ys → y.one = true := by
  cases ys with
  | nil => exact ⟨[], .inl ⟨e', hx, .inr ⟨_, cap, rfl, by simp, by simp⟩⟩, ⟨by simp [flatD], fun j x v hj => by simp [flatD] at hj⟩, by simp [flatD]⟩
  | cons y0 ys0 =>
    have hes' : i.size = es := (hu y0 (by simp)).symm.trans (hs y0 (by simp))
    subst hes'
    generalize hys : y0 :: ys0 = ys at *
    have hfl := flatD_length hu
    have hget : ∀ (q : Nat) (x : D), (flatD ys)[q]? = some x → ∃ p, ys[q / i.size]? = some p ∧ p.cells[q % i.size]? = some x := by
      intro q x hq
      have hlt : q < ys.length * i.size := by rw [← hfl]; exact (List.getElem?_eq_some_iff.1 hq).1
      have hi : q / i.size < ys.length := Nat.div_lt_of_lt_mul (by rw [Nat.mul_comm]; exact hlt)
      have hj : q % i.size < i.size := Nat.mod_lt _ hpos
      have hp : ys[q / i.size]? = some ys[q / i.size] := List.getElem?_eq_getElem hi
      have hl := hu _ (List.mem_of_getElem? hp)
      have hcx : ys[q / i.size].cells[q % i.size]? = some (ys[q / i.size].cells[q % i.size]'(by omega)) := List.getElem?_eq_getElem (by omega)
      have := flatD_get hu hp hcx
      rw [Nat.mul_comm, Nat.div_add_mod, hq] at this
      simp at this; subst this
      exact ⟨_, hp, hcx⟩
    refine ⟨(List.range (ys.length * i.size)).map fun q => vs (q / i.size) (q % i.size), .inl ⟨e', hx, .inr ⟨_, cap, rfl, by simp, fun j v hj => ?_⟩⟩, ⟨by simp [hfl], fun j x v hj hv' => ?_⟩, fun y hy => ?_⟩
    · simp only [List.getElem?_map, List.getElem?_range] at hj
      by_cases hlt : j < ys.length * i.size
      · have hj' : (flatD ys)[j]? = some ((flatD ys)[j]'(by omega)) := List.getElem?_eq_getElem (by omega)
        obtain ⟨p, hp, hpx⟩ := hget j _ hj'
        simp [hlt] at hj
        have := hc _ p _ _ hp hpx
        rw [Addr.add_lit]
        rw [show off + j = off + j / i.size * i.size + j % i.size by rw [Nat.add_assoc, Nat.mul_comm, Nat.div_add_mod]]
        rw [this, hj]
      · simp at hj
        obtain ⟨q, hq, _⟩ := hj
        have := (List.getElem?_eq_some_iff.1 hq).1
        simp at this; omega
    · obtain ⟨p, hp, hpx⟩ := hget j x hj
      have hlt : j < ys.length * i.size := by rw [← hfl]; exact (List.getElem?_eq_some_iff.1 hj).1
      simp [hlt] at hv'
      subst hv'
      exact hv _ p _ x hp hpx
    · simp only [flatD, List.mem_flatMap] at hy
      obtain ⟨q, hq, hy⟩ := hy
      exact h1 q y hq hy

/-- The cells of a slice that is appended. -/
theorem src_list {fb : Nat → Prop} {nl : Bool} {ys : List D} {u : Value} {tx e' : TypeId} {i : TypeInfo} {z : Value} (h : DRep w fb (.list nl ys) u) (hu : Unif i.size ys) (hpos : 0 < i.size) (hx : E.P.underlying tx = some (.slice e')) :
    ∃ news, Src E.P w i z tx u ys.length news ∧ CellsR (DRep w fb) (flatD ys) news.toArray ∧ ∀ y, y ∈ flatD ys → y.one = true := by
  cases h with
  | nil => exact ⟨[], .inl ⟨e', hx, .inl ⟨rfl, rfl, rfl⟩⟩, ⟨by simp [flatD], fun j x v hj => by simp [flatD] at hj⟩, by simp [flatD]⟩
  | empty a cap hm => exact ⟨[], .inl ⟨e', hx, .inr ⟨a, cap, rfl, by simp, by simp⟩⟩, ⟨by simp [flatD], fun j x v hj => by simp [flatD] at hj⟩, by simp [flatD]⟩
  | list _ es b off cap vs hcap hm hb hes hs h1 hc hv => exact src_core (E := E) hs h1 hc hv hu hpos hx

theorem src_row {fb : Nat → Prop} {ety es : Nat} {nl : Bool} {ys : List D} {u : Value} {tx e' : TypeId} {i : TypeInfo} {z : Value} (h : RowRep w fb ety es nl ys u) (hu : Unif i.size ys) (hpos : 0 < i.size) (hx : E.P.underlying tx = some (.slice e')) :
    ∃ news, Src E.P w i z tx u ys.length news ∧ CellsR (DRep w fb) (flatD ys) news.toArray ∧ ∀ y, y ∈ flatD ys → y.one = true := by
  rcases h with ⟨h1, h2, h3⟩ | ⟨h1, b, off, cap, cur, h2, h3, h4, h5, h6, h7, h8, h10, h9⟩
  · subst h2 h3
    exact ⟨[], .inl ⟨e', hx, .inl ⟨rfl, rfl, rfl⟩⟩, ⟨by simp [flatD], fun j x v hj => by simp [flatD] at hj⟩, by simp [flatD]⟩
  · subst h2
    refine src_core (E := E) (vs := fun i j => cur.getD (off + i * es + j) undef) h8 h10 (fun i x j c hi hj => ?_) (fun i x j c hi hj => ?_) hu hpos hx
    · obtain ⟨u, hu, _⟩ := h9 i x j c hi hj
      rw [cells_cell h3, hu]; simp [Array.getD_eq_getD_getElem?, hu]
    · obtain ⟨u, hu, hd⟩ := h9 i x j c hi hj
      simpa [Array.getD_eq_getD_getElem?, hu] using hd

theorem zeroCells_get {z : Array Value} {n q : Nat} (hq : q < n * z.size) (hz : 0 < z.size) : (Builtin.zeroCells z n)[q]? = z[q % z.size]? := by
  have hm : q % z.size < z.size := Nat.mod_lt _ hz
  simp only [Builtin.zeroCells, Array.getElem?_map, Array.getElem?_range, hq, if_true, Option.map_some]
  rw [getElem!_pos z _ hm, Array.getElem?_eq_getElem hm]

/-- What 'appSrc' tells of the second operand. -/
theorem src_rep (h : Rel E c β s tm w) {tx e : TypeId} {i : TypeInfo} {zv : Value} {zo : Option D} {y : AV} {u : Value} {ys : List D} (hy : AVRep w (c.bar β s.V) β s.V.cn y u) (hs : appSrc s.V zo y = some ys) (hu : Unif i.size ys) (hpos : 0 < i.size)
    (hcase : (zo = none ∧ ∃ e', E.P.underlying tx = some (.slice e')) ∨ (∃ z, zo = some z ∧ E.P.underlying tx = some (.int .i64) ∧ zeroD E.P e = some z ∧ E.P.info? e = some i ∧ i.zero = some zv ∧ z.cells.length = i.size ∧ i.bytes ≤ 65536)) :
    ∃ news, Src E.P w i zv tx u ys.length news ∧ CellsR (DRep w (c.bar β s.V)) (flatD ys) news.toArray ∧ ∀ y, y ∈ flatD ys → y.one = true := by
  rcases hcase with ⟨rfl, e', hx⟩ | ⟨z, rfl, hx, hz, hi, hzv, hzl, hby⟩
  · simp only [appSrc] at hs
    split at hs
    · rename_i nl l hl
      simp at hs; subst hs
      unfold AV.asList at hl
      split at hl
      · simp at hl; obtain ⟨rfl, rfl⟩ := hl
        cases hy with | d _ _ hy => exact src_list (E := E) hy hu hpos hx
      · simp at hl; obtain ⟨rfl, rfl⟩ := hl
        cases hy with | ex _ a hy => exact src_list (E := E) hy hu hpos hx
      · rename_i o g
        split at hl
        · rename_i ety es nl l hg
          simp at hl; obtain ⟨rfl, rfl⟩ := hl
          cases hy with
          | own _ _ hgg hone =>
            obtain ⟨_, ho⟩ := h.objs _ _ _ (View.get_some hg)
            generalize hv : β o g = v at ho
            cases ho with | row _ _ _ _ _ ho => exact src_row (E := E) ho hu hpos hx
        · cases hl
      · cases hl
    · cases hs
  · simp only [appSrc] at hs
    split at hs
    · rename_i n
      split at hs
      · rename_i hn
        simp at hs; subst hs
        obtain ⟨rfl, _⟩ := rep_int hy
        obtain ⟨i', zv', hi', hzv', hzr, hz1, hzs, hzc⟩ := zeroD_val hz
        rw [hi] at hi'; simp at hi'; subst hi'
        rw [hzv] at hzv'; simp at hzv'; subst hzv'
        refine ⟨_, .inr ⟨hx, by simp; omega, by simp; omega, by omega, rfl, by omega, hpos⟩, ⟨?_, fun q x v hq hv => ?_⟩, fun y hy => ?_⟩
        · rw [flatD_length hu]; simp [Builtin.zeroCells, hzs, hzl]
        · obtain ⟨a1, a2⟩ := flatD_replicate hzl hpos hq
          obtain ⟨u', hu', hd⟩ := hzc w (c.bar β s.V) _ _ a2
          have hlt : q < (List.replicate n.toNat z).length * zv.cells.size := by rw [hzs, hzl, ← flatD_length hu]; exact (List.getElem?_eq_some_iff.1 hq).1
          have := zeroCells_get hlt (by omega)
          simp only [Array.toArray_toList] at hv
          rw [hv, hzs, hzl, hu'] at this
          simp at this; subst this; exact hd
        · simp only [flatD, List.mem_flatMap] at hy
          obtain ⟨q, hq, hy⟩ := hy
          rw [List.eq_of_mem_replicate hq] at hy; exact hz1 y hy
      · cases hs
    · cases hs

/-- A row that has grown: the old cells, the new ones. -/
theorem grown_row {w' : World} {fb : Nat → Prop} {ety es : Nat} {l ys : List D} {b : Nat} {cap : Nat} {cur : Array Value} {olds news : List Value} {rest : Array Value} (hb : w'.heap[b]? = some (.cells cur ety (0, 0))) (hcur : cur = (olds ++ news).toArray ++ rest)
    (hsz : cap * es ≤ cur.size) (hlc : (l ++ ys).length ≤ cap) (hm : cap ≤ maxLen) (hes : 0 < es) (hul : Unif es l) (huy : Unif es ys) (h1l : ∀ x c, x ∈ l → c ∈ x.cells → c.one = true) (h1y : ∀ y, y ∈ flatD ys → y.one = true)
    (hol : olds.length = l.length * es) (hold : ∀ (q : Nat) (x : D) (v : Value), (flatD l)[q]? = some x → olds[q]? = some v → DRep w' fb x v) (hnew : ∀ (q : Nat) (x : D) (v : Value), (flatD ys)[q]? = some x → news[q]? = some v → DRep w' fb x v) (hnl : news.length = ys.length * es) :
    RowRep w' fb ety es false (l ++ ys) (.slice (some ⟨b, 0, none⟩) (l ++ ys).length cap) := by
  have hu : Unif es (l ++ ys) := fun x hx => (List.mem_append.1 hx).elim (hul x) (huy x)
  refine rowRep_of hb hlc hm hsz hes hu (fun x c hx hc => (List.mem_append.1 hx).elim (fun h => h1l x c h hc) (fun h => h1y c (List.mem_flatMap.2 ⟨x, h, hc⟩))) fun q x hq => ?_
  have hfa : flatD (l ++ ys) = flatD l ++ flatD ys := by simp [flatD]
  have e1 := flatD_length hul
  have e2 := flatD_length huy
  rw [hfa] at hq
  subst hcur
  by_cases hlt : q < (flatD l).length
  · rw [List.getElem?_append_left hlt] at hq
    obtain ⟨v, hv⟩ : ∃ v, olds[q]? = some v := ⟨_, List.getElem?_eq_getElem (by omega)⟩
    refine ⟨v, ?_, hold q x v hq hv⟩
    rw [Array.getElem?_append_left (by simp; omega), List.getElem?_toArray, List.getElem?_append_left (by omega)]; exact hv
  · rw [List.getElem?_append_right (by omega)] at hq
    have := (List.getElem?_eq_some_iff.1 hq).1
    obtain ⟨v, hv⟩ : ∃ v, news[q - (flatD l).length]? = some v := ⟨_, List.getElem?_eq_getElem (by omega)⟩
    refine ⟨v, ?_, hnew _ x v hq hv⟩
    rw [Array.getElem?_append_left (by simp; omega), List.getElem?_toArray, List.getElem?_append_right (by omega), ← hv]
    congr 1; omega

theorem sound_app (h : Rel E c β s tm w) {t tx ty e : TypeId} {i : TypeInfo} {zv : Value} {zo : Option D} {own : Bool} {dst : Option Nat} (ht : E.P.underlying t = some (.slice e)) (hi : E.P.info? e = some i) (hzv : i.zero = some zv) (hpos : 0 < i.size) (hby : i.bytes ≤ 65536) (hzs : zv.cells.size = i.size)
    (hcase : (zo = none ∧ ∃ e', E.P.underlying tx = some (.slice e')) ∨ (∃ z, zo = some z ∧ E.P.underlying tx = some (.int .i64) ∧ zeroD E.P e = some z ∧ E.P.info? e = some i ∧ i.zero = some zv ∧ z.cells.length = i.size ∧ i.bytes ≤ 65536))
    {x y : AV} {ux uy : Value} (hx : AVRep w (c.bar β s.V) β s.V.cn x ux) (hy : AVRep w (c.bar β s.V) β s.V.cn y uy) (he : ev E dst s.V (.app e i.size zo own) [x, y] K) :
    GotV E c s tm K ((Builtin.append_ #[t, tx] ty #[ux, uy]).run E.P w) := by
  unfold ev at he
  simp only at he
  split at he
  · exact he.elim
  rename_i ys hs
  -- the growth: from old cells that are read in w, into a new block
  have grow : ∀ (l : List D) (a : Option Addr) (sCap : Nat) (olds : List Value), Unif i.size ys → Unif i.size l → (∀ x c, x ∈ l → c ∈ x.cells → c.one = true) → olds.length = l.length * i.size →
      ((a = none ∧ l.length = 0) ∨ ∃ ad, a = some ad ∧ ∀ (j : Nat) (v : Value), olds[j]? = some v → w.cell? (ad.add j) = some v) →
      (∀ (q : Nat) (x : D) (v : Value), (flatD l)[q]? = some x → olds[q]? = some v → DRep w (c.bar β s.V) x v) → sCap < l.length + ys.length → l.length + ys.length ≤ bound →
      ∃ vo w', (Builtin.append_ #[t, tx] ty #[.slice a l.length sCap, uy]).run E.P w = .ok vo w' ∧ Below w.heap.size w w' ∧ vo.oneCell' = true ∧ (∀ b, rowBlk vo = some b → w.heap.size ≤ b ∧ b < w'.heap.size) ∧
        ∀ fb', (∀ b, b < w.heap.size → fb' b → c.bar β s.V b) → RowRep w' fb' e i.size false (l ++ ys) vo := by
    intro l a sCap olds huy hul h1l hol holds hold hroom hlen
    obtain ⟨news, hsrc, hnews, hn1⟩ := src_rep h (e := e) (zv := zv) hy hs huy hpos hcase
    obtain ⟨cap, cur, hrun, hc1, hc2, hcur⟩ := run_app_grow (P := E.P) (ty := ty) ht hi hzv hby hsrc hol holds hroom hlen
    have hb := below_drew_alloc w (.cells cur e)
    have hnl : news.length = ys.length * i.size := by have := hnews.1; rw [flatD_length huy] at this; simpa using this
    refine ⟨_, _, hrun, hb, rfl, fun b hbb => by simp [rowBlk] at hbb; subst hbb; exact ⟨Nat.le_refl _, by simp⟩, fun fb' hfb => ?_⟩
    have hlen2 : (l ++ ys).length = l.length + ys.length := by simp
    rw [← hlen2]
    refine grown_row (w' := w.drew.alloc (.cells cur e)) (heap_alloc_new w.drew _) hcur ?_ (by omega) hc2 hpos hul huy h1l hn1 hol (fun q x v hq hv => (hold q x v hq hv).mono (.of_below hb) hfb)
      (fun q x v hq hv => (hnews.2 q x v hq (by simpa using hv)).mono (.of_below hb) hfb) hnl
    rw [hcur]
    simp only [Array.size_append, List.size_toArray, List.length_append, size_zeroCells, hzs, hol, hnl, ← Nat.add_mul]
    exact Nat.mul_le_mul_right _ (by omega)
  have nilgrow : Unif i.size ys → ys.length ≤ bound → ys ≠ [] → ∃ vo w', (Builtin.append_ #[t, tx] ty #[.slice none 0 0, uy]).run E.P w = .ok vo w' ∧ Below w.heap.size w w' ∧ vo.oneCell' = true ∧ (∀ b, rowBlk vo = some b → w.heap.size ≤ b ∧ b < w'.heap.size) ∧
        ∀ fb', (∀ b, b < w.heap.size → fb' b → c.bar β s.V b) → RowRep w' fb' e i.size false ys vo := by
    intro huy hlen hne
    have hp : 0 < ys.length := List.length_pos_iff.2 hne
    have := grow [] none 0 [] huy (by simp [Unif]) (by simp) (by simp) (.inl ⟨rfl, rfl⟩) (by simp [flatD]) (by simpa using hp) (by simpa using hlen)
    simpa using this
  have nilzero : ys = [] → (Builtin.append_ #[t, tx] ty #[.slice none 0 0, uy]).run E.P w = .ok (.slice none 0 0) w := by
    intro hne; subst hne
    obtain ⟨news, hsrc, _, _⟩ := src_rep h (e := e) (zv := zv) hy hs (by simp [Unif]) hpos hcase
    exact (run_app_zero (P := E.P) (ty := ty) ht hi hzv hsrc (a := none) (Nat.le_refl 0)).1
  split at he
  · -- an own row
    rename_i o g
    split at he
    · rename_i ety' es' nl l hg
      obtain ⟨hol, rfl, rfl, huy, hlen, he⟩ := he
      cases hx with
      | own _ _ hgg hone =>
        obtain ⟨_, ho⟩ := h.objs _ _ _ (View.get_some hg)
        have hvo : ∃ v, β o g = v := ⟨_, rfl⟩
        obtain ⟨v, hv⟩ := hvo
        rw [hv] at ho ⊢
        cases ho with
        | row _ _ _ _ _ ho =>
          rcases ho with ⟨h1, h2, h3⟩ | ⟨h1, b, off, cap, cur, h2, h3, h4, h5, h6, h7, h8, h10, h9⟩
          · subst h1 h2 h3
            by_cases hne : ys = []
            · have hz := nilzero hne
              subst hne
              obtain ⟨β', h5, h6⟩ := fresh_row h (t := o) hol (below_refl' w) (ety := e) (es := i.size) (nl := true) (l := []) (vo := .slice none 0 0) rfl (fun b hb => by simp [rowBlk] at hb) fun fb' _ => .inl ⟨rfl, rfl, rfl⟩
              exact ⟨_, _, _, _, β', hz, he, h5, h6⟩
            · obtain ⟨vo, w', k1, k2, k3, k4, k5⟩ := nilgrow huy (by simpa using hlen) hne
              obtain ⟨β', h5, h6⟩ := fresh_row h (t := o) hol k2 k3 k4 k5
              have : (true && ys.isEmpty) = false := by cases ys <;> simp_all
              rw [this] at he
              exact ⟨_, _, _, _, β', k1, he, h5, h6⟩
          · subst h1 h2
            simp only [Bool.false_and] at he
            by_cases hroom : l.length + ys.length ≤ cap
            · -- in place
              obtain ⟨news, hsrc, hnews, hn1⟩ := src_rep h (e := e) (zv := zv) hy hs huy hpos hcase
              have hnl : news.length = ys.length * i.size := by have := hnews.1; rw [flatD_length huy] at this; simpa using this
              have hfit : off + l.length * i.size + news.length ≤ cur.size := by
                have : (l.length + ys.length) * i.size ≤ cap * i.size := Nat.mul_le_mul_right _ hroom
                rw [Nat.add_mul] at this; omega
              have hrun := run_app_room (P := E.P) (ty := ty) ht hi hzv hsrc h3 hroom hfit (fun v hv => by
                obtain ⟨q, hq⟩ := List.mem_iff_getElem?.1 hv
                have hql : q < (flatD ys).length := by rw [flatD_length huy, ← hnl]; exact (List.getElem?_eq_some_iff.1 hq).1
                have hqx : (flatD ys)[q]? = some (flatD ys)[q] := List.getElem?_eq_getElem hql
                exact (hnews.2 q _ v hqx (by simpa using hq)).oneCell (hn1 _ (List.mem_of_getElem? hqx)))
              have hlt : b < w.heap.size := (Array.getElem?_eq_some_iff.1 h3).1
              have hmine : c.bar β s.V b := .inr ⟨o, g, _, View.get_some hg, by rw [hv]; rfl⟩
              have hcl : (splice cur.toList (off + l.length * i.size) news).length = cur.size := by rw [splice_length (by simpa using hfit)]; simp
              have hsc : ∀ (q : Nat), (splice cur.toList (off + l.length * i.size) news).toArray[q]? = if off + l.length * i.size ≤ q ∧ q < off + l.length * i.size + news.length then news[q - (off + l.length * i.size)]? else cur[q]? := by
                intro q
                rw [List.getElem?_toArray, splice_get (by simpa using hfit)]
                simp
                by_cases k1 : q < off + l.length * i.size
                · rw [if_pos k1, if_neg (by omega)]
                · rw [if_neg k1]
                  by_cases k2 : q < off + l.length * i.size + news.length
                  · rw [if_pos k2, if_pos ⟨by omega, k2⟩]
                  · rw [if_neg k2, if_neg (by omega)]
              have honly : Only (.slice (some ⟨b, off, none⟩) (l.length + ys.length) cap) w (w.setRow b (splice cur.toList (off + l.length * i.size) news).toArray) := only_setRow rfl
              have hst : Stays (c.bar β s.V) w (w.setRow b (splice cur.toList (off + l.length * i.size) news).toArray) := fun k hk hlk => honly.block k hlk (by simp [rowBlk]; rintro rfl; exact hk hmine)
              have hrel := h.fresh (o := o) (x := .row e i.size false (l ++ ys)) hol honly (fun b' hb' => by
                simp [rowBlk] at hb'; subst hb'
                refine ⟨by simpa using hlt, .inr ⟨g, _, View.get_some hg, by rw [hv]; rfl⟩⟩) (fun β' fb' _ _ hf => .row _ _ _ _ _ (.inr ⟨rfl, b, off, cap, (splice cur.toList (off + l.length * i.size) news).toArray, by simp, ?_, by simpa using hroom, h5, by simpa [hcl] using h6, hpos, fun x hx => (List.mem_append.1 hx).elim (h8 x) (huy x),
                  fun x cc hx hc => (List.mem_append.1 hx).elim (fun hh => h10 x cc hh hc) (fun hh => hn1 cc (List.mem_flatMap.2 ⟨x, hh, hc⟩)), fun p x j cc hp hj => ?_⟩))
              · refine ⟨_, _, _, _, _, hrun, he, hrel, AVRep.own_new rfl (cn_fresh _ _ _)⟩
              · exact setRow_heap w b cur _ e _ h3
              · have hjl : j < i.size := by
                  have := (List.getElem?_eq_some_iff.1 hj).1
                  have h11 : x.cells.length = i.size := (List.mem_append.1 (List.mem_of_getElem? hp)).elim (h8 x) (huy x)
                  omega
                rw [hsc]
                by_cases hpl : p < l.length
                · rw [List.getElem?_append_left hpl] at hp
                  obtain ⟨u, hu, hd⟩ := h9 p x j cc hp hj
                  have : p * i.size + j < l.length * i.size := by
                    have : (p + 1) * i.size ≤ l.length * i.size := Nat.mul_le_mul_right _ hpl
                    rw [Nat.add_mul] at this; omega
                  rw [if_neg (by omega)]
                  exact ⟨u, hu, hd.mono hst hf⟩
                · rw [List.getElem?_append_right (by omega)] at hp
                  have hge : l.length * i.size ≤ p * i.size := Nat.mul_le_mul_right _ (by omega)
                  have hfy := flatD_get huy hp hj
                  have hql := (List.getElem?_eq_some_iff.1 hfy).1
                  rw [flatD_length huy] at hql
                  have hsub : (p - l.length) * i.size = p * i.size - l.length * i.size := Nat.sub_mul _ _ _
                  rw [if_pos (by omega), show off + p * i.size + j - (off + l.length * i.size) = (p - l.length) * i.size + j by omega]
                  have hqn : news[(p - l.length) * i.size + j]? = some (news[(p - l.length) * i.size + j]'(by omega)) := List.getElem?_eq_getElem (by omega)
                  exact ⟨_, hqn, (hnews.2 _ _ _ hfy (by simpa using hqn)).mono hst hf⟩
            · -- it grows
              have hcs : ∀ q, q < l.length * i.size → ∃ v, cur[off + q]? = some v := fun q hq => by
                have : l.length * i.size ≤ cap * i.size := Nat.mul_le_mul_right _ h4
                exact ⟨_, Array.getElem?_eq_getElem (by omega)⟩
              obtain ⟨vo, w', k1, k2, k3, k4, k5⟩ := grow l (some ⟨b, off, none⟩) cap ((List.range (l.length * i.size)).map fun q => cur.getD (off + q) undef) huy h8 h10 (by simp) (.inr ⟨_, rfl, fun j v hj => by
                  have hjl : j < l.length * i.size := by have := (List.getElem?_eq_some_iff.1 hj).1; simpa using this
                  obtain ⟨u, hu⟩ := hcs j hjl
                  simp [hjl, Array.getD_eq_getD_getElem?, hu] at hj
                  subst hj
                  rw [Addr.add_lit, cells_cell h3, hu]⟩) (fun q x v hq hv => by
                  have hql : q < l.length * i.size := by rw [← flatD_length h8]; exact (List.getElem?_eq_some_iff.1 hq).1
                  have hdv : q / i.size < l.length := Nat.div_lt_of_lt_mul (by rw [Nat.mul_comm]; exact hql)
                  have hmd : q % i.size < i.size := Nat.mod_lt _ hpos
                  have hp : l[q / i.size]? = some l[q / i.size] := List.getElem?_eq_getElem hdv
                  have hpl := h8 _ (List.mem_of_getElem? hp)
                  have hcx : l[q / i.size].cells[q % i.size]? = some (l[q / i.size].cells[q % i.size]'(by omega)) := List.getElem?_eq_getElem (by omega)
                  have hfl := flatD_get h8 hp hcx
                  rw [Nat.mul_comm, Nat.div_add_mod, hq] at hfl
                  simp at hfl
                  obtain ⟨u, hu, hd⟩ := h9 _ _ _ _ hp hcx
                  rw [Nat.add_assoc, Nat.mul_comm, Nat.div_add_mod] at hu
                  simp [hql, Array.getD_eq_getD_getElem?, hu] at hv
                  subst hv; rw [hfl]; exact hd) (by omega) hlen
              obtain ⟨β', h5, h6⟩ := fresh_row h (t := o) hol k2 k3 k4 k5
              exact ⟨_, _, _, _, β', k1, he, h5, h6⟩
    · exact he.elim
  · -- nil
    obtain ⟨huy, hlen, he⟩ := he
    cases hx with
    | d _ _ hx =>
      have hux : ux = .slice none 0 0 := by cases hx; rfl
      subst hux
      by_cases hne : ys = []
      · have hz := nilzero hne
        subst hne
        split at he
        · split at he
          · rename_i t'
            obtain ⟨β', h5, h6⟩ := fresh_row h (t := t') he.1 (below_refl' w) (ety := e) (es := i.size) (nl := true) (l := []) (vo := .slice none 0 0) rfl (fun b hb => by simp [rowBlk] at hb) fun fb' _ => .inl ⟨rfl, rfl, rfl⟩
            exact ⟨_, _, _, _, β', hz, he.2, h5, h6⟩
          · exact he.elim
        · exact gotV_same h he hz (.d _ _ .nil)
      · obtain ⟨vo, w', k1, k2, k3, k4, k5⟩ := nilgrow huy hlen hne
        have hie : ys.isEmpty = false := by cases ys <;> simp_all
        rw [hie] at he
        split at he
        · split at he
          · rename_i t'
            obtain ⟨β', h5, h6⟩ := fresh_row h (t := t') he.1 k2 k3 k4 k5
            exact ⟨_, _, _, _, β', k1, he.2, h5, h6⟩
          · exact he.elim
        · refine ⟨_, _, _, .none, β, k1, he, h.grow k2, .d _ _ (listRep_of_row (k5 _ fun b _ hb => hb) fun b hb hbar => ?_)⟩
          have := bar_lt h hbar; have := (k4 b hb).1; omega
  · -- a literal
    rename_i l
    obtain ⟨hu, hlen, he⟩ := he
    have hul : Unif i.size l := fun x hx => hu x (by simp [hx])
    have huy : Unif i.size ys := fun x hx => hu x (by simp [hx])
    cases hx with
    | ex _ a hx =>
      by_cases hne : ys = []
      · subst hne
        obtain ⟨news, hsrc, _, _⟩ := src_rep h (e := e) (zv := zv) hy hs (by simp [Unif]) hpos hcase
        have hz := (run_app_zero (P := E.P) (ty := ty) ht hi hzv hsrc (a := some a) (Nat.le_refl l.length)).1
        split at he
        · split at he
          · exact gotV_same h he hz (.ex _ a hx)
          · exact he.elim
        · simp only [List.append_nil] at he
          exact gotV_same h he hz (.d _ _ hx)
      · have hyp : 0 < ys.length := List.length_pos_iff.2 hne
        obtain ⟨olds, hsl, hol, ho1⟩ := src_list (E := E) (tx := t) (z := zv) hx hul hpos ht
        have hlo : olds.length = l.length * i.size := by have := hol.1; rw [flatD_length hul] at this; simpa using this
        have hcells : ∀ (j : Nat) (v : Value), olds[j]? = some v → w.cell? (a.add j) = some v := by
          rcases hsl with ⟨e', _, ⟨h1, _, _⟩ | ⟨a', cap, h1, _, h2⟩⟩ | ⟨_, h1, _⟩
          · cases h1
          · simp at h1; obtain ⟨rfl, _⟩ := h1; exact h2
          · cases h1
        obtain ⟨vo, w', k1, k2, k3, k4, k5⟩ := grow l (some a) l.length olds huy hul (fun x cc hx hc => ho1 cc (List.mem_flatMap.2 ⟨x, hx, hc⟩)) hlo (.inr ⟨a, rfl, hcells⟩) (fun q x v hq hv => hol.2 q x v hq (by simpa using hv)) (by omega) hlen
        split at he
        · split at he
          · rename_i t'
            split at he
            · exact absurd rfl hne
            · obtain ⟨β', h5, h6⟩ := fresh_row h (t := t') he.1 k2 k3 k4 k5
              exact ⟨_, _, _, _, β', k1, he.2, h5, h6⟩
          · exact he.elim
        · refine ⟨_, _, _, .none, β, k1, he, h.grow k2, .d _ _ (listRep_of_row (k5 _ fun b _ hb => hb) fun b hb hbar => ?_)⟩
          have := bar_lt h hbar; have := (k4 b hb).1; omega
  · exact he.elim
end
end Go.Pw
end
section
namespace Go.Pw
open Go.RowKit
set_option linter.unusedSimpArgs false
set_option linter.unusedVariables false

theorem renL_eq (ρ : Ren) : ∀ l : List AV, AV.ren.renL ρ l = listM (AV.ren ρ) l
  | [] => rfl
  | x :: xs => by simp only [AV.ren.renL, listM, renL_eq ρ xs]; cases x.ren ρ with
    | none => rfl
    | some y => cases listM (AV.ren ρ) xs <;> rfl

theorem ren_one {ρ : Ren} {x y : AV} (h : x.ren ρ = some y) : y.one = x.one := by
  cases x <;> simp only [AV.ren] at h <;> first
    | (split at h <;> simp at h <;> subst h <;> rfl)
    | (simp at h; subst h; rfl)

theorem AVRep.ren {w : World} {fb fb' : Nat → Prop} {β β' : Nat → Nat → Value} {cn cn' : Nat → Nat} {ρ : Ren} (hf : ∀ b, b < w.heap.size → fb' b → fb b)
    (hn : ∀ o g q, ρ.get o g = some q → β' q.1 q.2 = β o g ∧ q.2 < cn' q.1) {x : AV} {v : Value} (h : AVRep w fb β cn x v) : ∀ {y : AV}, x.ren ρ = some y → AVRep w fb' β' cn' y v := by
  induction h with
  | d x v h => intro y hy; simp [AV.ren] at hy; subst hy; exact .d x v (h.mono (Stays.refl _ _) hf)
  | ex xs a h => intro y hy; simp [AV.ren] at hy; subst hy; exact .ex xs a (h.mono (Stays.refl _ _) hf)
  | agg cs vs hl h1 h ih =>
    intro y hy
    simp only [AV.ren] at hy
    split at hy
    · rename_i l hrl
      simp at hy; subst hy
      rw [renL_eq] at hrl
      refine .agg l vs (by rw [listM_length hrl]; exact hl) (fun y hy => ?_) (fun i y v hy hv => ?_)
      · obtain ⟨x, hx, hxy⟩ := listM_mem hrl hy
        rw [ren_one hxy]; exact h1 x hx
      · obtain ⟨x, hx, hxy⟩ := listM_get' hrl hy
        exact ih i x v hx hv hxy
    · cases hy
  | ptr o g off b hg h =>
    intro y hy
    simp only [AV.ren] at hy
    split at hy
    · rename_i q hq; simp at hy; subst hy; exact .ptr _ _ _ b (hn o g q hq).2 ((hn o g q hq).1.trans h)
    · cases hy
  | rptr o g es i off b b0 n cap hg h =>
    intro y hy
    simp only [AV.ren] at hy
    split at hy
    · rename_i q hq; simp at hy; subst hy; exact .rptr _ _ _ _ _ b b0 n cap (hn o g q hq).2 ((hn o g q hq).1.trans h)
    · cases hy
  | dptr cs off b base vs hb hne h1 hc hv =>
    intro y hy
    simp [AV.ren] at hy; subst hy
    cases cs with
    | nil => exact absurd rfl hne
    | cons z zs =>
      have hlt : b < w.heap.size := lt_of_cell (hc 0 z (by simp))
      exact .dptr _ off b base vs (fun hh => hb (hf b hlt hh)) hne h1 hc (fun j c h1 => (hv j c h1).mono (Stays.refl _ _) hf)
  | own o g hg h1 =>
    intro y hy
    simp only [AV.ren] at hy
    split at hy
    · rename_i q hq; simp at hy; subst hy
      rw [← (hn o g q hq).1]; exact .own _ _ (hn o g q hq).2 (by rw [(hn o g q hq).1]; exact h1)
    · cases hy
  | map o g hg h1 =>
    intro y hy
    simp only [AV.ren] at hy
    split at hy
    · rename_i q hq; simp at hy; subst hy
      rw [← (hn o g q hq).1]; exact .map _ _ (hn o g q hq).2 (by rw [(hn o g q hq).1]; exact h1)
    · cases hy
  | fn f cs vs hl h ih =>
    intro y hy
    simp only [AV.ren] at hy
    split at hy
    · rename_i l hrl
      simp at hy; subst hy
      rw [renL_eq] at hrl
      refine .fn f l vs (by rw [listM_length hrl]; exact hl) (fun i y v hy hv => ?_)
      obtain ⟨x, hx, hxy⟩ := listM_get' hrl hy
      exact ih i x v hx hv hxy
    · cases hy
  | tup cs vs hl h ih =>
    intro y hy
    simp only [AV.ren] at hy
    split at hy
    · rename_i l hrl
      simp at hy; subst hy
      rw [renL_eq] at hrl
      refine .tup l vs (by rw [listM_length hrl]; exact hl) (fun i y v hy hv => ?_)
      obtain ⟨x, hx, hxy⟩ := listM_get' hrl hy
      exact ih i x v hx hv hxy
    · cases hy
  | undef v => intro y hy; simp [AV.ren] at hy; subst hy; exact .undef v

theorem AVRep.unren {w : World} {fb fb' : Nat → Prop} {β β' : Nat → Nat → Value} {cn cn' : Nat → Nat} {ρ : Ren} (hf : ∀ b, b < w.heap.size → fb' b → fb b)
    (hn : ∀ o g q, ρ.get o g = some q → β' o g = β q.1 q.2 ∧ g < cn' o) {y : AV} {v : Value} (h : AVRep w fb β cn y v) : ∀ {x : AV}, x.ren ρ = some y → AVRep w fb' β' cn' x v := by
  have inv : ∀ {x y : AV}, x.ren ρ = some y → (∃ o g off q, x = .ptr o g off ∧ ρ.get o g = some q ∧ y = .ptr q.1 q.2 off) ∨ (∃ o g es i off q, x = .rptr o g es i off ∧ ρ.get o g = some q ∧ y = .rptr q.1 q.2 es i off) ∨
      (∃ o g q, x = .own o g ∧ ρ.get o g = some q ∧ y = .own q.1 q.2) ∨ (∃ o g q, x = .map o g ∧ ρ.get o g = some q ∧ y = .map q.1 q.2) ∨
      (∃ cs l, x = .agg cs ∧ listM (AV.ren ρ) cs = some l ∧ y = .agg l) ∨ (∃ f cs l, x = .fn f cs ∧ listM (AV.ren ρ) cs = some l ∧ y = .fn f l) ∨ (∃ cs l, x = .tup cs ∧ listM (AV.ren ρ) cs = some l ∧ y = .tup l) ∨
      (x = y ∧ ((∃ d, y = .d d) ∨ (∃ l, y = .ex l) ∨ (∃ cs n, y = .dptr cs n) ∨ y = .undef)) := by
    intro x y hx
    cases x with
    | ptr o g off =>
      simp only [AV.ren] at hx; split at hx
      · rename_i q hq; simp at hx; exact .inl ⟨o, g, off, q, rfl, hq, hx.symm⟩
      · cases hx
    | rptr o g es i off =>
      simp only [AV.ren] at hx; split at hx
      · rename_i q hq; simp at hx; exact .inr (.inl ⟨o, g, es, i, off, q, rfl, hq, hx.symm⟩)
      · cases hx
    | own o g =>
      simp only [AV.ren] at hx; split at hx
      · rename_i q hq; simp at hx; exact .inr (.inr (.inl ⟨o, g, q, rfl, hq, hx.symm⟩))
      · cases hx
    | map o g =>
      simp only [AV.ren] at hx; split at hx
      · rename_i q hq; simp at hx; exact .inr (.inr (.inr (.inl ⟨o, g, q, rfl, hq, hx.symm⟩)))
      · cases hx
    | agg cs =>
      simp only [AV.ren, renL_eq] at hx; split at hx
      · rename_i l hl; simp at hx; exact .inr (.inr (.inr (.inr (.inl ⟨cs, l, rfl, hl, hx.symm⟩))))
      · cases hx
    | fn f cs =>
      simp only [AV.ren, renL_eq] at hx; split at hx
      · rename_i l hl; simp at hx; exact .inr (.inr (.inr (.inr (.inr (.inl ⟨f, cs, l, rfl, hl, hx.symm⟩)))))
      · cases hx
    | tup cs =>
      simp only [AV.ren, renL_eq] at hx; split at hx
      · rename_i l hl; simp at hx; exact .inr (.inr (.inr (.inr (.inr (.inr (.inl ⟨cs, l, rfl, hl, hx.symm⟩))))))
      · cases hx
    | d z => simp [AV.ren] at hx; exact .inr (.inr (.inr (.inr (.inr (.inr (.inr ⟨hx, .inl ⟨z, hx.symm⟩⟩))))))
    | ex z => simp [AV.ren] at hx; exact .inr (.inr (.inr (.inr (.inr (.inr (.inr ⟨hx, .inr (.inl ⟨z, hx.symm⟩)⟩))))))
    | dptr z n => simp [AV.ren] at hx; exact .inr (.inr (.inr (.inr (.inr (.inr (.inr ⟨hx, .inr (.inr (.inl ⟨z, n, hx.symm⟩))⟩))))))
    | undef => simp [AV.ren] at hx; exact .inr (.inr (.inr (.inr (.inr (.inr (.inr ⟨hx, .inr (.inr (.inr hx.symm))⟩))))))
  induction h with
  | d z v h =>
    intro x hx
    rcases inv hx with ⟨_, _, _, _, _, _, h⟩ | ⟨_, _, _, _, _, _, _, _, h⟩ | ⟨_, _, _, _, _, h⟩ | ⟨_, _, _, _, _, h⟩ | ⟨_, _, _, _, h⟩ | ⟨_, _, _, _, _, h⟩ | ⟨_, _, _, _, h⟩ | ⟨rfl, _⟩ <;> first | exact .d _ _ (h.mono (Stays.refl _ _) hf) | cases h
  | ex xs a h =>
    intro x hx
    rcases inv hx with ⟨_, _, _, _, _, _, h⟩ | ⟨_, _, _, _, _, _, _, _, h⟩ | ⟨_, _, _, _, _, h⟩ | ⟨_, _, _, _, _, h⟩ | ⟨_, _, _, _, h⟩ | ⟨_, _, _, _, _, h⟩ | ⟨_, _, _, _, h⟩ | ⟨rfl, _⟩ <;> first | exact .ex _ _ (h.mono (Stays.refl _ _) hf) | cases h
  | agg l vs hl h1 h ih =>
    intro x hx
    rcases inv hx with ⟨_, _, _, _, _, _, h⟩ | ⟨_, _, _, _, _, _, _, _, h⟩ | ⟨_, _, _, _, _, h⟩ | ⟨_, _, _, _, _, h⟩ | ⟨cs, l', rfl, hrl, h⟩ | ⟨_, _, _, _, _, h⟩ | ⟨_, _, _, _, h⟩ | ⟨rfl, ⟨_, h⟩ | ⟨_, h⟩ | ⟨_, _, h⟩ | h⟩ <;> cases h
    refine .agg cs vs (by rw [← listM_length hrl]; exact hl) (fun z hz => ?_) (fun i z v hz hv => ?_)
    · obtain ⟨i, hi⟩ := List.getElem?_of_mem hz
      obtain ⟨y, hy, hxy⟩ := listM_get hrl hi
      rw [← ren_one hxy]; exact h1 y (List.mem_of_getElem? hy)
    · obtain ⟨y, hy, hxy⟩ := listM_get hrl hz
      exact ih i y v hy hv hxy
  | ptr o g off b hg h =>
    intro x hx
    rcases inv hx with ⟨_, _, _, q, rfl, hq, h⟩ | ⟨_, _, _, _, _, _, _, _, h⟩ | ⟨_, _, _, _, _, h⟩ | ⟨_, _, _, _, _, h⟩ | ⟨_, _, _, _, h⟩ | ⟨_, _, _, _, _, h⟩ | ⟨_, _, _, _, h⟩ | ⟨rfl, ⟨_, h⟩ | ⟨_, h⟩ | ⟨_, _, h⟩ | h⟩ <;> cases h
    exact .ptr _ _ _ b (hn _ _ q hq).2 ((hn _ _ q hq).1.trans (by assumption))
  | rptr o g es i off b b0 n cap hg h =>
    intro x hx
    rcases inv hx with ⟨_, _, _, q, _, hq, h⟩ | ⟨_, _, _, _, _, q, rfl, hq, h⟩ | ⟨_, _, _, _, _, h⟩ | ⟨_, _, _, _, _, h⟩ | ⟨_, _, _, _, h⟩ | ⟨_, _, _, _, _, h⟩ | ⟨_, _, _, _, h⟩ | ⟨rfl, ⟨_, h⟩ | ⟨_, h⟩ | ⟨_, _, h⟩ | h⟩ <;> cases h
    exact .rptr _ _ _ _ _ b b0 n cap (hn _ _ q hq).2 ((hn _ _ q hq).1.trans (by assumption))
  | dptr cs off b base vs hb hne h1 hc hv =>
    intro x hx
    rcases inv hx with ⟨_, _, _, _, _, _, h⟩ | ⟨_, _, _, _, _, _, _, _, h⟩ | ⟨_, _, _, _, _, h⟩ | ⟨_, _, _, _, _, h⟩ | ⟨_, _, _, _, h⟩ | ⟨_, _, _, _, _, h⟩ | ⟨_, _, _, _, h⟩ | ⟨rfl, _⟩ <;> try cases h
    cases cs with
    | nil => exact absurd rfl hne
    | cons z zs =>
      have hlt : b < w.heap.size := lt_of_cell (hc 0 z (by simp))
      exact .dptr _ off b base vs (fun hh => hb (hf b hlt hh)) hne h1 hc (fun j c h1 => (hv j c h1).mono (Stays.refl _ _) hf)
  | own o g hg h1 =>
    intro x hx
    rcases inv hx with ⟨_, _, _, _, _, _, h⟩ | ⟨_, _, _, _, _, _, _, _, h⟩ | ⟨_, _, q, rfl, hq, h⟩ | ⟨_, _, _, _, _, h⟩ | ⟨_, _, _, _, h⟩ | ⟨_, _, _, _, _, h⟩ | ⟨_, _, _, _, h⟩ | ⟨rfl, ⟨_, h⟩ | ⟨_, h⟩ | ⟨_, _, h⟩ | h⟩ <;> cases h
    rw [← (hn _ _ q hq).1] at h1 ⊢; exact .own _ _ (hn _ _ q hq).2 h1
  | map o g hg h1 =>
    intro x hx
    rcases inv hx with ⟨_, _, _, _, _, _, h⟩ | ⟨_, _, _, _, _, _, _, _, h⟩ | ⟨_, _, q, _, hq, h⟩ | ⟨_, _, q, rfl, hq, h⟩ | ⟨_, _, _, _, h⟩ | ⟨_, _, _, _, _, h⟩ | ⟨_, _, _, _, h⟩ | ⟨rfl, ⟨_, h⟩ | ⟨_, h⟩ | ⟨_, _, h⟩ | h⟩ <;> cases h
    rw [← (hn _ _ q hq).1] at h1 ⊢; exact .map _ _ (hn _ _ q hq).2 h1
  | fn f l vs hl h ih =>
    intro x hx
    rcases inv hx with ⟨_, _, _, _, _, _, h⟩ | ⟨_, _, _, _, _, _, _, _, h⟩ | ⟨_, _, _, _, _, h⟩ | ⟨_, _, _, _, _, h⟩ | ⟨_, _, _, _, h⟩ | ⟨_, cs, l', rfl, hrl, h⟩ | ⟨_, _, _, _, h⟩ | ⟨rfl, ⟨_, h⟩ | ⟨_, h⟩ | ⟨_, _, h⟩ | h⟩ <;> cases h
    refine .fn _ cs vs (by rw [← listM_length hrl]; exact hl) (fun i z v hz hv => ?_)
    obtain ⟨y, hy, hxy⟩ := listM_get hrl hz
    exact ih i y v hy hv hxy
  | tup l vs hl h ih =>
    intro x hx
    rcases inv hx with ⟨_, _, _, _, _, _, h⟩ | ⟨_, _, _, _, _, _, _, _, h⟩ | ⟨_, _, _, _, _, h⟩ | ⟨_, _, _, _, _, h⟩ | ⟨_, _, _, _, h⟩ | ⟨_, _, _, _, _, h⟩ | ⟨cs, l', rfl, hrl, h⟩ | ⟨rfl, ⟨_, h⟩ | ⟨_, h⟩ | ⟨_, _, h⟩ | h⟩ <;> cases h
    refine .tup cs vs (by rw [← listM_length hrl]; exact hl) (fun i z v hz hv => ?_)
    obtain ⟨y, hy, hxy⟩ := listM_get hrl hz
    exact ih i y v hy hv hxy
  | undef v =>
    intro x hx
    rcases inv hx with ⟨_, _, _, _, _, _, h⟩ | ⟨_, _, _, _, _, _, _, _, h⟩ | ⟨_, _, _, _, _, h⟩ | ⟨_, _, _, _, _, h⟩ | ⟨_, _, _, _, h⟩ | ⟨_, _, _, _, _, h⟩ | ⟨_, _, _, _, h⟩ | ⟨rfl, _⟩ <;> first | exact .undef v | cases h

theorem ORep.ren {w : World} {fb fb' : Nat → Prop} {β β' : Nat → Nat → Value} {cn cn' : Nat → Nat} {ρ : Ren} (hf : ∀ b, b < w.heap.size → fb' b → fb b)
    (hn : ∀ o g q, ρ.get o g = some q → β' q.1 q.2 = β o g ∧ q.2 < cn' q.1) {x y : AObj} {v : Value} (h : ORep w fb β cn x v) (hy : x.ren ρ = some y) : ORep w fb' β' cn' y v := by
  cases h with
  | cells xs b cur e hb hl h1 h =>
    simp only [AObj.ren, renL_eq] at hy
    split at hy
    · rename_i l hrl
      simp at hy; subst hy
      refine .cells l b cur e hb (by rw [listM_length hrl]; exact hl) (fun z hz => ?_) fun i z u hz hu => ?_
      · obtain ⟨x, hx, hxy⟩ := listM_mem hrl hz
        rw [ren_one hxy]; exact h1 x hx
      · obtain ⟨x, hx, hxy⟩ := listM_get' hrl hz
        exact (h i x u hx hu).ren hf hn hxy
    · cases hy
  | row ety es nil xs v h =>
    simp [AObj.ren] at hy; subst hy
    exact .row _ _ _ _ _ (h.mono (Stays.refl _ _) hf fun _ _ _ => rfl)
  | map tys kvs b es hb hl h =>
    simp [AObj.ren] at hy; subst hy
    exact .map tys kvs b es hb hl fun i kv e hk he => by
      obtain ⟨h1, h2, h3, h4⟩ := h i kv e hk he
      exact ⟨h1, h2.mono (Stays.refl _ _) hf, h3.mono (Stays.refl _ _) hf, h4⟩

theorem ORep.unren {w : World} {fb fb' : Nat → Prop} {β β' : Nat → Nat → Value} {cn cn' : Nat → Nat} {ρ : Ren} (hf : ∀ b, b < w.heap.size → fb' b → fb b)
    (hn : ∀ o g q, ρ.get o g = some q → β' o g = β q.1 q.2 ∧ g < cn' o) {x y : AObj} {v : Value} (h : ORep w fb β cn y v) (hy : x.ren ρ = some y) : ORep w fb' β' cn' x v := by
  cases x with
  | cells xs =>
    simp only [AObj.ren, renL_eq] at hy
    split at hy
    · rename_i l hrl
      simp at hy; subst hy
      cases h with
      | cells _ b cur e hb hl h1 h =>
        refine .cells xs b cur e hb (by rw [← listM_length hrl]; exact hl) (fun z hz => ?_) fun i z u hz hu => ?_
        · obtain ⟨i, hi⟩ := List.getElem?_of_mem hz
          obtain ⟨y, hy, hxy⟩ := listM_get hrl hi
          rw [← ren_one hxy]; exact h1 y (List.mem_of_getElem? hy)
        · obtain ⟨y, hy, hxy⟩ := listM_get hrl hz
          exact (h i y u hy hu).unren hf hn hxy
    · cases hy
  | row ety es nil xs =>
    simp [AObj.ren] at hy; subst hy
    cases h with
    | row _ _ _ _ _ h => exact .row _ _ _ _ _ (h.mono (Stays.refl _ _) hf fun _ _ _ => rfl)
  | map tys kvs =>
    simp [AObj.ren] at hy; subst hy
    cases h with
    | map _ _ b es hb hl h =>
      exact .map tys kvs b es hb hl fun i kv e hk he => by
        obtain ⟨h1, h2, h3, h4⟩ := h i kv e hk he
        exact ⟨h1, h2.mono (Stays.refl _ _) hf, h3.mono (Stays.refl _ _) hf, h4⟩

section
variable {E : Env} {c : Ctx} {β : Nat → Nat → Value} {s : PSt} {tm : Array Value} {w : World} {K : AV → Chg → Prop}

/-- BEHIND A CALL: some objects were handed over and are changed; new ones are there. -/
theorem Rel.call (h : Rel E c β s tm w) {V2 : View} {β2 : Nat → Nat → Value} {w' : World} (H T : Nat → Prop)
    (hos : w'.os = w.os) (htp : w'.tape = w.tape) (hout : w'.output = w.output) (hsz : w.heap.size ≤ w'.heap.size) (hblk : ∀ k, k < w.heap.size → ¬ H k → w'.heap[k]? = w.heap[k]?)
    (hH : ∀ b, H b → ∃ o g x, s.V.ob o = some (g, x) ∧ rowBlk (β o g) = some b) (hHT : ∀ o g x b, s.V.ob o = some (g, x) → rowBlk (β o g) = some b → H b → T o)
    (hcn : ∀ o, s.V.cn o ≤ V2.cn o) (hβ : ∀ o g, g < s.V.cn o → β2 o g = β o g) (hun : ∀ o, ¬ T o → V2.ob o = s.V.ob o)
    (hto : ∀ o g y, T o → V2.ob o = some (g, y) → g < V2.cn o ∧ ORep w' (c.bar β2 V2) β2 V2.cn y (β2 o g) ∧ (∀ b, rowBlk (β2 o g) = some b → b < w'.heap.size ∧ ¬ c.fb b ∧ (w.heap.size ≤ b ∨ H b)) ∧ (lim ≤ o → β2 o g = c.b0 o))
    (hsep : ∀ o o' g g' x x' b, T o → T o' → V2.ob o = some (g, x) → V2.ob o' = some (g', x') → rowBlk (β2 o g) = some b → rowBlk (β2 o' g') = some b → o = o') :
    Rel E c β2 ⟨s.sl, V2⟩ tm w' := by
  have hU : ∀ {o g x}, ¬ T o → V2.ob o = some (g, x) → s.V.ob o = some (g, x) ∧ β2 o g = β o g := fun {o g x} ht hx => by
    rw [hun o ht] at hx
    exact ⟨hx, hβ o g (h.objs o g x hx).1⟩
  have hHb : ∀ b, H b → b < w.heap.size ∧ (c.w0.heap.size ≤ b ∨ c.mine b) ∧ ¬ c.fb b := fun b hb => by
    obtain ⟨o, g, x, h1, h2⟩ := hH b hb
    exact h.home o g x b h1 h2
  have hbar : ∀ b, b < w.heap.size → c.bar β2 V2 b → c.bar β s.V b := by
    intro b hlt hh
    rcases hh with hh | ⟨o', g', x', h1, h2⟩
    · exact .inl hh
    · by_cases ht : T o'
      · rcases ((hto o' g' x' ht h1).2.2.1 b h2).2.2 with h3 | h3
        · omega
        · exact .inr (hH b h3)
      · obtain ⟨h3, h4⟩ := hU ht h1
        exact .inr ⟨o', g', x', h3, by rw [← h4]; exact h2⟩
  have hst : Stays (c.bar β s.V) w w' := fun b hn hlt => hblk b hlt fun hb => hn (.inr (hH b hb))
  refine ⟨⟨hos.trans h.keep.os, htp.trans h.keep.tape, hout.trans h.keep.output, Nat.le_trans h.keep.size hsz, fun k hk hm => ?_⟩, h.low, fun g cs hg => (h.glob g cs hg).mono hst hbar, fun t => ?_, fun o g x hx => ?_, ?_, ?_, ?_⟩
  · rw [← h.keep.block k hk hm]
    refine hblk k (Nat.lt_of_lt_of_le hk h.keep.size) fun hb => ?_
    rcases (hHb k hb).2.1 with h5 | h5
    · omega
    · exact hm h5
  · exact (h.slots t).mono hst hbar hβ hcn
  · by_cases ht : T o
    · exact ⟨(hto o g x ht hx).1, (hto o g x ht hx).2.1⟩
    · obtain ⟨h3, h4⟩ := hU ht hx
      obtain ⟨h1, h2⟩ := h.objs o g x h3
      refine ⟨Nat.lt_of_lt_of_le h1 (hcn o), ?_⟩
      show ORep w' (c.bar β2 V2) β2 V2.cn x (β2 o g)
      rw [h4]
      exact h2.mono hst hbar hβ hcn fun b hbb hlt => hblk b hlt fun hb => ht (hHT o g x b h3 hbb hb)
  · intro o1 o2 g1 g2 x1 x2 b h1 h2 h3 h4
    by_cases t1 : T o1 <;> by_cases t2 : T o2
    · exact hsep _ _ _ _ _ _ b t1 t2 h1 h2 h3 h4
    · obtain ⟨k1, k2⟩ := hU t2 h2
      rw [k2] at h4
      rcases ((hto o1 g1 x1 t1 h1).2.2.1 b h3).2.2 with h5 | h5
      · have := (h.home _ _ _ b k1 h4).1; omega
      · exact absurd (hHT _ _ _ b k1 h4 h5) t2
    · obtain ⟨k1, k2⟩ := hU t1 h1
      rw [k2] at h3
      rcases ((hto o2 g2 x2 t2 h2).2.2.1 b h4).2.2 with h5 | h5
      · have := (h.home _ _ _ b k1 h3).1; omega
      · exact absurd (hHT _ _ _ b k1 h3 h5) t1
    · obtain ⟨k1, k2⟩ := hU t1 h1
      obtain ⟨k3, k4⟩ := hU t2 h2
      rw [k2] at h3; rw [k4] at h4
      exact h.sep _ _ _ _ _ _ b k1 k3 h3 h4
  · intro o1 g1 x1 b h1 h2
    by_cases t1 : T o1
    · obtain ⟨h3, h4, h5⟩ := (hto o1 g1 x1 t1 h1).2.2.1 b h2
      refine ⟨h3, ?_, h4⟩
      rcases h5 with h5 | h5
      · exact .inl (Nat.le_trans h.keep.size h5)
      · exact (hHb b h5).2.1
    · obtain ⟨k1, k2⟩ := hU t1 h1
      rw [k2] at h2
      obtain ⟨h3, h4⟩ := h.home _ _ _ b k1 h2
      exact ⟨Nat.lt_of_lt_of_le h3 hsz, h4⟩
  · intro o1 g1 x1 ho h1
    by_cases t1 : T o1
    · exact (hto o1 g1 x1 t1 h1).2.2.2 ho
    · obtain ⟨k1, k2⟩ := hU t1 h1
      rw [k2]; exact h.pin _ _ _ ho k1

theorem Ren.get_mem : ∀ {ρ : Ren} {o g : Nat} {q : Nat × Nat}, ρ.get o g = some q → ((o, g), q) ∈ ρ
  | [], _, _, _, h => by simp [Ren.get] at h
  | (p, q') :: l, o, g, q, h => by
    simp only [Ren.get] at h
    split at h
    · rename_i hh; obtain ⟨rfl, rfl⟩ := hh; simp at h; subst h; simp
    · exact List.mem_cons_of_mem _ (Ren.get_mem h)

theorem nodupB_spec : ∀ {l : List Nat}, nodupB l = true → l.Nodup
  | [], _ => List.nodup_nil
  | x :: l, h => by
    simp only [nodupB, Bool.and_eq_true, Bool.not_eq_true'] at h
    rw [List.nodup_cons]
    exact ⟨fun hx => by have := h.1; simp [hx] at this, nodupB_spec h.2⟩

theorem nodup_map_inj {α : Type} {f : α → Nat} : ∀ {l : List α}, (l.map f).Nodup → ∀ {x y : α}, x ∈ l → y ∈ l → f x = f y → x = y
  | [], _, _, _, hx, _, _ => by cases hx
  | a :: l, h, x, y, hx, hy, he => by
    rw [List.map_cons, List.nodup_cons] at h
    rcases List.mem_cons.1 hx with hx' | hx' <;> rcases List.mem_cons.1 hy with hy' | hy'
    · rw [hx', hy']
    · exact absurd (by rw [← hx', he]; exact List.mem_map_of_mem hy') h.1
    · exact absurd (by rw [← hy', ← he]; exact List.mem_map_of_mem hx') h.1
    · exact nodup_map_inj h.2 hx' hy' he

theorem handed_spec {V : View} {F : List Nat} {ρ : Ren} : ∀ {V0 : List (Nat × Nat × AObj)}, Handed V F ρ V0 → ∀ o g x, (o, g, x) ∈ V0 → ∃ q y, ρ.get o g = some q ∧ x.ren ρ = some y ∧ V.get q.1 q.2 = some y ∧ q.1 ∈ F
  | [], _, _, _, _, h => by cases h
  | (o', g', x') :: l, h, o, g, x, hm => by
    simp only [Handed] at h
    rcases List.mem_cons.1 hm with he | hm
    · cases he
      obtain ⟨h, _⟩ := h
      split at h
      · rename_i q y hq hy; exact ⟨q, y, hq, hy, h.1, by simpa using h.2⟩
      · exact h.elim
    · exact handed_spec h.2 o g x hm

theorem hasN_spec {V : List (Nat × Nat × AObj)} {o g : Nat} (h : hasN V o g = true) : ∃ x, (o, g, x) ∈ V := by
  unfold hasN at h
  rw [List.any_eq_true] at h
  obtain ⟨⟨o', g', x⟩, hm, he⟩ := h
  simp at he; obtain ⟨rfl, rfl⟩ := he
  exact ⟨x, hm⟩

/-- What 'namesOk' tells. -/
structure Names (cn : Nat → Nat) (dst : Option Nat) (V0 V1 : List (Nat × Nat × AObj)) (ρ ρ2 : Ren) : Prop where
  n1 : ∀ o g q, ρ.get o g = some q → g = 0 ∧ (∃ x, (o, g, x) ∈ V0) ∧ ρ2.get o g = some q
  n2 : ∀ o g q, ρ2.get o g = some q → (∃ x, (o, g, x) ∈ V1) ∧ (ρ.get o g = none → ∃ t, dst = some t ∧ q.1 ∈ newS t ∧ q.1 < lim ∧ q.2 = cn q.1)
  n3 : ∀ o g q o' g' q', ρ2.get o g = some q → ρ2.get o' g' = some q' → q.1 = q'.1 → o = o' ∧ g = g'
  n4 : ∀ p p', p ∈ V1 → p' ∈ V1 → p.1 = p'.1 → p = p'
  n5 : (V1.map (·.1)).Nodup

theorem names_of {cn : Nat → Nat} {dst : Option Nat} {V0 V1 : List (Nat × Nat × AObj)} {ρ ρ2 : Ren} (h : namesOk cn dst V0 V1 ρ ρ2 = true) : Names cn dst V0 V1 ρ ρ2 := by
  simp only [namesOk, Bool.and_eq_true, List.all_eq_true] at h
  obtain ⟨⟨⟨h1, h2⟩, h3⟩, h4⟩ := h
  refine ⟨fun o g q hq => ?_, fun o g q hq => ?_, fun o g q o' g' q' hq hq' he => ?_, fun p p' hp hp' he => nodup_map_inj (nodupB_spec h4) hp hp' he, nodupB_spec h4⟩
  · obtain ⟨⟨k1, k2⟩, k3⟩ := h1 _ (Ren.get_mem hq)
    refine ⟨by simpa using k1, hasN_spec k2, ?_⟩
    split at k3
    · rename_i q' hq'
      simp at k3
      simp only at hq'
      rw [hq']; congr 1; exact Prod.ext k3.1 k3.2
    · cases k3
  · obtain ⟨k1, k2⟩ := h2 _ (Ren.get_mem hq)
    refine ⟨hasN_spec k1, fun hn => ?_⟩
    simp only [hn] at k2
    split at k2
    · rename_i t
      simp only [Bool.and_eq_true, List.contains_iff_mem, decide_eq_true_eq, beq_iff_eq] at k2
      exact ⟨t, rfl, by simpa using k2.1.1, k2.1.2, k2.2⟩
    · cases k2
  · have := nodup_map_inj (nodupB_spec h3) (Ren.get_mem hq) (Ren.get_mem hq') he
    simp only [Prod.mk.injEq] at this
    exact this.1

/-- What the changes come to. -/
theorem back_app {ρ ρ2 : Ren} : ∀ {V1 : List (Nat × Nat × AObj)} {V : View} {ch : Chg}, backC ρ ρ2 V1 = some ch → (V1.map (·.1)).Nodup →
    (∀ o g q o' g' q', ρ2.get o g = some q → ρ2.get o' g' = some q' → q.1 = q'.1 → o = o' ∧ g = g') →
    (∀ o g x q, (o, g, x) ∈ V1 → ρ2.get o g = some q → (∀ q', ρ.get o g = some q' → q.2 < V.cn q.1) ∧ (ρ.get o g = none → q.2 = V.cn q.1)) →
    (∀ o g x, (o, g, x) ∈ V1 → ∃ q y, ρ2.get o g = some q ∧ x.ren ρ2 = some y ∧ (V.app ch).ob q.1 = some (q.2, y) ∧ q.2 < (V.app ch).cn q.1) ∧
    (∀ o', (∀ o g x q, (o, g, x) ∈ V1 → ρ2.get o g = some q → q.1 ≠ o') → (V.app ch).ob o' = V.ob o' ∧ (V.app ch).cn o' = V.cn o') ∧ ∀ o', V.cn o' ≤ (V.app ch).cn o'
  | [], V, ch, h, _, _, _ => by
    simp [backC] at h; subst h
    exact ⟨fun _ _ _ h => (by cases h), fun _ _ => ⟨rfl, rfl⟩, fun _ => Nat.le_refl _⟩
  | (o, g, x) :: l, V, ch, h, hnd, n3, hcn => by
    simp only [backC] at h
    split at h
    · rename_i q y cl hq hy hcl
      simp at h; subst h
      rw [List.map_cons, List.nodup_cons] at hnd
      let hd : Chg := match ρ.get o g with | some _ => .keep q.1 q.2 y | none => .fresh q.1 y
      have hob : ∀ o', o' ≠ q.1 → (V.app hd).ob o' = V.ob o' ∧ (V.app hd).cn o' = V.cn o' := by
        intro o' hne
        show (V.app (match ρ.get o g with | some _ => .keep q.1 q.2 y | none => .fresh q.1 y)).ob o' = _ ∧ (V.app (match ρ.get o g with | some _ => .keep q.1 q.2 y | none => .fresh q.1 y)).cn o' = _
        split <;> simp [View.app, upd, hne]
      have hself : (V.app hd).ob q.1 = some (q.2, y) ∧ q.2 < (V.app hd).cn q.1 ∧ V.cn q.1 ≤ (V.app hd).cn q.1 := by
        obtain ⟨c1, c2⟩ := hcn o g x q (by simp) hq
        show (V.app (match ρ.get o g with | some _ => .keep q.1 q.2 y | none => .fresh q.1 y)).ob q.1 = _ ∧ q.2 < (V.app (match ρ.get o g with | some _ => .keep q.1 q.2 y | none => .fresh q.1 y)).cn q.1 ∧ _ ≤ (V.app (match ρ.get o g with | some _ => .keep q.1 q.2 y | none => .fresh q.1 y)).cn q.1
        split
        · rename_i q' hq'; exact ⟨by simp [View.app, upd], c1 q' hq', Nat.le_refl _⟩
        · rename_i hn; have := c2 hn; simp [View.app, upd, this]
      have hne : ∀ o' g' x' q', (o', g', x') ∈ l → ρ2.get o' g' = some q' → q'.1 ≠ q.1 := fun o' g' x' q' hm hq' he => by
        have := (n3 _ _ _ _ _ _ hq' hq he).1
        subst this
        exact hnd.1 (List.mem_map_of_mem (f := (·.1)) hm)
      obtain ⟨i1, i2, i3⟩ := back_app (V := V.app hd) hcl hnd.2 n3 fun o' g' x' q' hm hq' => by
        rw [(hob q'.1 (hne o' g' x' q' hm hq')).2]
        exact hcn o' g' x' q' (List.mem_cons_of_mem _ hm) hq'
      have hq1 := i2 q.1 fun o' g' x' q' hm hq' => hne o' g' x' q' hm hq'
      refine ⟨fun o' g' x' hm => ?_, fun o' ho' => ?_, fun o' => ?_⟩
      · rcases List.mem_cons.1 hm with he | hm
        · cases he
          refine ⟨q, y, hq, hy, ?_, ?_⟩
          · show ((V.app hd).app cl).ob q.1 = _; rw [hq1.1]; exact hself.1
          · show _ < ((V.app hd).app cl).cn q.1; rw [hq1.2]; exact hself.2.1
        · exact i1 o' g' x' hm
      · obtain ⟨j1, j2⟩ := i2 o' fun o1 g1 x1 q1 hm hq1 => ho' o1 g1 x1 q1 (List.mem_cons_of_mem _ hm) hq1
        have hne' : o' ≠ q.1 := fun e => ho' o g x q (by simp) hq e.symm
        exact ⟨j1.trans (hob o' hne').1, j2.trans (hob o' hne').2⟩
      · refine Nat.le_trans ?_ (i3 o')
        by_cases he : o' = q.1
        · subst he; exact hself.2.2
        · rw [(hob o' he).2]; exact Nat.le_refl _
    · cases h

theorem argsM_get {ρ : Ren} : ∀ {ys xs : List AV}, argsM ρ ys xs → xs.length = ys.length ∧ ∀ (i : Nat) (y : AV), ys[i]? = some y → ∃ x, xs[i]? = some x ∧ argM ρ y x
  | [], [], _ => ⟨rfl, fun i y h => by simp at h⟩
  | [], _ :: _, h => h.elim
  | _ :: _, [], h => h.elim
  | y :: ys, x :: xs, h => by
    obtain ⟨h1, h2⟩ := argsM_get h.2
    refine ⟨by simp [h1], fun i z hz => ?_⟩
    cases i with
    | zero => simp at hz; subst hz; exact ⟨x, by simp, h.1⟩
    | succ i => simp at hz; obtain ⟨w, hw, hm⟩ := h2 i z hz; exact ⟨w, by simpa using hw, hm⟩

open Classical in
theorem sound_callM (h : Rel E c β s tm w) {dst : Option Nat} {f : FuncId} {xs : List AV} {us : Array Value} (hus : us.size = xs.length) (hxs : ∀ (i : Nat) (x : AV) (v : Value), xs[i]? = some x → us[i]? = some v → AVRep w (c.bar β s.V) β s.V.cn x v)
    {F : List Nat} {V0 V1 : List (Nat × Nat × AObj)} {cxs : List AV} {r r' : AV} {ch : Chg} {ρ ρ2 : Ren} (hren : argsM ρ cxs xs) (hcall : CallM E f V0 cxs V1 r) (hhand : Handed s.V F ρ V0) (hnm : namesOk s.V.cn dst V0 V1 ρ ρ2 = true)
    (hr : r.ren ρ2 = some r') (hback : backC ρ ρ2 V1 = some ch) (hK : K r' ch) :
    Calls E.P f us w fun e w'' => ∃ u v ch β', e = .returned u ∧ K v ch ∧ Rel E c β' ⟨s.sl, s.V.app ch⟩ tm w'' ∧ AVRep w'' (c.bar β' (s.V.app ch)) β' (s.V.app ch).cn v u := by
  have hH := handed_spec hhand
  have N := names_of hnm
  obtain ⟨hrlen, hrget⟩ := argsM_get hren
  obtain ⟨βc, hβc⟩ : ∃ βc : Nat → Nat → Value, βc = fun o g => match ρ.get o g with | some q => β q.1 q.2 | none => undef := ⟨_, rfl⟩
  have hβq : ∀ o g q, ρ.get o g = some q → βc o g = β q.1 q.2 := fun o g q hq => by rw [hβc]; simp only [hq]
  obtain ⟨H, hHd⟩ : ∃ H : Nat → Prop, H = OwnsL βc V0 := ⟨_, rfl⟩
  have hown : ∀ o g x, (o, g, x) ∈ V0 → ∃ q y, ρ.get o g = some q ∧ x.ren ρ = some y ∧ s.V.ob q.1 = some (q.2, y) ∧ βc o g = β q.1 q.2 := fun o g x hm => by
    obtain ⟨q, y, h1, h2, h3, _⟩ := hH o g x hm
    exact ⟨q, y, h1, h2, View.get_some h3, hβq o g q h1⟩
  have hHo : ∀ b, H b → ∃ o g x q y, (o, g, x) ∈ V0 ∧ ρ.get o g = some q ∧ s.V.ob q.1 = some (q.2, y) ∧ rowBlk (β q.1 q.2) = some b := fun b hb => by
    rw [hHd] at hb
    obtain ⟨o, g, x, hm, hbb⟩ := hb
    obtain ⟨q, y, h1, _, h3, h4⟩ := hown o g x hm
    exact ⟨o, g, x, q, y, hm, h1, h3, by rw [← h4]; exact hbb⟩
  let fbc : Nat → Prop := fun b => c.bar β s.V b ∧ ¬ H b
  have hbarc : ∀ b, (fbc b ∨ OwnsL βc V0 b) → c.bar β s.V b := by
    intro b hb
    rcases hb with hb | hb
    · exact hb.1
    · rw [← hHd] at hb
      obtain ⟨o, g, x, q, y, _, _, h3, h4⟩ := hHo b hb
      exact .inr ⟨_, _, _, h3, h4⟩
  have hnc : ∀ o g q, ρ.get o g = some q → βc o g = β q.1 q.2 ∧ g < 1 := fun o g q hq => ⟨hβq o g q hq, by have := (N.n1 o g q hq).1; omega⟩
  have hAt : At w fbc βc (fun _ => 1) V0 := by
    refine ⟨fun o g x hm => ?_, fun o g x o' g' x' b hm hm' hb hb' => ?_, fun o g x b hm hb => ?_⟩
    · obtain ⟨q, y, h1, h2, h3, h4⟩ := hown o g x hm
      refine ⟨(hnc o g q h1).2, ?_⟩
      rw [h4]
      exact (h.objs _ _ _ h3).2.unren (fun b _ hb => hbarc b hb) hnc h2
    · obtain ⟨q, y, h1, h2, h3, h4⟩ := hown o g x hm
      obtain ⟨q', y', h1', h2', h3', h4'⟩ := hown o' g' x' hm'
      rw [h4] at hb; rw [h4'] at hb'
      have := h.sep _ _ _ _ _ _ b h3 h3' hb hb'
      exact N.n3 _ _ _ _ _ _ (N.n1 _ _ _ h1).2.2 (N.n1 _ _ _ h1').2.2 this
    · obtain ⟨q, y, h1, h2, h3, h4⟩ := hown o g x hm
      have hb2 := hb
      rw [h4] at hb2
      exact ⟨(h.home _ _ _ b h3 hb2).1, fun hf => hf.2 (by rw [hHd]; exact ⟨o, g, x, hm, hb⟩)⟩
  refine (hcall w fbc βc us (fun b hb => bar_lt h hb.1) (fun g cs hg => (h.glob g cs hg).mono (Stays.refl _ _) fun b _ hb => hbarc b hb) hAt (by rw [hus]; exact hrlen) (fun i x v hx hv => ?_)).mono fun e w' hpost => ?_
  · obtain ⟨y, hy, hxy⟩ := hrget i x hx
    have hrep := hxs i y v hy hv
    cases x with
    | d z => exact .d _ _ ((toD1_rep hrep hxy).1.mono (Stays.refl _ _) fun b _ hb => hbarc b hb)
    | _ => exact hrep.unren (fun b _ hb => hbarc b hb) hnc hxy
  obtain ⟨u, β1, cn1, he, e1, e2, e3, e4, e5, hAt1, e6, e7, e8⟩ := hpost
  rw [← hHd] at e5
  -- the names behind the call
  obtain ⟨a1, a2, a3⟩ := back_app (V := s.V) hback N.n5 N.n3 fun o g x q hm hq => ⟨fun q' hq' => by
      have hqq := (N.n1 _ _ _ hq').2.2
      rw [hq] at hqq; simp at hqq; subst hqq
      obtain ⟨x0, hm0⟩ := (N.n1 _ _ _ hq').2.1
      obtain ⟨q2, y2, h1, _, h3, _⟩ := hown o g x0 hm0
      rw [hq'] at h1; simp at h1; subst h1
      exact (h.objs _ _ _ h3).1, fun hn => by obtain ⟨t, _, _, _, h5⟩ := (N.n2 _ _ _ hq).2 hn; exact h5⟩
  obtain ⟨β2, hβ2d⟩ : ∃ β2 : Nat → Nat → Value, β2 = fun o' g' => if hh : ∃ p : Nat × Nat, ρ2.get p.1 p.2 = some (o', g') then β1 hh.choose.1 hh.choose.2 else β o' g' := ⟨_, rfl⟩
  have hβ2q : ∀ o g q, ρ2.get o g = some q → β2 q.1 q.2 = β1 o g := by
    intro o g q hq
    have hex : ∃ p : Nat × Nat, ρ2.get p.1 p.2 = some (q.1, q.2) := ⟨(o, g), hq⟩
    rw [hβ2d]; simp only [hex, dif_pos]
    have hs := hex.choose_spec
    obtain ⟨k1, k2⟩ := N.n3 _ _ _ _ _ _ hs hq rfl
    rw [k1, k2]
  have hold : ∀ o g q, ρ.get o g = some q → β1 o g = β q.1 q.2 := fun o g q hq => by
    obtain ⟨x0, hm0⟩ := (N.n1 _ _ _ hq).2.1
    rw [(e6 o g x0 hm0).2, hβq o g q hq]
  have hβ2lt : ∀ o' g', g' < s.V.cn o' → β2 o' g' = β o' g' := by
    intro o' g' hlt
    by_cases hex : ∃ p : Nat × Nat, ρ2.get p.1 p.2 = some (o', g')
    · obtain ⟨p, hp⟩ := hex
      rw [show β2 o' g' = β1 p.1 p.2 from hβ2q _ _ _ hp]
      cases hr : ρ.get p.1 p.2 with
      | some q =>
        have := (N.n1 _ _ _ hr).2.2
        rw [hp] at this; simp at this; subst this
        exact hold _ _ _ hr
      | none =>
        obtain ⟨t, _, _, _, h5⟩ := (N.n2 _ _ _ hp).2 hr
        simp only at h5; omega
    · rw [hβ2d]; simp only [hex, dif_neg, not_false_eq_true]
  let T : Nat → Prop := fun o' => ∃ o g x q, (o, g, x) ∈ V1 ∧ ρ2.get o g = some q ∧ q.1 = o'
  have hT0 : ∀ o g x q, (o, g, x) ∈ V0 → ρ.get o g = some q → T q.1 := fun o g x q hm hq => by
    obtain ⟨⟨x', hx'⟩, _⟩ := e6 o g x hm
    exact ⟨o, g, x', q, hx', (N.n1 _ _ _ hq).2.2, rfl⟩
  have hTin : ∀ {o' g' y'}, T o' → (s.V.app ch).ob o' = some (g', y') → ∃ o g x, (o, g, x) ∈ V1 ∧ ρ2.get o g = some (o', g') ∧ x.ren ρ2 = some y' ∧ g' < (s.V.app ch).cn o' := by
    intro o' g' y' ⟨o, g, x, q, hm, hq, he⟩ hob
    obtain ⟨q', y, h1, h2, h3, h4⟩ := a1 o g x hm
    rw [hq] at h1; simp at h1; subst h1
    subst he
    rw [hob] at h3; simp at h3
    obtain ⟨rfl, rfl⟩ := h3
    exact ⟨o, g, x, hm, hq, h2, h4⟩
  have hUn : ∀ o', ¬ T o' → (s.V.app ch).ob o' = s.V.ob o' := fun o' ht => (a2 o' fun o g x q hm hq he => ht ⟨o, g, x, q, hm, hq, he⟩).1
  have hHT : ∀ o g x b, s.V.ob o = some (g, x) → rowBlk (β o g) = some b → H b → T o := fun o' g' x' b hob hb hHb => by
    obtain ⟨o, g, x, q, y, hm, hq, h3, h4⟩ := hHo b hHb
    have := h.sep _ _ _ _ _ _ b h3 hob h4 hb
    subst this
    exact hT0 o g x q hm hq
  have hcfb : ∀ b, c.fb b → fbc b := fun b hb => ⟨.inl hb, fun hHb => by
    obtain ⟨o, g, x, q, y, hm, hq, h3, h4⟩ := hHo b hHb
    exact (h.home _ _ _ b h3 h4).2.2 hb⟩
  have hbar2 : ∀ b, c.bar β2 (s.V.app ch) b → fbc b ∨ OwnsL β1 V1 b := by
    intro b hb
    rcases hb with hb | ⟨o', g', x', h1, h2⟩
    · exact .inl (hcfb b hb)
    · by_cases ht : T o'
      · obtain ⟨o, g, x, hm, hq, _, _⟩ := hTin ht h1
        exact .inr ⟨o, g, x, hm, by rw [← hβ2q _ _ _ hq]; exact h2⟩
      · have hob := h1
        rw [hUn o' ht] at hob
        have hb' := h2
        rw [hβ2lt o' g' (h.objs _ _ _ hob).1] at hb'
        exact .inl ⟨.inr ⟨o', g', x', hob, hb'⟩, fun hHb => ht (hHT o' g' x' b hob hb' hHb)⟩
  have hn2 : ∀ o g q, ρ2.get o g = some q → β2 q.1 q.2 = β1 o g ∧ q.2 < (s.V.app ch).cn q.1 := fun o g q hq => by
    obtain ⟨x, hm⟩ := (N.n2 _ _ _ hq).1
    obtain ⟨q', y, h1, h2, h3, h4⟩ := a1 o g x hm
    rw [hq] at h1; simp at h1; subst h1
    exact ⟨hβ2q _ _ _ hq, h4⟩
  refine ⟨u, r', ch, β2, he, hK, ?_, e8.ren (fun b _ hb => hbar2 b hb) hn2 hr⟩
  refine Rel.call h H T e1 e2 e3 e4 e5 (fun b hb => ?_) hHT a3 hβ2lt hUn (fun o' g' y' ht hob => ?_) (fun o1 o2 g1 g2 x1 x2 b t1 t2 h1 h2 h3 h4 => ?_)
  · obtain ⟨o, g, x, q, y, hm, hq, h3, h4⟩ := hHo b hb
    exact ⟨_, _, _, h3, h4⟩
  · obtain ⟨o, g, x, hm, hq, hy, hlt⟩ := hTin ht hob
    have hval : β2 o' g' = β1 o g := hβ2q _ _ _ hq
    refine ⟨hlt, ?_, fun b hb => ?_, fun hl => ?_⟩
    · rw [hval]; exact (hAt1.objs o g x hm).2.ren (fun b _ hb => hbar2 b hb) hn2 hy
    · rw [hval] at hb
      obtain ⟨k1, k2⟩ := hAt1.home o g x b hm hb
      refine ⟨k1, fun hf => k2 (hcfb b hf), ?_⟩
      rw [hHd]; exact e7 o g x b hm hb
    · cases hro : ρ.get o g with
      | some q =>
        have := (N.n1 _ _ _ hro).2.2
        rw [hq] at this; simp at this; subst this
        obtain ⟨x0, hm0⟩ := (N.n1 _ _ _ hro).2.1
        obtain ⟨q2, y2, k1, _, k3, _⟩ := hown o g x0 hm0
        rw [hro] at k1; simp at k1; subst k1
        rw [hval, hold _ _ _ hro]
        exact h.pin _ _ _ hl k3
      | none =>
        obtain ⟨t, _, _, k4, _⟩ := (N.n2 _ _ _ hq).2 hro
        simp only at k4; omega
  · obtain ⟨o, g, x, hm, hq, _, _⟩ := hTin t1 h1
    obtain ⟨o', g', x', hm', hq', _, _⟩ := hTin t2 h2
    rw [show β2 o1 g1 = β1 o g from hβ2q _ _ _ hq] at h3
    rw [show β2 o2 g2 = β1 o' g' from hβ2q _ _ _ hq'] at h4
    obtain ⟨rfl, rfl⟩ := hAt1.sep _ _ _ _ _ _ b hm hm' h3 h4
    rw [hq] at hq'; simp at hq'; exact hq'.1
end
end Go.Pw
end
section
namespace Go.Pw
open Go.RowKit
set_option linter.unusedSimpArgs false
set_option linter.unusedVariables false

def Opd.val (sl : Nat → AV) : Opd → AV
  | .t n => sl n
  | .k v => v

section
variable {E : Env} {c : Ctx} {β : Nat → Nat → Value} {s : PSt} {tm : Array Value} {w : World} {K : AV → Chg → Prop}

theorem decO_rep {a : Act} (h : Rel E c β s a.tmps w) {x : Operand} {y : Opd} (hd : decO E x = some y) : AVRep w (c.bar β s.V) β s.V.cn (y.val s.sl) (a.eval x) := by
  unfold decO at hd
  split at hd
  · simp at hd; subst hd; exact h.slots _
  · rename_i v
    cases hv : decV v with
    | none => simp [hv] at hd
    | some d => simp [hv] at hd; subst hd; exact .d _ _ (decV_rep hv)
  · rename_i g
    cases hv : E.G g with
    | none => simp [hv] at hd
    | some cs => simp [hv] at hd; subst hd; exact .d _ _ (h.glob g cs hv)
  · simp at hd; subst hd
    exact .fn _ [] #[] (by simp) (fun i c v hi => by simp at hi)

theorem decOs_rep {a : Act} (h : Rel E c β s a.tmps w) {xs : List Operand} {ys : List Opd} (hd : decOs E xs = some ys) : ValsR (AVRep w (c.bar β s.V) β s.V.cn) (ys.map (Opd.val s.sl)) (xs.map a.eval) := by
  refine ⟨by simp [listM_length hd], fun i x u hx hu => ?_⟩
  simp only [List.getElem?_map, Option.map_eq_some_iff] at hx hu
  obtain ⟨y, hy, rfl⟩ := hx
  obtain ⟨o, ho, rfl⟩ := hu
  obtain ⟨y', h1, h2⟩ := listM_get hd ho
  rw [hy] at h1; simp at h1; subst h1
  exact decO_rep h h2

/-- A call's answer. -/
def GotC (E : Env) (c : Ctx) (s : PSt) (tm : Array Value) (K : AV → Chg → Prop) (f : FuncId) (args : Array Value) (w : World) : Prop :=
  Calls E.P f args w fun e w'' => ∃ u v ch β', e = .returned u ∧ K v ch ∧ Rel E c β' ⟨s.sl, s.V.app ch⟩ tm w'' ∧ AVRep w'' (c.bar β' (s.V.app ch)) β' (s.V.app ch).cn v u

theorem up_rep {fb β' cn} {r : D} {v : Value} (h : DRep w fb r v) : AVRep w fb β' cn (up r) v := by
  unfold up
  split
  · rename_i xs
    cases h with
    | tup _ vs hl h =>
      refine .tup _ _ (by simpa using hl) fun i x u hx hu => ?_
      simp only [List.getElem?_map, Option.map_eq_some_iff] at hx
      obtain ⟨y, hy, rfl⟩ := hx
      exact .d _ _ (h i y u hy hu)
  · exact .d _ _ h

theorem sound_call (h : Rel E c β s tm w) {dst : Option Nat} {f : FuncId} {xs : List AV} {us : Array Value} (hxs : ValsR (AVRep w (c.bar β s.V) β s.V.cn) xs us.toList) (he : evCall E dst s.V f xs K) : GotC E c s tm K f us w := by
  rcases he with ⟨ds, r, hd, hret, hK⟩ | ⟨ds, r, hd, hret, hfl, hK⟩ | ⟨ds, t, ety, es, nl, l, rfl, htl, hd, hret, hK⟩ | ⟨V0, cxs, V1, r, r', ch, ρ, ρ2, hren, hcall, hhand, hnm, hr, hback, hK⟩
  · refine (hret w (c.bar β s.V) us (fun b hb => bar_lt h hb) h.glob (by have := hxs.1; rw [listM_length hd, ← this]; simp) fun i d v hi hv => ?_).mono fun e w' ⟨v, he, hb, hr⟩ => ⟨v, _, .none, β, he, hK, h.grow hb, up_rep hr⟩
    obtain ⟨x, hx, hxd⟩ := listM_get' hd hi
    exact (toD1_rep (hxs.2 i x v hx (by simpa using hv)) hxd).1
  · refine (hret w c.fb us (fun b hb => bar_lt h (.inl hb)) (fun g cs hg => (h.glob g cs hg).mono (Stays.refl _ _) fun b _ hb => .inl hb) (by have := hxs.1; rw [listM_length hd, ← this]; simp) fun i d v hi hv => ?_).mono fun e w' ⟨v, he, hb, hr⟩ => ⟨v, _, .none, β, he, hK, h.grow hb, up_rep (hr.of_flat hfl)⟩
    obtain ⟨x, hx, hxd⟩ := listM_get' hd hi
    exact snap_rep h (hxs.2 i x v hx (by simpa using hv)) hxd
  · refine (hret w (c.bar β s.V) us (fun b hb => bar_lt h hb) h.glob (by have := hxs.1; rw [listM_length hd, ← this]; simp) fun i d v hi hv => ?_).mono fun e w' ⟨v, he, hb, hbl, hr⟩ => ?_
    · obtain ⟨x, hx, hxd⟩ := listM_get' hd hi
      exact (toD1_rep (hxs.2 i x v hx (by simpa using hv)) hxd).1
    · have hlt : ∀ b, rowBlk v = some b → b < w'.heap.size := by
        intro b hbb
        rcases hr with ⟨_, _, rfl⟩ | ⟨_, b', off, cap, cur, rfl, h3, _⟩
        · simp [rowBlk] at hbb
        · simp [rowBlk] at hbb; subst hbb; exact (Array.getElem?_eq_some_iff.1 h3).1
      have h1 : v.oneCell' = true := by
        rcases hr with ⟨_, _, rfl⟩ | ⟨_, b', off, cap, cur, rfl, h3, _⟩ <;> rfl
      refine ⟨v, _, _, upd2 β t (s.V.cn t) v, he, hK, h.fresh htl (.of_below _ hb) (fun b hbb => ⟨hlt b hbb, .inl (hbl b hbb)⟩) (fun β' fb' hβ' hfe hf => .row _ _ _ _ _ (hr.mono (Stays.refl _ _) (fun b hb' hh => ?_) fun _ _ _ => rfl)), AVRep.own_new h1 (cn_fresh _ _ _)⟩
      subst hβ' hfe
      rcases hh with hh | ⟨o', g', x', h2, h3⟩
      · exact .inl (.inl hh)
      · by_cases ho : o' = t
        · subst ho
          simp [View.app, upd] at h2
          obtain ⟨rfl, _⟩ := h2
          rw [upd2_same] at h3; exact .inr h3
        · simp [View.app, upd, ho] at h2
          have := (h.objs o' g' x' h2).1
          rw [upd2_lt o' g' this] at h3
          exact .inl (.inr ⟨o', g', x', h2, h3⟩)
  · exact sound_callM h (by simpa using hxs.1) (fun i x v hx hv => hxs.2 i x v hx (by simpa using hv)) hren hcall hhand hnm hr hback hK

theorem run_callFunc {f : FuncId} (hf : hasBody E.P f = true) (args : Array Value) : (callFunc f args).run E.P w = .ok (.enter f args) w := by
  unfold hasBody at hf
  split at hf
  · rename_i fn hfn
    simp only [Bool.and_eq_true, bne_iff_ne, ne_eq] at hf
    have h2 : ¬ fn.body = none := by intro hb; simp [hb] at hf
    simp [callFunc, hfn, hf.2, h2]
  · cases hf

theorem got_of_C {f : FuncId} {args : Array Value} {r : Result Next} (hr : r = .ok (.enter f args) w) (h : GotC E c s tm K f args w) : Got E c s tm K r := .inr ⟨f, args, w, hr, h⟩

theorem got_of_V {m : Sem Value} (h : GotV E c s tm K (m.run E.P w)) : Got E c s tm K ((do let v ← m; pure (Next.value v) : Sem Next).run E.P w) := by
  obtain ⟨u, w', v, ch, β', hr, hK, h1, h2⟩ := h
  exact .inl ⟨u, w', v, ch, β', .inl (by simp [hr]), hK, h1, h2⟩

theorem got_of_U {m : Sem Unit} (h : GotU E c s tm K (m.run E.P w)) : Got E c s tm K ((do m; pure Next.skip : Sem Next).run E.P w) := by
  obtain ⟨w', ch, β', hr, hK, h1⟩ := h
  exact .inl ⟨undef, w', .undef, ch, β', .inr ⟨by simp [hr], rfl⟩, hK, h1, .undef _⟩

theorem got_of_R (h : Rel E c β s tm w) {m : Sem Value} (hh : ∃ r, m.run E.P w = .ok r w ∧ ∃ v, K v .none ∧ AVRep w (c.bar β s.V) β s.V.cn v r) : Got E c s tm K ((do let v ← m; pure (Next.value v) : Sem Next).run E.P w) := by
  obtain ⟨r, hr, v, hK, hv⟩ := hh
  exact got_same h hK (by simp [hr]) hv

theorem decOne {us : List Value} {x : AV} {R : AV → Value → Prop} (h : ValsR R [x] us) : ∃ u, us = [u] ∧ R x u := by
  obtain ⟨u, us', rfl, h1, h2⟩ := h.cons'
  have := h2.nil; subst this; exact ⟨u, rfl, h1⟩
theorem decTwo {us : List Value} {x y : AV} {R : AV → Value → Prop} (h : ValsR R [x, y] us) : ∃ u v, us = [u, v] ∧ R x u ∧ R y v := by
  obtain ⟨u, us', rfl, h1, h2⟩ := h.cons'
  obtain ⟨v, rfl, h3⟩ := decOne h2; exact ⟨u, v, rfl, h1, h3⟩
theorem decThree {us : List Value} {x y z : AV} {R : AV → Value → Prop} (h : ValsR R [x, y, z] us) : ∃ u v t, us = [u, v, t] ∧ R x u ∧ R y v ∧ R z t := by
  obtain ⟨u, us', rfl, h1, h2⟩ := h.cons'
  obtain ⟨v, t, rfl, h3, h4⟩ := decTwo h2; exact ⟨u, v, t, rfl, h1, h3, h4⟩

theorem sound_un (h : Rel E c β s tm w) {dst : Option Nat} {u : UnOp} {xs : List AV} {x : Value} (hx : ValsR (AVRep w (c.bar β s.V) β s.V.cn) xs [x]) (he : ev E dst s.V (.un u) xs K) : ∃ r, (Op.unary u x).run E.P w = .ok r w ∧ ∃ v, K v .none ∧ AVRep w (c.bar β s.V) β s.V.cn v r := by
  unfold ev at he
  simp only at he
  split at he
  · obtain ⟨u, hu, h1⟩ := decOne hx
    simp at hu; subst hu
    rw [rep_bool h1]
    exact ⟨_, by simp [Op.unary], _, he, av_bool⟩
  · obtain ⟨u, hu, h1⟩ := decOne hx
    simp at hu; subst hu
    obtain ⟨rfl, _⟩ := rep_int h1
    exact ⟨_, by simp [Op.unary, Op.intArith], _, he, av_int (wrap_in _ _)⟩
  · obtain ⟨u, hu, h1⟩ := decOne hx
    simp at hu; subst hu
    obtain ⟨rfl, _⟩ := rep_int h1
    exact ⟨_, by simp [Op.unary, Op.intBits, bitsOp], _, he, av_int (wrap_in _ _)⟩
  · exact he.elim

theorem sound_conv (h : Rel E c β s tm w) {dst : Option Nat} {src ty : TypeId} {k k' : IntKind} {x : AV} {u : Value} (hs : E.P.underlying src = some (.int k')) (ht : E.P.underlying ty = some (.int k)) (hx : AVRep w (c.bar β s.V) β s.V.cn x u) (he : ev E dst s.V (.conv k) [x] K) :
    ∃ r, (convert src ty u).run E.P w = .ok r w ∧ ∃ v, K v .none ∧ AVRep w (c.bar β s.V) β s.V.cn v r := by
  unfold ev at he
  simp only at he
  split at he
  · rename_i heq
    simp at heq; subst heq
    obtain ⟨rfl, _⟩ := rep_int hx
    exact ⟨_, by simp [convert, run_underlying hs, run_underlying ht, Conv.intToInt], _, he, av_int (wrap_in _ _)⟩
  · exact he.elim

theorem sound_extract {dst : Option Nat} {i : Nat} {x : AV} {u : Value} (hx : AVRep w (c.bar β s.V) β s.V.cn x u) (he : ev E dst s.V (.extract i) [x] K) :
    ∃ r, (Instr.extract u i).run E.P w = .ok r w ∧ ∃ v, K v .none ∧ AVRep w (c.bar β s.V) β s.V.cn v r := by
  unfold ev at he
  simp only at he
  split at he
  · rename_i heq
    simp at heq; subst heq
    split at he
    · rename_i v hv
      cases hx with
      | tup _ vs hl hh =>
        have hlt : i < vs.size := by rw [hl]; exact (List.getElem?_eq_some_iff.1 hv).1
        have hg : vs[i]? = some vs[i] := Array.getElem?_eq_getElem hlt
        exact ⟨vs[i], by simp [Instr.extract, hg], v, he, hh i v _ hv hg⟩
    · exact he.elim
  · exact he.elim

theorem sound_len (h : Rel E c β s tm w) {dst : Option Nat} {t ty : TypeId} {x : AV} {u : Value} {m : Bool} (ht : if m then (∃ k e, E.P.underlying t = some (.map k e)) else ∃ e, E.P.underlying t = some (.slice e)) (hx : AVRep w (c.bar β s.V) β s.V.cn x u) (he : ev E dst s.V (.len m) [x] K) :
    ∃ r, (Builtin.len_ #[t] ty #[u]).run E.P w = .ok r w ∧ ∃ v, K v .none ∧ AVRep w (c.bar β s.V) β s.V.cn v r := by
  have small : ∀ {n : Nat}, n ≤ maxLen → InK .i64 (n : Int) := fun {n} hn => by unfold maxLen at hn; simp [InK, IntKind.min, IntKind.max, IntKind.signed, IntKind.bits]; omega
  have listCase : ∀ {nl : Bool} {l : List D}, x.asList s.V = some (nl, l) → K (.d (.int .i64 l.length)) .none → (∃ e, E.P.underlying t = some (.slice e)) → ∃ r, (Builtin.len_ #[t] ty #[u]).run E.P w = .ok r w ∧ ∃ v, K v .none ∧ AVRep w (c.bar β s.V) β s.V.cn v r := by
    intro nl l hl hK ⟨e, hte⟩
    have hd := asList_rep h hx hl
    cases hd with
    | nil => exact ⟨.int .i64 0, by simp [Builtin.len_, run_underlying hte, goInt], _, hK, by simpa using av_int (small (n := 0) (by simp))⟩
    | empty a cap hm => exact ⟨.int .i64 0, by simp [Builtin.len_, run_underlying hte, goInt], _, hK, by simpa using av_int (small (n := 0) (by simp))⟩
    | list _ es b off cap vs hcap hm => exact ⟨.int .i64 l.length, by simp [Builtin.len_, run_underlying hte, goInt], _, hK, av_int (small (by omega))⟩
  unfold ev at he
  simp only at he
  cases m with
  | true =>
    obtain ⟨k, e, ht⟩ := ht
    simp only [if_true] at he
    split at he
    · rename_i o g
      split at he
      · rename_i kvs hg
        obtain ⟨hb, hK⟩ := he
        cases hx with
        | map _ _ hgg hone =>
          obtain ⟨_, ho⟩ := h.objs _ _ _ (View.get_some hg)
          generalize hv : β o g = v at ho ⊢
          cases ho with
          | map tys kvs b es hb' hl hh =>
            refine ⟨.int .i64 kvs.length, by simp [Builtin.len_, run_underlying ht, run_getObj_map hb', goInt, hl], _, hK, ?_⟩
            exact av_int (small (by unfold bound at hb; unfold maxLen; omega))
      · exact he.elim
    · exact he.elim
  | false =>
    simp only [Bool.false_eq_true, if_false] at he ht
    split at he
    · rename_i nl l hl
      exact listCase hl he ht
    · exact he.elim

theorem mm_in {k : IntKind} (isMax : Bool) {a b : Int} (ha : InK k a) (hb : InK k b) : InK k (if isMax then maxI a b else minI a b) := by
  cases isMax <;> simp only [if_true, if_false, Bool.false_eq_true, maxI, minI] <;> split <;> assumption

theorem foldMM_run {isMax : Bool} {k : IntKind} : ∀ {rest : List AV} {us : List Value} {a r : Int}, InK k a → ValsR (AVRep w (c.bar β s.V) β s.V.cn) rest us → foldMM isMax k a rest = some r →
    (us.foldlM (if isMax then Builtin.max2 else Builtin.min2) (.int k a)).run E.P w = .ok (.int k r) w ∧ InK k r := by
  intro rest
  induction rest with
  | nil =>
    intro us a r ha hu hf
    have := hu.nil; subst this
    simp [foldMM] at hf; subst hf
    exact ⟨by simp, ha⟩
  | cons x rest ih =>
    intro us a r ha hu hf
    obtain ⟨u, us', rfl, h1, h2⟩ := hu.cons'
    unfold foldMM at hf
    split at hf
    · rename_i heq; cases heq
    · rename_i heq
      simp at heq; obtain ⟨rfl, rfl⟩ := heq
      split at hf
      · rename_i hk; subst hk
        obtain ⟨rfl, hb⟩ := rep_int h1
        obtain ⟨h3, h4⟩ := ih (mm_in isMax ha hb) h2 hf
        refine ⟨?_, h4⟩
        rw [List.foldlM_cons]
        cases isMax <;> simp only [if_true, if_false, Bool.false_eq_true] at h3 ⊢
        · simp only [Builtin.min2, Sem.run_bind, Sem.run_pure, Result.andThen_ok]; exact h3
        · simp only [Builtin.max2, Sem.run_bind, Sem.run_pure, Result.andThen_ok]; exact h3
      · cases hf
    · cases hf

theorem run_ofValue {f : FuncId} {cap args : Array Value} : (Deferred.ofValue (.func (.func f) #[] cap) args).run E.P w = .ok { target := .fn (.func f) cap, args := args } w := by
  simp [Deferred.ofValue]

theorem sound_callF (h : Rel E c β s tm w) {dst : Option Nat} {f : FuncId} {xs : List AV} {us cap : Array Value} {cs : List AV} (hf : hasBody E.P f = true) (hxs : ValsR (AVRep w (c.bar β s.V) β s.V.cn) xs us.toList)
    (hcs : ValsR (AVRep w (c.bar β s.V) β s.V.cn) cs cap.toList) (he : evCall E dst s.V f (xs ++ cs) K) :
    Got E c s tm K ((do let d ← Deferred.ofValue (.func (.func f) #[] cap) us; invoke d.target d.args : Sem Next).run E.P w) := by
  refine got_of_C (args := us ++ cap) (by simp [run_ofValue, invoke, run_callFunc hf]) (sound_call h (dst := dst) ⟨by have h1 := hxs.1; have h2 := hcs.1; simp at *; omega, fun i x u hx hu => ?_⟩ he)
  have h1 := hxs.1
  rw [Array.toList_append] at hu
  by_cases hlt : i < xs.length
  · rw [List.getElem?_append_left hlt] at hx
    rw [List.getElem?_append_left (by omega)] at hu
    exact hxs.2 i x u hx hu
  · rw [List.getElem?_append_right (by omega)] at hx
    rw [List.getElem?_append_right (by omega), h1] at hu
    exact hcs.2 _ x u hx hu

theorem sound_callv (h : Rel E c β s tm w) {dst : Option Nat} {x : AV} {xs : List AV} {u : Value} {us : Array Value} (hx : AVRep w (c.bar β s.V) β s.V.cn x u) (hxs : ValsR (AVRep w (c.bar β s.V) β s.V.cn) xs us.toList) (he : ev E dst s.V .callv (x :: xs) K) :
    Got E c s tm K ((do let d ← Deferred.ofValue u us; invoke d.target d.args : Sem Next).run E.P w) := by
  unfold ev at he
  simp only at he
  split at he
  · rename_i f cs args heq
    simp at heq; obtain ⟨rfl, rfl⟩ := heq
    cases hx with
    | fn _ _ vs hl hh => exact sound_callF h he.1 hxs ⟨by simpa using hl, fun i x u hx hu => hh i x u hx (by simpa using hu)⟩ he.2
  · rename_i f cs args heq
    simp at heq; obtain ⟨rfl, rfl⟩ := heq
    cases hx with
    | d _ _ hx => cases hx with
      | fn _ _ vs hl hh =>
        refine sound_callF h he.1 hxs ⟨by simpa using hl, fun i x u hx hu => ?_⟩ he.2
        simp only [List.getElem?_map, Option.map_eq_some_iff] at hx
        obtain ⟨y, hy, rfl⟩ := hx
        exact .d _ _ (hh i y u hy (by simpa using hu))
  · exact he.elim

theorem sound_eqv (h : Rel E c β s tm w) {dst : Option Nat} {op : BinOp} {t : TypeId} {tys : KTy} {ox oy : Operand} {x y : AV} {u v : Value} (ht : plainT E.P t = some tys) (hag : tys.1 = true) (hop : op = .eql ∨ op = .neq)
    (hx : AVRep w (c.bar β s.V) β s.V.cn x u) (hy : AVRep w (c.bar β s.V) β s.V.cn y v) (he : ev E dst s.V (.eqv (op == .neq) tys) [x, y] K) :
    ∃ r, (do eqGuard op t ox oy u v; binOp op t u v : Sem Value).run E.P w = .ok r w ∧ ∃ v, K v .none ∧ AVRep w (c.bar β s.V) β s.V.cn v r := by
  unfold ev at he
  simp only at he
  split at he
  · rename_i a b ha hb
    obtain ⟨h1, h2, hK⟩ := he
    have hu := (toD1_rep hx ha).1
    have hv := (toD1_rep hy hb).1
    obtain ⟨us, vs, rfl, rfl, hg⟩ := eqGuard_plain ht h1 h2 hu hv hag op ox oy
    have heq := run_equal_plain ht h1 h2 hu hv
    have e1 : (BinOp.eql == BinOp.neq) = false := rfl
    have e2 : (BinOp.neq == BinOp.neq) = true := rfl
    refine ⟨.bool (if op == .neq then !keyEq a b else keyEq a b), ?_, _, hK, av_bool⟩
    rcases hop with rfl | rfl
    · simp [hg, binOp, heq, e1]
    · simp [hg, binOp, heq, e2]
  · exact he.elim

theorem sound_eqnil (h : Rel E c β s tm w) {dst : Option Nat} {op : BinOp} {t e : TypeId} {ox oy : Operand} {x : AV} {u : Value} (ht : E.P.underlying t = some (.slice e)) (hop : op = .eql ∨ op = .neq)
    (hx : AVRep w (c.bar β s.V) β s.V.cn x u) (he : ev E dst s.V (.eqnil (op == .neq)) [x, .d (.list true [])] K) :
    ∃ r, (do eqGuard op t ox oy u (.slice none 0 0); binOp op t u (.slice none 0 0) : Sem Value).run E.P w = .ok r w ∧ ∃ v, K v .none ∧ AVRep w (c.bar β s.V) β s.V.cn v r := by
  unfold ev at he
  simp only at he
  split at he
  · rename_i nl l hl
    have hd := asList_rep h hx hl
    have key : ∃ a n m, u = .slice a n m ∧ a.isNone = nl := by cases hd <;> exact ⟨_, _, _, rfl, rfl⟩
    obtain ⟨a, n, m, rfl, rfl⟩ := key
    refine ⟨.bool (if op == .neq then !a.isNone else a.isNone), ?_, _, he, av_bool⟩
    have e1 : (BinOp.eql == BinOp.neq) = false := rfl
    have e2 : (BinOp.neq == BinOp.neq) = true := rfl
    have key : (Op.equal t (.slice a n m) (.slice none 0 0)).run E.P w = .ok a.isNone w := by
      show (Op.equalIn (9999 + 1) t (.slice a n m) (.slice none 0 0)).run E.P w = _
      generalize 9999 = d
      cases a <;> simp [Op.equalIn, run_underlying ht]
    rcases hop with rfl | rfl <;> simp [eqGuard, binOp, key, e1, e2]
  · exact he.elim

theorem sound_binI (h : Rel E c β s tm w) {dst : Option Nat} {op : BinOp} {t : TypeId} {ox oy : Operand} {xs : List AV} {u v : Value}
    (hxs : ValsR (AVRep w (c.bar β s.V) β s.V.cn) xs [u, v]) (he : ev E dst s.V (.bin op) xs K) {vo : Sem Value → Sem Next} (hvo : vo = fun s => do pure (.value (← s))) :
    Got E c s tm K ((vo (do eqGuard op t ox oy u v; binOp op t u v)).run E.P w) := by
  unfold ev at he
  simp only at he
  split at he
  · obtain ⟨u', v', heq, h1, h2⟩ := decTwo hxs
    simp at heq; obtain ⟨rfl, rfl⟩ := heq
    exact sound_bin h h1 h2 he hvo
  · exact he.elim

theorem sound_beq {dst : Option Nat} {op : BinOp} {t : TypeId} {ox oy : Operand} {xs : List AV} {u v : Value} (ht : E.P.underlying t = some .bool) (hop : op = .eql ∨ op = .neq)
    (hxs : ValsR (AVRep w (c.bar β s.V) β s.V.cn) xs [u, v]) (he : ev E dst s.V (.beq (op == .neq)) xs K) :
    ∃ r, (do eqGuard op t ox oy u v; binOp op t u v : Sem Value).run E.P w = .ok r w ∧ ∃ v, K v .none ∧ AVRep w (c.bar β s.V) β s.V.cn v r := by
  unfold ev at he
  simp only at he
  split at he
  · rename_i a b
    obtain ⟨u', v', heq, h1, h2⟩ := decTwo hxs
    simp at heq; obtain ⟨rfl, rfl⟩ := heq
    rw [rep_bool h1, rep_bool h2]
    refine ⟨.bool (if op == .neq then !(a == b) else (a == b)), ?_, _, he, av_bool⟩
    have key : (Op.equal t (.bool a) (.bool b)).run E.P w = .ok (a == b) w := run_equalIn_bool w 9999 t _ _ ht
    rcases hop with rfl | rfl
    · have : (BinOp.eql == BinOp.neq) = false := rfl
      simp [eqGuard, binOp, key, this]
    · have : (BinOp.neq == BinOp.neq) = true := rfl
      simp [eqGuard, binOp, key, this]
  · exact he.elim
end
end Go.Pw
end
section
namespace Go.Pw
open Go.RowKit
set_option linter.unusedSimpArgs false
set_option linter.unusedVariables false

section
variable {E : Env} {c : Ctx} {β : Nat → Nat → Value} {s : PSt} {a : Act} {w : World} {K : AV → Chg → Prop}

theorem got_of_mm {tm : Array Value} (h : Rel E c β s tm w) {isMax : Bool} {dst : Option Nat} {x : Operand} {as : List Operand} {xs : List AV} (hxs : ValsR (AVRep w (c.bar β s.V) β s.V.cn) xs ((x :: as).map a.eval)) (he : ev E dst s.V (.minmax isMax) xs K) {m : Sem Next}
    (hm : m.run E.P w = (do let v ← (as.map a.eval).foldlM (if isMax then Builtin.max2 else Builtin.min2) (a.eval x); pure (Next.value v) : Sem Next).run E.P w) : Got E c s tm K (m.run E.P w) := by
  rw [hm]
  unfold ev at he
  simp only at he
  split at he
  · obtain ⟨u, us', heq, h1, h2⟩ := hxs.cons'
    simp only [List.map_cons, List.cons.injEq] at heq
    obtain ⟨rfl, rfl⟩ := heq
    split at he
    · rename_i r hr
      obtain ⟨he1, he2⟩ := rep_int h1
      rw [he1]
      obtain ⟨h3, h4⟩ := foldMM_run (E := E) he2 h2 hr
      exact got_same h he (by simp only [Sem.run_bind, h3, Result.andThen_ok, Sem.run_pure]) (av_int h4)
    · exact he.elim
  · exact he.elim

theorem sound_callOp (h : Rel E c β s a.tmps w) {draw : Bool} {o : Oper} {cl : Call} {iop : IOp} {ops : List Operand} {xs : List AV} (hop : o.op = .call cl) (hd : decCall E draw cl = some (iop, ops))
    (hxs : ValsR (AVRep w (c.bar β s.V) β s.V.cn) xs (ops.map a.eval)) (he : ev E o.dst s.V iop xs K) : Got E c s a.tmps K ((execOp a.eval o).run E.P w) := by
  have hex : execOp a.eval o = (do let d ← resolve a.eval cl o.type; invoke d.target d.args) := by simp [execOp, hop]
  rw [hex]
  obtain ⟨callee, args, argTypes⟩ := cl
  have valueCase : ∀ x, callee = .value x → iop = .callv → ops = x :: args.toList → Got E c s a.tmps K (((do let d ← resolve a.eval ⟨callee, args, argTypes⟩ o.type; invoke d.target d.args : Sem Next)).run E.P w) := by
    intro x hc h1 h2
    subst hc h1 h2
    simp only [List.map_cons] at hxs
    cases xs with
    | nil => exact absurd hxs.1 (by simp)
    | cons y ys =>
      have hc := hxs.cons
      have := sound_callv (us := args.map a.eval) (dst := o.dst) h hc.1 (by simpa using hc.2) he
      simpa [resolve] using this
  have two : ∀ {x y : Operand}, ops = [x, y] → ∃ ax ay, xs = [ax, ay] ∧ AVRep w (c.bar β s.V) β s.V.cn ax (a.eval x) ∧ AVRep w (c.bar β s.V) β s.V.cn ay (a.eval y) := by
    intro x y hops
    subst hops
    cases xs with
    | nil => exact absurd hxs.1 (by simp)
    | cons ax ys =>
      cases ys with
      | nil => exact absurd hxs.1 (by simp)
      | cons ay zs =>
        cases zs with
        | cons _ _ => exact absurd hxs.1 (by simp)
        | nil =>
          obtain ⟨u, v, hu', h1, h2⟩ := decTwo hxs
          simp at hu'; obtain ⟨rfl, rfl⟩ := hu'
          exact ⟨ax, ay, rfl, h1, h2⟩
  cases callee with
  | invoke x n => cases hd
  | value f =>
    cases f with
    | func f =>
      simp only [decCall] at hd
      split at hd
      · rename_i hb
        simp at hd; obtain ⟨rfl, rfl⟩ := hd
        have := sound_callF (f := f) (us := args.map a.eval) (cap := #[]) (cs := []) (xs := xs) (dst := o.dst) h hb (by simpa using hxs) ⟨by simp, by simp⟩ (by simpa [ev] using he)
        simpa [resolve, Act.eval] using this
      · cases hd
    | tmp t => simp [decCall] at hd; exact valueCase _ rfl hd.1.symm hd.2.symm
    | const t => simp [decCall] at hd; exact valueCase _ rfl hd.1.symm hd.2.symm
    | global t => simp [decCall] at hd; exact valueCase _ rfl hd.1.symm hd.2.symm
  | builtin b =>
    obtain ⟨args⟩ := args
    simp only [decCall] at hd
    cases b <;> simp only [decBuiltin] at hd <;> try (cases hd; done)
    case len =>
      split at hd <;> try (cases hd; done)
      rename_i x
      have hred : ∀ (t : TypeId), argTypes[0]? = some t → (do let d ← resolve a.eval ⟨.builtin .len, #[x], argTypes⟩ o.type; invoke d.target d.args : Sem Next) = (do let v ← Builtin.len_ #[t] o.type #[a.eval x]; pure (Next.value v)) := by
        intro t ht
        simp [resolve, invoke, builtin, Builtin.len_, ht]
      have one : ops = [x] → ∃ ax, xs = [ax] ∧ AVRep w (c.bar β s.V) β s.V.cn ax (a.eval x) := by
        intro hops
        subst hops
        cases xs with
        | nil => exact absurd hxs.1 (by simp)
        | cons y ys =>
          cases ys with
          | cons _ _ => exact absurd hxs.1 (by simp)
          | nil =>
            obtain ⟨u, hu', h1⟩ := decOne hxs
            simp at hu'; subst hu'
            exact ⟨y, rfl, h1⟩
      split at hd
      · rename_i e hu
        simp at hd; obtain ⟨rfl, rfl⟩ := hd
        simp only [Option.bind_eq_some_iff] at hu; obtain ⟨t, ht, hu⟩ := hu
        obtain ⟨ax, rfl, h1⟩ := one rfl
        rw [hred t ht]
        exact got_of_R h (sound_len h (dst := o.dst) (m := false) ⟨_, hu⟩ h1 he)
      · rename_i k e hu
        simp at hd; obtain ⟨rfl, rfl⟩ := hd
        simp only [Option.bind_eq_some_iff] at hu; obtain ⟨t, ht, hu⟩ := hu
        obtain ⟨ax, rfl, h1⟩ := one rfl
        rw [hred t ht]
        exact got_of_R h (sound_len h (dst := o.dst) (m := true) ⟨_, _, hu⟩ h1 he)
      · cases hd
    case min =>
      split at hd <;> try (cases hd; done)
      rename_i x as
      simp at hd; obtain ⟨rfl, rfl⟩ := hd
      refine got_of_mm h (isMax := false) (dst := o.dst) hxs he ?_
      simp [resolve, invoke, builtin, Builtin.min_]
    case max =>
      split at hd <;> try (cases hd; done)
      rename_i x as
      simp at hd; obtain ⟨rfl, rfl⟩ := hd
      refine got_of_mm h (isMax := true) (dst := o.dst) hxs he ?_
      simp [resolve, invoke, builtin, Builtin.max_]
    case append =>
      split at hd <;> try (cases hd; done)
      rename_i x y
      split at hd <;> try (cases hd; done)
      rename_i e ty hu hv
      simp only [Option.bind_eq_some_iff] at hu hv
      obtain ⟨t, ht, hu⟩ := hu
      obtain ⟨tx, htx, hv⟩ := hv
      split at hd <;> try (cases hd; done)
      rename_i i z hi hz
      split at hd <;> try (cases hd; done)
      rename_i hcond
      obtain ⟨hpos, hby, hzz⟩ := hcond
      simp only [Option.map_eq_some_iff] at hzz
      obtain ⟨zv, hzv, hzs⟩ := hzz
      have hred : (do let d ← resolve a.eval ⟨.builtin .append, #[x, y], argTypes⟩ o.type; invoke d.target d.args : Sem Next) = (do let v ← Builtin.append_ #[t, tx] o.type #[a.eval x, a.eval y]; pure (Next.value v)) := by
        have : Builtin.append_ argTypes o.type #[a.eval x, a.eval y] = Builtin.append_ #[t, tx] o.type #[a.eval x, a.eval y] := by
          simp only [Builtin.append_, ht, htx, List.getElem?_toArray, List.getElem?_cons_zero, List.getElem?_cons_succ]
        simp [resolve, invoke, builtin, this]
      split at hd <;> try (cases hd; done)
      · split at hd <;> try (cases hd; done)
        rename_i e' he'
        subst he'
        simp at hd; obtain ⟨rfl, rfl⟩ := hd
        obtain ⟨ax, ay, rfl, h1, h2⟩ := two rfl
        rw [hred]
        exact got_of_V (sound_app h hu hi hzv hpos hby hzs (.inl ⟨rfl, _, hv⟩) h1 h2 he)
      · split at hd <;> try (cases hd; done)
        rename_i hzl
        simp at hd; obtain ⟨rfl, rfl⟩ := hd
        obtain ⟨ax, ay, rfl, h1, h2⟩ := two rfl
        rw [hred]
        exact got_of_V (sound_app h hu hi hzv hpos hby hzs (.inr ⟨z, rfl, hv, hz, hi, hzv, hzl, hby⟩) h1 h2 he)

theorem listM_map {α γ δ : Type} (f : α → δ) (g : δ → Option γ) : ∀ l : List α, listM g (l.map f) = listM (fun x => g (f x)) l
  | [] => rfl
  | x :: l => by simp only [List.map_cons, listM, listM_map f g l]

theorem plainT_agg {P : Program} {t : TypeId} {tys : KTy} (h : plainT P t = some tys) (hu : (∃ fs, P.underlying t = some (.struct fs)) ∨ ∃ n e, P.underlying t = some (.array n e)) : tys.1 = true := by
  unfold plainT at h
  rcases hu with ⟨fs, hu⟩ | ⟨n, e, hu⟩
  · simp only [hu] at h
    split at h
    · simp only [Option.map_eq_some_iff] at h
      obtain ⟨l, _, rfl⟩ := h; rfl
    · cases h
  · simp only [hu] at h
    split at h
    · simp only [Option.map_eq_some_iff] at h
      obtain ⟨l, _, rfl⟩ := h; rfl
    · cases h

theorem nilck_run (h : Rel E c β s a.tmps w) {dst : Option Nat} {x : AV} {u : Value} (hx : AVRep w (c.bar β s.V) β s.V.cn x u) (he : ev E dst s.V .nilck [x] K) {m : Sem Next}
    (hm : ∀ ad, u = .pointer (some ad) → m = pure (.value u)) : Got E c s a.tmps K (m.run E.P w) := by
  unfold ev at he
  simp only at he
  have key : ∀ ad, u = .pointer (some ad) → K x .none → Got E c s a.tmps K (m.run E.P w) := fun ad hu hK => got_same h hK (by rw [hm ad hu]; simp) hx
  split at he
  · rename_i heq; simp at heq; subst heq
    cases hx with | ptr _ _ _ b _ _ => exact key _ rfl he
  · rename_i heq; simp at heq; subst heq
    cases hx with | rptr => exact key _ rfl he
  · rename_i heq; simp at heq; subst heq
    cases hx with | dptr => exact key _ rfl he
  · rename_i heq; simp at heq; subst heq
    cases hx with | d _ _ hx => cases hx with | ptr => exact key _ rfl (by assumption)
  · exact he.elim

theorem op_sound (h : Rel E c β s a.tmps w) {draw used : Bool} {o : Oper} {iop : IOp} {ops : List Operand} {xs : List AV} (hd : decOp E draw used o.op = some (iop, ops))
    (hxs : ValsR (AVRep w (c.bar β s.V) β s.V.cn) xs (ops.map a.eval)) (he : ev E o.dst s.V iop xs K) : Got E c s a.tmps K ((execOp a.eval o).run E.P w) := by
  have one : ∀ {x : Operand}, ops = [x] → ∃ ax, xs = [ax] ∧ AVRep w (c.bar β s.V) β s.V.cn ax (a.eval x) := by
    intro x hops
    subst hops
    cases xs with
    | nil => exact absurd hxs.1 (by simp)
    | cons y ys =>
      cases ys with
      | cons _ _ => exact absurd hxs.1 (by simp)
      | nil =>
        obtain ⟨u, hu', h1⟩ := decOne hxs
        simp at hu'; subst hu'
        exact ⟨y, rfl, h1⟩
  have two : ∀ {x y : Operand}, ops = [x, y] → ∃ ax ay, xs = [ax, ay] ∧ AVRep w (c.bar β s.V) β s.V.cn ax (a.eval x) ∧ AVRep w (c.bar β s.V) β s.V.cn ay (a.eval y) := by
    intro x y hops
    subst hops
    cases xs with
    | nil => exact absurd hxs.1 (by simp)
    | cons ax ys =>
      cases ys with
      | nil => exact absurd hxs.1 (by simp)
      | cons ay zs =>
        cases zs with
        | cons _ _ => exact absurd hxs.1 (by simp)
        | nil =>
          obtain ⟨u, v, hu', h1, h2⟩ := decTwo hxs
          simp at hu'; obtain ⟨rfl, rfl⟩ := hu'
          exact ⟨ax, ay, rfl, h1, h2⟩
  have three : ∀ {x y z : Operand}, ops = [x, y, z] → ∃ ax ay az, xs = [ax, ay, az] ∧ AVRep w (c.bar β s.V) β s.V.cn ax (a.eval x) ∧ AVRep w (c.bar β s.V) β s.V.cn ay (a.eval y) ∧ AVRep w (c.bar β s.V) β s.V.cn az (a.eval z) := by
    intro x y z hops
    subst hops
    cases xs with
    | nil => exact absurd hxs.1 (by simp)
    | cons ax ys =>
      cases ys with
      | nil => exact absurd hxs.1 (by simp)
      | cons ay zs =>
        cases zs with
        | nil => exact absurd hxs.1 (by simp)
        | cons az zs' =>
          cases zs' with
          | cons _ _ => exact absurd hxs.1 (by simp)
          | nil =>
            obtain ⟨u, v, t, hu', h1, h2, h3⟩ := decThree hxs
            simp at hu'; obtain ⟨rfl, rfl, rfl⟩ := hu'
            exact ⟨ax, ay, az, rfl, h1, h2, h3⟩
  obtain ⟨dst, op, ty, pos, after, guard⟩ := o
  simp only at he hd
  cases op <;> (try unfold decOp at hd) <;> (try simp only at hd) <;> (try (cases hd; done))
  case move x =>
    simp at hd; obtain ⟨rfl, rfl⟩ := hd
    obtain ⟨ax, rfl, h1⟩ := one rfl
    exact got_same h (by simpa [ev] using he) (by simp [execOp]) h1
  case assign x =>
    simp at hd; obtain ⟨rfl, rfl⟩ := hd
    obtain ⟨ax, rfl, h1⟩ := one rfl
    exact got_same h (by simpa [ev] using he) (by simp [execOp]) h1
  case pick x y z =>
    simp at hd; obtain ⟨rfl, rfl⟩ := hd
    obtain ⟨ax, ay, az, rfl, h1, h2, h3⟩ := three rfl
    obtain ⟨b, hb, r, hK, hr⟩ := sound_pick h1 h2 h3 he
    exact got_same h hK (by simp [execOp, hb, asBool]) hr
  case box t x =>
    simp at hd; obtain ⟨rfl, rfl⟩ := hd
    obtain ⟨ax, rfl, h1⟩ := one rfl
    cases dst with
    | none => simp [ev] at he
    | some t => exact got_of_V (sound_box h h1 he)
  case alloc e =>
    cases hz : zeroCs E.P e with
    | none => simp [hz] at hd
    | some z =>
      simp [hz] at hd; obtain ⟨rfl, rfl⟩ := hd
      have : xs = [] := List.eq_nil_of_length_eq_zero (by have := hxs.1; simpa using this.symm)
      subst this
      cases dst with
      | none => simp [ev] at he
      | some t => exact got_of_V (sound_zero h hz he)
  case build t parts =>
    split at hd <;> try (cases hd; done)
    · rename_i z fs hz hu
      split at hd <;> try (cases hd; done)
      rename_i places hp
      split at hd <;> try (cases hd; done)
      rename_i pl hpl
      simp at hd; obtain ⟨rfl, rfl⟩ := hd
      refine got_of_V (sound_build h (ix := parts.toList.map (·.1)) hz (.inl ⟨fs, places, hu, hp, ?_⟩) hxs he (by simpa using zip_parts))
      rw [listM_map]; exact hpl
    · rename_i z n e hz hu
      split at hd <;> try (cases hd; done)
      rename_i sz hsz
      simp at hd; obtain ⟨rfl, rfl⟩ := hd
      exact got_of_V (sound_build h (ix := parts.toList.map (·.1)) hz (.inr ⟨n, e, sz, hu, hsz, by simp⟩) hxs he (by simpa using zip_parts))
  case buildSlice t len parts =>
    split at hd <;> try (cases hd; done)
    rename_i e hu
    split at hd <;> try (cases hd; done)
    rename_i z sz hz hsz
    split at hd <;> try (cases hd; done)
    rename_i hcond
    obtain ⟨hpos, hzl, hsmall⟩ := hcond
    simp at hd; obtain ⟨rfl, rfl⟩ := hd
    unfold szOf at hsz
    simp only [Option.map_eq_some_iff] at hsz
    obtain ⟨ie, hie, rfl⟩ := hsz
    split at he
    · cases dst with
      | none => simp [ev] at he
      | some t => exact got_of_V (sound_mkrowO h hu hie hz hpos hzl.symm hsmall hxs (by simpa using zip_parts) he)
    · exact got_of_V (sound_mkrow h hu hie hz hpos hzl.symm hsmall hxs (by simpa using zip_parts) he)
  case load t x =>
    split at hd <;> try (cases hd; done)
    rename_i ag n hag hn
    split at hd <;> try (cases hd; done)
    simp at hd; obtain ⟨rfl, rfl⟩ := hd
    obtain ⟨ax, rfl, h1⟩ := one rfl
    exact got_of_R h (sound_load h hag hn h1 he)
  case store t x y =>
    split at hd <;> try (cases hd; done)
    rename_i n hn
    split at hd <;> try (cases hd; done)
    rename_i hpos
    simp at hd; obtain ⟨rfl, rfl⟩ := hd
    obtain ⟨ax, ay, rfl, h1, h2⟩ := two rfl
    exact got_of_U (sound_store h hn hpos h1 h2 he)
  case nilCheck x =>
    simp at hd; obtain ⟨rfl, rfl⟩ := hd
    obtain ⟨ax, rfl, h1⟩ := one rfl
    exact nilck_run h h1 he fun ad hu => by simp [execOp, hu]
  case binOp b t x y _ =>
    unfold decBin at hd
    have hop : ∀ {n}, eqOp b = some n → (b = .eql ∨ b = .neq) ∧ n = (b == .neq) := by
      intro n hn
      cases b <;> simp [eqOp] at hn <;> subst hn <;> simp <;> rfl
    split at hd <;> try (cases hd; done)
    · rename_i k hu
      simp at hd; obtain ⟨rfl, rfl⟩ := hd
      exact sound_binI h (by simpa using hxs) he rfl
    · rename_i hu
      simp only [Option.map_eq_some_iff] at hd
      obtain ⟨n, hn, hd⟩ := hd
      obtain ⟨hb, rfl⟩ := hop hn
      simp at hd; obtain ⟨rfl, rfl⟩ := hd
      exact got_of_R h (sound_beq (dst := dst) hu hb (by simpa using hxs) he)
    · rename_i fs hu
      simp only [Option.map_eq_some_iff, Option.bind_eq_some_iff] at hd
      obtain ⟨n, hn, tys, ht, hd⟩ := hd
      obtain ⟨hb, rfl⟩ := hop hn
      simp at hd; obtain ⟨rfl, rfl⟩ := hd
      obtain ⟨ax, ay, rfl, h1, h2⟩ := two rfl
      exact got_of_R h (sound_eqv h (dst := dst) ht (plainT_agg ht (.inl ⟨_, hu⟩)) hb h1 h2 he)
    · rename_i n' e hu
      simp only [Option.map_eq_some_iff, Option.bind_eq_some_iff] at hd
      obtain ⟨n, hn, tys, ht, hd⟩ := hd
      obtain ⟨hb, rfl⟩ := hop hn
      simp at hd; obtain ⟨rfl, rfl⟩ := hd
      obtain ⟨ax, ay, rfl, h1, h2⟩ := two rfl
      exact got_of_R h (sound_eqv h (dst := dst) ht (plainT_agg ht (.inr ⟨_, _, hu⟩)) hb h1 h2 he)
    · rename_i e hu
      simp only [Option.map_eq_some_iff] at hd
      obtain ⟨n, hn, hd⟩ := hd
      obtain ⟨hb, rfl⟩ := hop hn
      simp at hd; obtain ⟨rfl, rfl⟩ := hd
      obtain ⟨ax, ay, rfl, h1, h2⟩ := two rfl
      have hay : ay = .d (.list true []) := by
        unfold ev at he
        simp only at he
        split at he
        · rename_i heq; simp at heq; exact heq.2
        · exact he.elim
      subst hay
      have hv : a.eval y = .slice none 0 0 := by
        generalize a.eval y = v at h2
        cases h2 with | d _ _ h2 => cases h2; rfl
      rw [show execOp a.eval ⟨dst, .binOp b t x y _, ty, pos, after, guard⟩ = (do let v ← (do eqGuard b t x y (a.eval x) (a.eval y); binOp b t (a.eval x) (a.eval y)); pure (Next.value v)) from rfl, hv]
      exact got_of_R h (sound_eqnil h (dst := dst) hu hb h1 he)
  case unOp u t x =>
    simp at hd; obtain ⟨rfl, rfl⟩ := hd
    exact got_of_R h (sound_un h (dst := dst) (by simpa using hxs) he)
  case convert st t x =>
    split at hd <;> try (cases hd; done)
    rename_i k' k hs ht
    simp at hd; obtain ⟨rfl, rfl⟩ := hd
    obtain ⟨ax, rfl, h1⟩ := one rfl
    exact got_of_R h (sound_conv h (dst := dst) hs ht h1 he)
  case makeFunc fn first captured =>
    cases fn <;> (try simp only at hd) <;> (try (cases hd; done))
    rename_i f
    split at hd <;> try (cases hd; done)
    rename_i hcond
    simp at hd; obtain ⟨rfl, rfl⟩ := hd
    have hfirst : first = #[] := by apply Array.eq_empty_of_size_eq_zero; exact hcond.1
    subst hfirst
    exact got_same h (by simpa [ev] using he) (by simp [execOp, Instr.makeFunc]) (.fn f _ (captured.map a.eval) (by have := hxs.1; simpa using this) fun i x u hx hu => hxs.2 i x u hx (by simpa using hu))
  case makeMap t r =>
    cases r with
    | some r => simp only at hd; cases hd
    | none =>
      simp only at hd
      split at hd <;> try (cases hd; done)
      rename_i kt e hu
      cases hk : plainT E.P kt with
      | none => simp [hk] at hd
      | some tys =>
        simp [hk] at hd; obtain ⟨rfl, rfl⟩ := hd
        have : xs = [] := List.eq_nil_of_length_eq_zero (by have := hxs.1; simpa using this.symm)
        subst this
        cases dst with
        | none => simp [ev] at he
        | some t => exact got_of_V (sound_mkmap h he)
  case makeSlice t x y =>
    split at hd <;> try (cases hd; done)
    rename_i e hu
    split at hd <;> try (cases hd; done)
    rename_i i z hi hz
    split at hd <;> try (cases hd; done)
    rename_i hcond
    simp at hd; obtain ⟨rfl, rfl⟩ := hd
    obtain ⟨ax, ay, rfl, h1, h2⟩ := two rfl
    cases dst with
    | none => simp [ev] at he
    | some t => exact got_of_V (sound_mksl h hu hi hz hcond.1 hcond.2.1 hcond.2.2 h1 h2 he)
  case slice t x lo hi mx =>
    split at hd <;> try (cases hd; done)
    rename_i e hu
    split at hd <;> try (cases hd; done)
    rename_i sz hsz
    split at hd <;> try (cases hd; done)
    rename_i hpos
    simp at hd; obtain ⟨rfl, rfl⟩ := hd
    simp only [List.map_cons] at hxs
    obtain ⟨ax, ys, rfl⟩ : ∃ ax ys, xs = ax :: ys := by cases xs with
      | nil => exact absurd hxs.1 (by simp)
      | cons y ys => exact ⟨y, ys, rfl⟩
    have hc := hxs.cons
    cases mx with
    | none =>
      refine got_of_V (sound_slice h (lov := lo.map a.eval) (hiv := hi.map a.eval) hu hsz hpos hc.1 ⟨_, rfl, ?_, ?_⟩ (by simpa using he))
      · have := hc.2.1; cases lo <;> cases hi <;> simpa using this
      · have := hc.2.2; cases lo <;> cases hi <;> simpa using this
    | some m =>
      refine got_of_V (sound_slice3 h (lov := lo.map a.eval) (hiv := hi.map a.eval) (mv := a.eval m) hu hsz hpos hc.1 ⟨_, rfl, ?_, ?_⟩ (by simpa using he))
      · have := hc.2.1; cases lo <;> cases hi <;> simpa using this
      · have := hc.2.2; cases lo <;> cases hi <;> simpa using this
  case fieldAddr t x f =>
    split at hd <;> try (cases hd; done)
    rename_i fs hu
    simp only [Option.bind_eq_some_iff] at hd
    obtain ⟨fd, hf, hd⟩ := hd
    split at hd <;> try (cases hd; done)
    rename_i n hn
    split at hd <;> try (cases hd; done)
    rename_i hpos
    simp at hd; obtain ⟨rfl, rfl⟩ := hd
    obtain ⟨ax, rfl, h1⟩ := one rfl
    exact got_of_R h (sound_faddr hu hf hn hpos h1 he)
  case field t x f =>
    split at hd <;> try (cases hd; done)
    rename_i fs hu
    simp only [Option.bind_eq_some_iff] at hd
    obtain ⟨fd, hf, hd⟩ := hd
    split at hd <;> try (cases hd; done)
    rename_i ag n hag hn
    split at hd <;> try (cases hd; done)
    simp at hd; obtain ⟨rfl, rfl⟩ := hd
    obtain ⟨ax, rfl, h1⟩ := one rfl
    exact got_of_R h (sound_field h hu hf hag hn h1 he)
  case indexAddr t x i =>
    split at hd <;> try (cases hd; done)
    · rename_i e hu
      split at hd <;> try (cases hd; done)
      rename_i sz hsz
      split at hd <;> try (cases hd; done)
      simp at hd; obtain ⟨rfl, rfl⟩ := hd
      obtain ⟨ax, ay, rfl, h1, h2⟩ := two rfl
      exact got_of_R h (sound_iaddrS hu hsz h h1 h2 he)
    · rename_i n e hu
      split at hd <;> try (cases hd; done)
      rename_i sz hsz
      split at hd <;> try (cases hd; done)
      simp at hd; obtain ⟨rfl, rfl⟩ := hd
      obtain ⟨ax, ay, rfl, h1, h2⟩ := two rfl
      exact got_of_R h (sound_iaddrA hu hsz h1 h2 he)
  case index t x i =>
    split at hd <;> try (cases hd; done)
    rename_i n e hu
    split at hd <;> try (cases hd; done)
    rename_i ag sz hag hsz
    split at hd <;> try (cases hd; done)
    simp at hd; obtain ⟨rfl, rfl⟩ := hd
    obtain ⟨ax, ay, rfl, h1, h2⟩ := two rfl
    exact got_of_R h (sound_index h hu hag hsz h1 h2 he)
  case lookup t x k ok =>
    split at hd <;> try (cases hd; done)
    rename_i kt e hu
    split at hd <;> try (cases hd; done)
    rename_i tys z ht hz
    simp at hd; obtain ⟨rfl, rfl⟩ := hd
    obtain ⟨ax, ay, rfl, h1, h2⟩ := two rfl
    exact got_of_V (sound_lookup h hu ht hz h1 h2 he)
  case mapUpdate t m k v =>
    split at hd <;> try (cases hd; done)
    rename_i kt e hu
    cases hk : plainT E.P kt with
    | none => simp [hk] at hd
    | some tys =>
      simp [hk] at hd; obtain ⟨rfl, rfl⟩ := hd
      obtain ⟨ax, ay, az, rfl, h1, h2, h3⟩ := three rfl
      exact got_of_U (sound_mapupd h hu hk h1 h2 h3 he)
  case mapEntry t m k =>
    split at hd <;> try (cases hd; done)
    rename_i kt e hu
    split at hd <;> try (cases hd; done)
    rename_i tys z ht hz
    split at hd <;> try (cases hd; done)
    rename_i hz1
    simp at hd; obtain ⟨rfl, rfl⟩ := hd
    obtain ⟨ax, ay, rfl, h1, h2⟩ := two rfl
    exact got_of_V (sound_mapent h hu ht hz hz1 h1 h2 he)
  case entryStore t m k v =>
    simp at hd; obtain ⟨rfl, rfl⟩ := hd
    obtain ⟨ax, ay, az, rfl, h1, h2, h3⟩ := three rfl
    exact got_of_U (sound_entst h h1 h2 h3 he)
  case extract x i =>
    simp at hd; obtain ⟨rfl, rfl⟩ := hd
    obtain ⟨ax, rfl, h1⟩ := one rfl
    exact got_of_R h (sound_extract h1 he)
  case call cl => exact sound_callOp h rfl hd hxs he
end
end Go.Pw
end
section
namespace Go.Pw
open Go.RowKit
set_option linter.unusedSimpArgs false
set_option linter.unusedVariables false

def put (s : PSt) (dst : Option Nat) (v : AV) (ch : Chg) : PSt :=
  ⟨match dst with | some t => upd s.sl t v | none => s.sl, s.V.app ch⟩

def stepI (E : Env) (I : Ins) (s : PSt) (K : AV → Chg → Prop) : Prop :=
  match I.g with
  | none => ev E I.dst s.V I.op (I.xs.map (Opd.val s.sl)) K
  | some (t, b) => match s.sl t with
    | .d (.bool b') => condB (b == b') (ev E I.dst s.V I.op (I.xs.map (Opd.val s.sl)) K) (K (.tup []) .none)
    | .tup [] => K (.tup []) .none
    | _ => False

section
variable {E : Env} {c : Ctx} {β : Nat → Nat → Value} {s : PSt} {a : Act} {w : World} {K : AV → Chg → Prop}

theorem Act.put_size (a : Act) (dst : Option Nat) (v : Value) : (a.put dst v).tmps.size = a.tmps.size := by
  cases dst <;> simp [Act.put]

theorem rel_put {tm : Array Value} {β' : Nat → Nat → Value} {v : AV} {u : Value} {ch : Chg} {dst : Option Nat} {w' : World} (hr : Rel E c β' ⟨s.sl, s.V.app ch⟩ a.tmps w') (hv : AVRep w' (c.bar β' (s.V.app ch)) β' (s.V.app ch).cn v u)
    (hd : ∀ t, dst = some t → t < a.tmps.size) : Rel E c β' (put s dst v ch) (a.put dst u).tmps w' := by
  cases dst with
  | none => exact hr
  | some t => exact hr.set (hd t rfl) hv

theorem decI_spec {draw : Bool} {fl : List Nat} {n : Nat} {ops : List Oper} {o : Oper} {I : Ins} (h : decI E draw fl n ops o = some I) :
    ∃ draw' used' xs, decOp E draw' used' o.op = some (I.op, xs) ∧ decOs E xs = some I.xs ∧ I.dst = o.dst ∧ (∀ t, o.dst = some t → t < n) ∧
      ((o.guard = none ∧ I.g = none) ∨ ∃ j b t, o.guard = some (j, b) ∧ (ops[j]?).bind (·.dst) = some t ∧ t < n ∧ I.g = some (t, b)) := by
  unfold decI at h
  split at h
  · cases h
  · rename_i op xs hop
    split at h
    · cases h
    · rename_i ys hys
      split at h
      · rename_i g hdst hg
        simp at h; subst h
        refine ⟨_, _, xs, hop, hys, rfl, fun t ht => ?_, ?_⟩
        · rw [ht] at hdst; simpa [dstOK] using hdst
        · unfold decG at hg
          split at hg
          · rename_i hgd; simp at hg; subst hg; exact .inl ⟨hgd, rfl⟩
          · rename_i j b hgd
            split at hg
            · rename_i t ht
              split at hg
              · rename_i hlt; simp at hg; subst hg; exact .inr ⟨j, b, t, hgd, ht, hlt, rfl⟩
              · cases hg
            · cases hg
      · cases h

theorem undef_rep {fb β' cn} : AVRep w fb β' cn (.tup []) undef := .tup [] #[] rfl (fun i c v hi => by simp at hi)

/-- ONE OPERATION, as the kit's rules for regions want it. -/
theorem step_sound (h : Rel E c β s a.tmps w) {draw : Bool} {fl : List Nat} {n : Nat} {ops : List Oper} {o : Oper} {I : Ins} (hd : decI E draw fl n ops o = some I) (hn : a.tmps.size = n) (he : stepI E I s K) {Kc : Act → World → Prop} {Q : Exit → Act → World → Prop}
    (hK : ∀ v ch β' tm' w', K v ch → Rel E c β' (put s I.dst v ch) tm' w' → tm'.size = n → Kc ⟨tm', a.defers⟩ w') :
    if Region.wanted o (yielded ops.toArray a.tmps) then o.wp E.P a w Kc Q ∨ (o.asks E.P a w ∧ LetsOut Q) else Kc (a.put o.dst undef) w := by
  obtain ⟨draw', used', xs, hop, hos, hdst, hlt, hg⟩ := decI_spec hd
  have hput : ∀ u, a.put o.dst u = ⟨(a.put o.dst u).tmps, a.defers⟩ := fun u => by cases o.dst <;> rfl
  have hlt' : ∀ t, o.dst = some t → t < a.tmps.size := fun t ht => by rw [hn]; exact hlt t ht
  have run : ev E o.dst s.V I.op (I.xs.map (Opd.val s.sl)) K → o.wp E.P a w Kc Q := by
    intro he
    have hgot := op_sound (o := o) h hop (decOs_rep h hos) he
    unfold Oper.wp
    rcases hgot with ⟨u, w', v, ch, β', hr, hk, hrel, hv⟩ | ⟨f, args, w', hr, hc⟩
    · rcases hr with hr | ⟨hr, rfl⟩
      · rw [hr, Oper.upon_value, hput]
        exact hK v ch β' _ w' hk (by rw [hdst]; exact rel_put (tm := a.tmps) hrel hv hlt') (by rw [Act.put_size]; exact hn)
      · rw [hr, Oper.upon_skip, hput]
        exact hK .undef ch β' _ w' hk (by rw [hdst]; exact rel_put (tm := a.tmps) hrel (.undef _) hlt') (by rw [Act.put_size]; exact hn)
    · rw [hr, Oper.upon_enter]
      refine hc.mono fun e w'' ⟨u, v, ch, β', he, hk, hrel, hv⟩ => ?_
      subst he
      simp only
      rw [hput]
      exact hK v ch β' _ w'' hk (by rw [hdst]; exact rel_put (tm := a.tmps) hrel hv hlt') (by rw [Act.put_size]; exact hn)
  have skip : K (.tup []) .none → Kc (a.put o.dst undef) w := by
    intro hk
    rw [hput]
    exact hK _ .none β _ w hk (by rw [hdst]; exact rel_put (tm := a.tmps) (ch := .none) h undef_rep hlt') (by rw [Act.put_size]; exact hn)
  unfold stepI at he
  rcases hg with ⟨hg, hI⟩ | ⟨j, b, t, hg, ht, htn, hI⟩
  · rw [hI] at he
    simp only [hdst] at he
    have : Region.wanted o (yielded ops.toArray a.tmps) = true := by simp [Region.wanted, hg]
    rw [if_pos this]
    exact .inl (run he)
  · rw [hI] at he
    simp only [hdst] at he
    have hs := h.slots t
    have hget : a.tmps[t]? = some (a.tmps.getD t undef) := by
      have : t < a.tmps.size := by rw [hn]; exact htn
      simp [Array.getD_eq_getD_getElem?, this]
    have hy : yielded ops.toArray a.tmps j = match a.tmps.getD t undef with | .bool b => some b | _ => none := by
      unfold yielded
      simp only [List.getElem?_toArray, ht, Option.bind_some, hget]
      generalize a.tmps.getD t undef = x
      cases x <;> rfl
    have hw : Region.wanted o (yielded ops.toArray a.tmps) = (yielded ops.toArray a.tmps j == some b) := by simp [Region.wanted, hg]
    split at he
    · rename_i b' hsl
      rw [hsl] at hs
      rw [hw, hy, rep_bool hs]
      cases b <;> cases b' <;> simp at he ⊢
      all_goals first | exact .inl (run he) | exact skip he
    · rename_i hsl
      rw [hsl] at hs
      have hu : a.tmps.getD t undef = .tuple #[] := by
        generalize a.tmps.getD t undef = x at hs
        cases hs with
        | tup _ vs hl _ => simp at hl; rw [hl]
      rw [hw, hy, hu]
      simp
      exact skip he
    · exact he.elim
end
end Go.Pw
end
section
namespace Go.Pw
set_option linter.unusedSimpArgs false
set_option linter.unusedVariables false

inductive Foot where
  | none | read | all

def IOp.foot : IOp → Foot
  | .mov | .pick | .bin _ | .beq _ | .eqv .. | .un _ | .conv _ | .nilck | .field .. | .faddr _ | .iaddrA .. | .index .. | .build .. | .mkrow .. | .mkfn _ | .minmax _ | .extract _ => .none
  | .eqnil _ | .load .. | .iaddrS _ | .len _ | .lookup .. => .read
  | _ => .all

def IOp.isCall : IOp → Bool
  | .call _ | .callv => true
  | _ => false

/-- The sites that an operation may look at or change. -/
def fp (V : View) (dst : Option Nat) (op : IOp) (xs : List AV) : List Nat :=
  match op.foot with
  | .none => []
  | .read => AV.sites.sitesL xs
  | .all => if op.isCall then callF dst V xs else dst.toList ++ AV.sites.sitesL xs

/-- The sites that it may change. -/
def wfp (V : View) (dst : Option Nat) (op : IOp) (xs : List AV) : List Nat :=
  match op.foot with
  | .all => if op.isCall then callF dst V xs else dst.toList ++ AV.sites.sitesL xs
  | _ => []

theorem wfp_fp {V : View} {dst : Option Nat} {op : IOp} {xs : List AV} {o : Nat} (h : o ∈ wfp V dst op xs) : o ∈ fp V dst op xs := by
  unfold wfp at h; unfold fp
  split at h
  · simp_all
  · cases h

def Chg.site : Chg → List Nat
  | .none => []
  | .keep o _ _ => [o]
  | .fresh o _ => [o]
  | .seq a b => a.site ++ b.site

def AgreeV (F : List Nat) (V V' : View) : Prop := ∀ o, o ∈ F → V'.ob o = V.ob o ∧ V'.cn o = V.cn o

theorem AgreeV.get {F : List Nat} {V V' : View} (h : AgreeV F V V') {o g : Nat} (ho : o ∈ F) : V'.get o g = V.get o g := by
  simp only [View.get, (h o ho).1]

theorem asList_agree {F : List Nat} {V V' : View} (h : AgreeV F V V') {x : AV} (hx : ∀ o, o ∈ x.sites → o ∈ F) : x.asList V' = x.asList V := by
  cases x with
  | own o g => simp only [AV.asList, h.get (hx o (by simp [AV.sites]))]
  | d x => cases x <;> rfl
  | _ => rfl

theorem appSrc_agree {F : List Nat} {V V' : View} (h : AgreeV F V V') {z : Option D} {x : AV} (hx : ∀ o, o ∈ x.sites → o ∈ F) : appSrc V' z x = appSrc V z x := by
  cases z <;> simp only [appSrc, asList_agree h hx]

theorem snap0_agree {F : List Nat} {V V' : View} (h : AgreeV F V V') {x : AV} (hx : ∀ o, o ∈ x.sites → o ∈ F) : x.snap0 V' = x.snap0 V := by
  cases x with
  | own o g => simp only [AV.snap0, h.get (hx o (by simp [AV.sites]))]
  | ptr o g off =>
    have := h.get (g := g) (hx o (by simp [AV.sites]))
    cases off with
    | zero => simp only [AV.snap0, this]
    | succ n => rfl
  | _ => rfl

theorem listM_congr {α γ : Type} {f g : α → Option γ} : ∀ {l : List α}, (∀ x, x ∈ l → f x = g x) → listM f l = listM g l
  | [], _ => rfl
  | x :: l, h => by simp only [listM, h x (by simp), listM_congr (l := l) fun y hy => h y (by simp [hy])]

theorem snap_agree {F : List Nat} {V V' : View} (h : AgreeV F V V') {x : AV} (hx : ∀ o, o ∈ x.sites → o ∈ F) : x.snap V' = x.snap V := by
  cases x with
  | agg cs => simp only [AV.snap]; rw [listM_congr fun y hy => snap0_agree h fun o ho => hx o (by simp only [AV.sites]; exact mem_sitesL hy ho)]
  | fn f cs => simp only [AV.snap]; rw [listM_congr fun y hy => snap0_agree h fun o ho => hx o (by simp only [AV.sites]; exact mem_sitesL hy ho)]
  | _ => exact snap0_agree h hx

theorem argsD_agree {F : List Nat} {V V' : View} (h : AgreeV F V V') {xs : List AV} (hx : ∀ o, o ∈ AV.sites.sitesL xs → o ∈ F) : argsD V' xs = argsD V xs :=
  listM_congr fun y hy => snap_agree h fun o ho => hx o (mem_sitesL hy ho)

theorem sitesL_append (xs ys : List AV) : AV.sites.sitesL (xs ++ ys) = AV.sites.sitesL xs ++ AV.sites.sitesL ys := by
  induction xs with
  | nil => rfl
  | cons x xs ih => simp only [List.cons_append, AV.sites.sitesL, ih, List.append_assoc]
theorem sitesL_d (cs : List D) : AV.sites.sitesL (cs.map .d) = [] := by
  induction cs with
  | nil => rfl
  | cons x xs ih => simp only [List.map_cons, AV.sites.sitesL, AV.sites, ih, List.append_nil]

variable {E : Env} {dst : Option Nat} {V : View} {K : AV → Chg → Prop}

/-- WHAT AN OPERATION GIVES IS ONE VALUE AND ONE CHANGE, and they hang on its footprint alone. -/
def Loc (W F : List Nat) (V : View) (G : View → (AV → Chg → Prop) → Prop) (K : AV → Chg → Prop) : Prop :=
  ∃ v ch, K v ch ∧ (∀ o, o ∈ ch.site → o ∈ W) ∧ ∀ V' K', AgreeV F V V' → K' v ch → G V' K'

theorem osites_agree {F : List Nat} {V V' : View} (h : AgreeV F V V') {o : Nat} (ho : o ∈ F) : V'.osites o = V.osites o := by
  simp only [View.osites, (h o ho).1]
theorem reach_sub {V : View} : ∀ {n : Nat} {l : List Nat} {o : Nat}, o ∈ l → o ∈ V.reach n l
  | 0, _, _, h => h
  | n + 1, _, _, h => List.mem_append_left _ h
theorem reach_agree {V V' : View} : ∀ {n : Nat} {l : List Nat}, AgreeV (V.reach n l) V V' → V'.reach n l = V.reach n l
  | 0, _, _ => rfl
  | n + 1, l, h => by
    simp only [View.reach] at h ⊢
    have e : l.flatMap V'.osites = l.flatMap V.osites := by
      have : ∀ m : List Nat, (∀ o, o ∈ m → o ∈ l) → m.flatMap V'.osites = m.flatMap V.osites := by
        intro m
        induction m with
        | nil => intro _; rfl
        | cons x m ih =>
          intro hm
          rw [List.flatMap_cons, List.flatMap_cons, ih fun o ho => hm o (List.mem_cons_of_mem _ ho), osites_agree h (List.mem_append_left _ (hm x (by simp)))]
      exact this l fun _ h => h
    rw [e, reach_agree (V := V) (V' := V') (n := n) fun o ho => h o (List.mem_append_right _ ho)]
theorem reach_mono {V : View} : ∀ {n : Nat} {l m : List Nat}, (∀ o, o ∈ l → o ∈ m) → ∀ o, o ∈ V.reach n l → o ∈ V.reach n m
  | 0, _, _, h, o, ho => h o ho
  | n + 1, l, m, h, o, ho => by
    simp only [View.reach, List.mem_append] at ho ⊢
    rcases ho with ho | ho
    · exact .inl (h o ho)
    · refine .inr (reach_mono (V := V) (fun q hq => ?_) o ho)
      rw [List.mem_flatMap] at hq ⊢
      obtain ⟨z, hz, hq⟩ := hq
      exact ⟨z, h z hz, hq⟩
theorem callF_agree {dst : Option Nat} {V V' : View} {xs : List AV} (h : AgreeV (callF dst V xs) V V') : callF dst V' xs = callF dst V xs := by
  simp only [callF] at h ⊢
  rw [reach_agree (V := V) (V' := V') fun o ho => h o (List.mem_append_right _ ho)]
theorem callF_dst {t : Nat} {V : View} {xs : List AV} : t ∈ callF (some t) V xs := by simp [callF, newS]
theorem callF_new {t u : Nat} {V : View} {xs : List AV} (h : u ∈ newS t) : u ∈ callF (some t) V xs := by simp only [callF]; exact List.mem_append_left _ h
theorem callF_sites {dst : Option Nat} {V : View} {xs : List AV} {o : Nat} (h : o ∈ AV.sites.sitesL xs) : o ∈ callF dst V xs := by simp only [callF]; exact List.mem_append_right _ (reach_sub h)
theorem callF_mono {dst : Option Nat} {V : View} {xs ys : List AV} (h : ∀ o, o ∈ AV.sites.sitesL xs → o ∈ AV.sites.sitesL ys) : ∀ o, o ∈ callF dst V xs → o ∈ callF dst V ys := by
  intro o ho
  simp only [callF, List.mem_append] at ho ⊢
  exact ho.imp id (reach_mono h o)

theorem handed_agree {V V' : View} {F F' : List Nat} {ρ : Ren} (hF : ∀ o, o ∈ F → o ∈ F') (h : ∀ o, o ∈ F → V'.ob o = V.ob o) : ∀ {V0 : List (Nat × Nat × AObj)}, Handed V F ρ V0 → Handed V' F' ρ V0
  | [], _ => trivial
  | (o, g, x) :: l, hh => by
    simp only [Handed] at hh ⊢
    refine ⟨?_, handed_agree hF h hh.2⟩
    have h1 := hh.1
    split at h1
    · rename_i q y hq hy
      have hin : q.1 ∈ F := by simpa using h1.2
      exact ⟨by simp only [View.get, h q.1 hin]; exact h1.1, by simpa using hF q.1 hin⟩
    · exact h1.elim
theorem namesOk_agree {cn cn' : Nat → Nat} {dst : Option Nat} {V0 V1 : List (Nat × Nat × AObj)} {ρ ρ2 : Ren} (h : ∀ t, dst = some t → ∀ o, o ∈ newS t → cn' o = cn o) (hn : namesOk cn dst V0 V1 ρ ρ2 = true) : namesOk cn' dst V0 V1 ρ ρ2 = true := by
  simp only [namesOk, Bool.and_eq_true, List.all_eq_true] at hn ⊢
  refine ⟨⟨⟨hn.1.1.1, fun e he => ?_⟩, hn.1.2⟩, hn.2⟩
  have := hn.1.1.2 e he
  refine ⟨this.1, ?_⟩
  have h2 := this.2
  cases hρ : ρ.get e.1.1 e.1.2 with
  | some q => rfl
  | none =>
    simp only [hρ] at h2 ⊢
    cases dst with
    | none => simp at h2
    | some t =>
      simp only [Bool.and_eq_true] at h2 ⊢
      exact ⟨h2.1, by rw [h t rfl _ (by simpa using h2.1.1)]; exact h2.2⟩
theorem back_sites {ρ ρ2 : Ren} : ∀ {V1 : List (Nat × Nat × AObj)} {ch : Chg}, backC ρ ρ2 V1 = some ch → ∀ o', o' ∈ ch.site → ∃ o g x q, (o, g, x) ∈ V1 ∧ ρ2.get o g = some q ∧ q.1 = o'
  | [], ch, h, o', ho' => by simp [backC] at h; subst h; simp [Chg.site] at ho'
  | (o, g, x) :: l, ch, h, o', ho' => by
    simp only [backC] at h
    split at h
    · rename_i q y cl hq hy hcl
      simp at h; subst h
      simp only [Chg.site, List.mem_append] at ho'
      rcases ho' with ho' | ho'
      · refine ⟨o, g, x, q, by simp, hq, ?_⟩
        split at ho' <;> simp [Chg.site] at ho' <;> exact ho'.symm
      · obtain ⟨o1, g1, x1, q1, h1, h2, h3⟩ := back_sites hcl o' ho'
        exact ⟨o1, g1, x1, q1, List.mem_cons_of_mem _ h1, h2, h3⟩
    · cases h

theorem evCall_loc {f : FuncId} {xs : List AV} {F : List Nat} (hF : ∀ o, o ∈ callF dst V xs → o ∈ F) (h : evCall E dst V f xs K) : Loc F F V (fun V' K' => evCall E dst V' f xs K') K := by
  have hd : ∀ t, dst = some t → t ∈ F := fun t ht => hF t (by subst ht; exact callF_dst)
  have hx : ∀ o, o ∈ AV.sites.sitesL xs → o ∈ F := fun o ho => hF o (callF_sites ho)
  rcases h with ⟨ds, r, h1, h2, hK⟩ | ⟨ds, r, h1, h2, h3, hK⟩ | ⟨ds, t, ety, es, nl, l, h1, hl, h2, h3, hK⟩ | ⟨V0, cxs, V1, r, r', ch, ρ, ρ2, hren, hcall, hhand, hnm, hr, hback, hK⟩
  · exact ⟨_, _, hK, by simp [Chg.site], fun V' K' _ hk => .inl ⟨ds, r, h1, h2, hk⟩⟩
  · exact ⟨_, _, hK, by simp [Chg.site], fun V' K' ha hk => .inr (.inl ⟨ds, r, by rw [argsD_agree ha hx]; exact h1, h2, h3, hk⟩)⟩
  · refine ⟨_, _, hK, fun o ho => by simp [Chg.site] at ho; subst ho; exact hd _ h1, fun V' K' ha hk => .inr (.inr (.inl ⟨ds, t, ety, es, nl, l, h1, hl, h2, h3, ?_⟩))⟩
    rw [(ha t (hd _ h1)).2]; exact hk
  · refine ⟨_, _, hK, fun o' ho' => ?_, fun V' K' ha hk => .inr (.inr (.inr ⟨V0, cxs, V1, r, r', ch, ρ, ρ2, hren, hcall, ?_, ?_, hr, hback, hk⟩))⟩
    · obtain ⟨o, g, x, q, hm, hq, he⟩ := back_sites hback o' ho'
      subst he
      have N := names_of hnm
      cases hro : ρ.get o g with
      | some q' =>
        have := (N.n1 _ _ _ hro).2.2
        rw [hq] at this; simp at this; subst this
        obtain ⟨x0, hm0⟩ := (N.n1 _ _ _ hro).2.1
        obtain ⟨q2, y2, k1, _, _, k4⟩ := handed_spec hhand o g x0 hm0
        rw [hro] at k1; simp at k1; subst k1
        exact hF _ k4
      | none =>
        obtain ⟨t, ht, k1, _⟩ := (N.n2 _ _ _ hq).2 hro
        subst ht
        exact hF _ (callF_new k1)
    · have hag : AgreeV (callF dst V xs) V V' := fun o ho => ha o (hF o ho)
      exact handed_agree (fun o ho => by rw [callF_agree hag]; exact ho) (fun o ho => (hag o ho).1) hhand
    · exact namesOk_agree (fun t ht o ho => by subst ht; exact (ha o (hF o (callF_new ho))).2) hnm

theorem part_loc {α : Type} {ag : Bool} {n off : Nat} {cs : List α} {mk : List α → AV} {one : α → AV} (h : evPart ag n cs off mk one (K · .none)) :
    ∃ v, K v .none ∧ ∀ K' : AV → Chg → Prop, K' v .none → evPart ag n cs off mk one (K' · .none) := by
  cases ag with
  | true =>
    simp only [evPart, if_true] at *
    exact ⟨_, h.2, fun K' hk => ⟨h.1, hk⟩⟩
  | false =>
    simp only [evPart, Bool.false_eq_true, if_false] at *
    cases hc : cs[off]? with
    | none => simp [hc] at h
    | some v => simp only [hc] at h ⊢; exact ⟨_, h, fun K' hk => hk⟩

theorem bin_loc {op : BinOp} {k k' : IntKind} {a b : Int} (h : evBin op k k' a b (K · .none)) : ∃ v, K v .none ∧ ∀ K' : AV → Chg → Prop, K' v .none → evBin op k k' a b (K' · .none) := by
  cases op <;> simp only [evBin] at h ⊢ <;> first
    | exact ⟨_, h.2.2, fun K' hk => ⟨h.1, h.2.1, hk⟩⟩
    | exact ⟨_, h.2, fun K' hk => ⟨h.1, hk⟩⟩

theorem rng_loc {lo hi : Bool} {len : Nat} {rest : List AV} {C : Nat → Nat → Prop} (h : rngP lo hi len rest C) : ∃ a b, C a b ∧ ∀ C' : Nat → Nat → Prop, C' a b → rngP lo hi len rest C' := by
  cases lo <;> cases hi <;> simp only [rngP, if_true, if_false, Bool.false_eq_true] at h ⊢
  · split at h
    · exact ⟨_, _, h, fun C' hc => hc⟩
    · exact h.elim
  · split at h
    · exact ⟨_, _, h.2.2, fun C' hc => ⟨h.1, h.2.1, hc⟩⟩
    · exact h.elim
  · split at h
    · exact ⟨_, _, h.2.2, fun C' hc => ⟨h.1, h.2.1, hc⟩⟩
    · exact h.elim
  · split at h
    · exact ⟨_, _, h.2.2.2, fun C' hc => ⟨h.1, h.2.1, h.2.2.1, hc⟩⟩
    · exact h.elim

/-- Nothing of the objects is looked at. -/
theorem loc_pure {W F : List Nat} {G : View → (AV → Chg → Prop) → Prop} (h : ∃ v, K v .none ∧ ∀ V' K', K' v .none → G V' K') : Loc W F V G K := by
  obtain ⟨v, h1, h2⟩ := h
  exact ⟨v, .none, h1, by simp [Chg.site], fun V' K' _ hk => h2 V' K' hk⟩

theorem ev_loc {op : IOp} {xs : List AV} (h : ev E dst V op xs K) : Loc (wfp V dst op xs) (fp V dst op xs) V (fun V' K' => ev E dst V' op xs K') K := by
  have sin : ∀ {x : AV} {o : Nat} {ys : List AV}, o ∈ x.sites → o ∈ AV.sites.sitesL (x :: ys) := fun {x o ys} h => by simp only [AV.sites.sitesL, List.mem_append]; exact .inl h
  cases op with
  | mov =>
    unfold ev at h; simp only at h; split at h
    · exact loc_pure ⟨_, h, fun V' K' hk => by unfold ev; exact hk⟩
    · exact h.elim
  | pick =>
    unfold ev at h; simp only at h; split at h
    · rename_i c a b
      cases c
      · simp at h; exact loc_pure ⟨_, h, fun V' K' hk => by unfold ev; simpa using hk⟩
      · simp at h; exact loc_pure ⟨_, h, fun V' K' hk => by unfold ev; simpa using hk⟩
    · exact h.elim
  | bin b =>
    unfold ev at h; simp only at h; split at h
    · obtain ⟨v, h1, h2⟩ := bin_loc h
      exact loc_pure ⟨v, h1, fun V' K' hk => by unfold ev; exact h2 K' hk⟩
    · exact h.elim
  | beq neg =>
    unfold ev at h; simp only at h; split at h
    · exact loc_pure ⟨_, h, fun V' K' hk => by unfold ev; exact hk⟩
    · exact h.elim
  | eqv neg tys =>
    unfold ev at h; simp only at h; split at h
    · rename_i x y
      split at h
      · rename_i a b ha hb
        exact loc_pure ⟨_, h.2.2, fun V' K' hk => by unfold ev; simp only [ha, hb]; exact ⟨h.1, h.2.1, hk⟩⟩
      · exact h.elim
    · exact h.elim
  | eqnil neg =>
    unfold ev at h; simp only at h; split at h
    · rename_i x
      split at h
      · rename_i nl l hl
        refine ⟨_, _, h, by simp [Chg.site], fun V' K' ha hk => ?_⟩
        unfold ev; simp only
        rw [asList_agree ha fun o ho => by simp only [fp, IOp.foot, IOp.isCall]; exact sin ho, hl]; exact hk
      · exact h.elim
    · exact h.elim
  | un u =>
    unfold ev at h; simp only at h; split at h
    · exact loc_pure ⟨_, h, fun V' K' hk => by unfold ev; exact hk⟩
    · exact loc_pure ⟨_, h, fun V' K' hk => by unfold ev; exact hk⟩
    · exact loc_pure ⟨_, h, fun V' K' hk => by unfold ev; exact hk⟩
    · exact h.elim
  | conv k =>
    unfold ev at h; simp only at h; split at h
    · exact loc_pure ⟨_, h, fun V' K' hk => by unfold ev; exact hk⟩
    · exact h.elim
  | load ag n =>
    unfold ev at h; simp only at h; split at h
    · rename_i o g off
      split at h
      · rename_i cs hg
        obtain ⟨v, h1, h2⟩ := part_loc h
        refine ⟨v, .none, h1, by simp [Chg.site], fun V' K' ha hk => ?_⟩
        unfold ev; simp only
        rw [ha.get (by simp [fp, IOp.foot, IOp.isCall, AV.sites.sitesL, AV.sites]), hg]; exact h2 K' hk
      · exact h.elim
    · rename_i o g es i off
      split at h
      · rename_i ety es' nl l hg
        obtain ⟨he, h⟩ := h
        split at h
        · rename_i x hx
          obtain ⟨v, h1, h2⟩ := part_loc h
          refine ⟨v, .none, h1, by simp [Chg.site], fun V' K' ha hk => ?_⟩
          unfold ev; simp only
          rw [ha.get (by simp [fp, IOp.foot, IOp.isCall, AV.sites.sitesL, AV.sites]), hg]
          simp only [hx]
          exact ⟨he, h2 K' hk⟩
        · exact h.elim
      · exact h.elim
    · obtain ⟨v, h1, h2⟩ := part_loc h
      exact loc_pure ⟨v, h1, fun V' K' hk => by unfold ev; exact h2 K' hk⟩
    · obtain ⟨v, h1, h2⟩ := part_loc h
      exact loc_pure ⟨v, h1, fun V' K' hk => by unfold ev; exact h2 K' hk⟩
    · exact h.elim
  | store n =>
    unfold ev at h; simp only at h; split at h
    · rename_i o g off v
      split at h
      · rename_i cs vs hg hv
        refine ⟨_, _, h.2.2, by simp [Chg.site, wfp, IOp.foot, IOp.isCall, AV.sites.sitesL, AV.sites], fun V' K' ha hk => ?_⟩
        unfold ev; simp only
        rw [ha.get (by simp [fp, IOp.foot, IOp.isCall, AV.sites.sitesL, AV.sites]), hg]
        simp only [hv]
        exact ⟨h.1, h.2.1, hk⟩
      · exact h.elim
    · rename_i o g es0 i off v
      split at h
      · rename_i ety es nl l y hg hv
        obtain ⟨he, h⟩ := h
        split at h
        · rename_i x hx
          refine ⟨_, _, h.2.2.2, by simp [Chg.site, wfp, IOp.foot, IOp.isCall, AV.sites.sitesL, AV.sites], fun V' K' ha hk => ?_⟩
          unfold ev; simp only
          rw [ha.get (by simp [fp, IOp.foot, IOp.isCall, AV.sites.sitesL, AV.sites]), hg]
          simp only [hv, hx]
          exact ⟨he, h.1, h.2.1, h.2.2.1, hk⟩
        · exact h.elim
      · exact h.elim
    · exact h.elim
  | nilck =>
    unfold ev at h; simp only at h
    split at h
    · exact loc_pure ⟨_, h, fun V' K' hk => by unfold ev; exact hk⟩
    · exact loc_pure ⟨_, h, fun V' K' hk => by unfold ev; exact hk⟩
    · exact loc_pure ⟨_, h, fun V' K' hk => by unfold ev; exact hk⟩
    · exact loc_pure ⟨_, h, fun V' K' hk => by unfold ev; exact hk⟩
    · exact h.elim
  | field ag off n =>
    unfold ev at h; simp only at h
    split at h
    · obtain ⟨v, h1, h2⟩ := part_loc h
      exact loc_pure ⟨v, h1, fun V' K' hk => by unfold ev; exact h2 K' hk⟩
    · obtain ⟨v, h1, h2⟩ := part_loc h
      exact loc_pure ⟨v, h1, fun V' K' hk => by unfold ev; exact h2 K' hk⟩
    · exact h.elim
  | faddr off =>
    unfold ev at h; simp only at h
    split at h
    · exact loc_pure ⟨_, h, fun V' K' hk => by unfold ev; exact hk⟩
    · exact loc_pure ⟨_, h, fun V' K' hk => by unfold ev; exact hk⟩
    · exact loc_pure ⟨_, h, fun V' K' hk => by unfold ev; exact hk⟩
    · exact loc_pure ⟨_, h, fun V' K' hk => by unfold ev; exact hk⟩
    · exact h.elim
  | iaddrS es =>
    unfold ev at h; simp only at h
    split at h
    · rename_i o g k i
      split at h
      · rename_i ety es' nl l hg
        refine ⟨_, _, h.2.2.2, by simp [Chg.site], fun V' K' ha hk => ?_⟩
        unfold ev; simp only
        rw [ha.get (by simp [fp, IOp.foot, IOp.isCall, AV.sites.sitesL, AV.sites]), hg]
        exact ⟨h.1, h.2.1, h.2.2.1, hk⟩
      · exact h.elim
    · obtain ⟨h1, h2, h⟩ := h
      split at h
      · rename_i x hx
        exact loc_pure ⟨_, h.2, fun V' K' hk => by unfold ev; simp only [hx]; exact ⟨h1, h2, h.1, hk⟩⟩
      · exact h.elim
    · obtain ⟨h1, h2, h⟩ := h
      split at h
      · rename_i x hx
        exact loc_pure ⟨_, h.2, fun V' K' hk => by unfold ev; simp only [hx]; exact ⟨h1, h2, h.1, hk⟩⟩
      · exact h.elim
    · exact h.elim
  | iaddrA len es =>
    unfold ev at h; simp only at h
    split at h
    · exact loc_pure ⟨_, h.2.2, fun V' K' hk => by unfold ev; exact ⟨h.1, h.2.1, hk⟩⟩
    · exact loc_pure ⟨_, h.2.2, fun V' K' hk => by unfold ev; exact ⟨h.1, h.2.1, hk⟩⟩
    · exact loc_pure ⟨_, h.2.2, fun V' K' hk => by unfold ev; exact ⟨h.1, h.2.1, hk⟩⟩
    · exact h.elim
  | index len es ag =>
    unfold ev at h; simp only at h
    split at h
    · obtain ⟨v, h1, h2⟩ := part_loc h.2.2
      exact loc_pure ⟨v, h1, fun V' K' hk => by unfold ev; exact ⟨h.1, h.2.1, h2 K' hk⟩⟩
    · obtain ⟨v, h1, h2⟩ := part_loc h.2.2
      exact loc_pure ⟨v, h1, fun V' K' hk => by unfold ev; exact ⟨h.1, h.2.1, h2 K' hk⟩⟩
    · exact h.elim
  | build z pl =>
    unfold ev at h; simp only at h
    split at h
    · rename_i cs hc
      exact loc_pure ⟨_, h.2, fun V' K' hk => by unfold ev; simp only [hc]; exact ⟨h.1, hk⟩⟩
    · exact h.elim
  | mkrow es z len ix =>
    unfold ev at h; simp only at h
    split at h
    · rename_i cs hc
      exact loc_pure ⟨_, h.2, fun V' K' hk => by unfold ev; simp only [hc]; exact ⟨h.1, hk⟩⟩
    · exact h.elim
  | mkrowO ety es z len ix =>
    unfold ev at h; simp only at h
    split at h
    · rename_i t l hl
      refine ⟨_, _, h.2.2, by simp [Chg.site, wfp, IOp.foot, IOp.isCall], fun V' K' ha hk => ?_⟩
      unfold ev; simp only [hl]
      rw [(ha t (by simp [fp, IOp.foot, IOp.isCall])).2]; exact ⟨h.1, h.2.1, hk⟩
    · exact h.elim
  | mkfn f => exact loc_pure ⟨_, h, fun V' K' hk => hk⟩
  | box =>
    unfold ev at h; simp only at h
    split at h
    · rename_i t v
      split at h
      · rename_i cs hc
        refine ⟨_, _, h.2, by simp [Chg.site, wfp, IOp.foot, IOp.isCall], fun V' K' ha hk => ?_⟩
        unfold ev; simp only [hc]
        rw [(ha t (by simp [fp, IOp.foot, IOp.isCall])).2]; exact ⟨h.1, hk⟩
      · exact h.elim
    · exact h.elim
  | zero cs =>
    unfold ev at h; simp only at h
    split at h
    · rename_i t
      refine ⟨_, _, h.2, by simp [Chg.site, wfp, IOp.foot, IOp.isCall], fun V' K' ha hk => ?_⟩
      unfold ev; simp only
      rw [(ha t (by simp [fp, IOp.foot, IOp.isCall])).2]; exact ⟨h.1, hk⟩
    · exact h.elim
  | mkmap tys =>
    unfold ev at h; simp only at h
    split at h
    · rename_i t
      refine ⟨_, _, h.2, by simp [Chg.site, wfp, IOp.foot, IOp.isCall], fun V' K' ha hk => ?_⟩
      unfold ev; simp only
      rw [(ha t (by simp [fp, IOp.foot, IOp.isCall])).2]; exact ⟨h.1, hk⟩
    · exact h.elim
  | mksl ety es z own =>
    unfold ev at h; simp only at h
    split at h
    · rename_i t n m
      obtain ⟨h1, h2, h3, h⟩ := h
      cases own with
      | true =>
        simp only [if_true] at h
        refine ⟨_, _, h.2, by simp [Chg.site, wfp, IOp.foot, IOp.isCall], fun V' K' ha hk => ?_⟩
        unfold ev; simp only [if_true]
        rw [(ha t (by simp [fp, IOp.foot, IOp.isCall])).2]; exact ⟨h1, h2, h3, h.1, hk⟩
      | false =>
        simp only [Bool.false_eq_true, if_false] at h
        exact loc_pure ⟨_, h, fun V' K' hk => by unfold ev; simp only [Bool.false_eq_true, if_false]; exact ⟨h1, h2, h3, hk⟩⟩
    · exact h.elim
  | slice es lo hi mx =>
    unfold ev at h; simp only at h
    cases mx with
    | true =>
      simp only [if_true] at h
      split at h
      · exact loc_pure ⟨_, h.2.2.2.2, fun V' K' hk => by unfold ev; simp only [if_true]; exact ⟨h.1, h.2.1, h.2.2.1, h.2.2.2.1, hk⟩⟩
      · exact loc_pure ⟨_, h.2.2, fun V' K' hk => by unfold ev; simp only [if_true]; exact ⟨h.1, h.2.1, hk⟩⟩
      · exact h.elim
    | false =>
      simp only [Bool.false_eq_true, if_false] at h
      split at h
      · obtain ⟨hu, h⟩ := h
        obtain ⟨a, b, h1, h2⟩ := rng_loc h
        exact loc_pure ⟨_, h1, fun V' K' hk => by unfold ev; simp only [Bool.false_eq_true, if_false]; exact ⟨hu, h2 _ hk⟩⟩
      · obtain ⟨hu, h⟩ := h
        obtain ⟨a, b, h1, h2⟩ := rng_loc h
        exact loc_pure ⟨_, h1, fun V' K' hk => by unfold ev; simp only [Bool.false_eq_true, if_false]; exact ⟨hu, h2 _ hk⟩⟩
      · rename_i o g rest
        split at h
        · rename_i ety es' nl l hg
          obtain ⟨hol, he, hh, h⟩ := h
          obtain ⟨a, b, h1, h2⟩ := rng_loc h
          refine ⟨_, _, h1, by simp [Chg.site, wfp, IOp.foot, IOp.isCall, AV.sites.sitesL, AV.sites], fun V' K' ha hk => ?_⟩
          unfold ev; simp only [Bool.false_eq_true, if_false]
          have ho : o ∈ fp V dst (.slice es lo hi false) (.own o g :: rest) := by simp [fp, IOp.foot, IOp.isCall, AV.sites.sitesL, AV.sites]
          rw [ha.get ho, hg, (ha o ho).2]
          exact ⟨hol, he, hh, h2 (fun a _ => K' (.own o (V.cn o)) (.fresh o (.row ety es nl (l.drop a)))) hk⟩
        · exact h.elim
      · exact h.elim
  | len m =>
    unfold ev at h; simp only at h
    split at h
    · rename_i x
      cases m with
      | true =>
        simp only [if_true] at h
        split at h
        · rename_i o g
          split at h
          · rename_i tys kvs hg
            refine ⟨_, _, h.2, by simp [Chg.site], fun V' K' ha hk => ?_⟩
            unfold ev; simp only [if_true]
            rw [ha.get (by simp [fp, IOp.foot, IOp.isCall, AV.sites.sitesL, AV.sites]), hg]; exact ⟨h.1, hk⟩
          · exact h.elim
        · exact h.elim
      | false =>
        simp only [Bool.false_eq_true, if_false] at h
        split at h
        · rename_i nl l hl
          refine ⟨_, _, h, by simp [Chg.site], fun V' K' ha hk => ?_⟩
          unfold ev; simp only [Bool.false_eq_true, if_false]
          rw [asList_agree ha fun o ho => by simp only [fp, IOp.foot, IOp.isCall]; exact sin ho, hl]; exact hk
        · exact h.elim
    · exact h.elim
  | minmax m =>
    unfold ev at h; simp only at h
    split at h
    · split at h
      · rename_i r hr
        exact loc_pure ⟨_, h, fun V' K' hk => by unfold ev; simp only [hr]; exact hk⟩
      · exact h.elim
    · exact h.elim
  | extract i =>
    unfold ev at h; simp only at h
    split at h
    · split at h
      · rename_i r hr
        exact loc_pure ⟨_, h, fun V' K' hk => by unfold ev; simp only [hr]; exact hk⟩
      · exact h.elim
    · exact h.elim
  | lookup ok tys z =>
    unfold ev at h; simp only at h
    split at h
    · rename_i o g key
      split at h
      · rename_i tys' kvs k hg hk'
        obtain ⟨h1, h2, h⟩ := h
        split at h
        · rename_i v hv
          refine ⟨_, _, h, by simp [Chg.site], fun V' K' ha hk => ?_⟩
          unfold ev; simp only
          rw [ha.get (by simp [fp, IOp.foot, IOp.isCall, AV.sites.sitesL, AV.sites]), hg]
          simp only [hk', hv]; exact ⟨h1, h2, hk⟩
        · rename_i hv
          refine ⟨_, _, h, by simp [Chg.site], fun V' K' ha hk => ?_⟩
          unfold ev; simp only
          rw [ha.get (by simp [fp, IOp.foot, IOp.isCall, AV.sites.sitesL, AV.sites]), hg]
          simp only [hk', hv]; exact ⟨h1, h2, hk⟩
      · exact h.elim
    · split at h
      · rename_i k hk'
        exact loc_pure ⟨_, h.2, fun V' K' hk => by unfold ev; simp only [hk']; exact ⟨h.1, hk⟩⟩
      · exact h.elim
    · exact h.elim
  | mapupd tys =>
    unfold ev at h; simp only at h
    split at h
    · rename_i o g key val
      split at h
      · rename_i tys' kvs k v hg hk' hv'
        refine ⟨_, _, h.2.2.2, by simp [Chg.site, wfp, IOp.foot, IOp.isCall, AV.sites.sitesL, AV.sites], fun V' K' ha hk => ?_⟩
        unfold ev; simp only
        rw [ha.get (by simp [fp, IOp.foot, IOp.isCall, AV.sites.sitesL, AV.sites]), hg]
        simp only [hk', hv']; exact ⟨h.1, h.2.1, h.2.2.1, hk⟩
      · exact h.elim
    · exact h.elim
  | mapent tys z =>
    unfold ev at h; simp only at h
    split at h
    · rename_i o g key
      split at h
      · rename_i tys' kvs k hg hk'
        obtain ⟨h1, h2, h3, h⟩ := h
        split at h
        · rename_i v hv
          refine ⟨_, _, h, by simp [Chg.site], fun V' K' ha hk => ?_⟩
          unfold ev; simp only
          rw [ha.get (by simp [fp, IOp.foot, IOp.isCall, AV.sites.sitesL, AV.sites]), hg]
          simp only [hk', hv]; exact ⟨h1, h2, h3, hk⟩
        · rename_i hv
          refine ⟨_, _, h, by simp [Chg.site, wfp, IOp.foot, IOp.isCall, AV.sites.sitesL, AV.sites], fun V' K' ha hk => ?_⟩
          unfold ev; simp only
          rw [ha.get (by simp [fp, IOp.foot, IOp.isCall, AV.sites.sitesL, AV.sites]), hg]
          simp only [hk', hv]; exact ⟨h1, h2, h3, hk⟩
      · exact h.elim
    · exact h.elim
  | entst =>
    unfold ev at h; simp only at h
    split at h
    · rename_i o g k i val
      split at h
      · rename_i tys kvs v hg hv'
        obtain ⟨h1, h2, h⟩ := h
        split at h
        · rename_i e hev
          refine ⟨_, _, h, by simp [Chg.site, wfp, IOp.foot, IOp.isCall, AV.sites.sitesL, AV.sites], fun V' K' ha hk => ?_⟩
          unfold ev; simp only
          rw [ha.get (by simp [fp, IOp.foot, IOp.isCall, AV.sites.sitesL, AV.sites]), hg]
          simp only [hv', hev]; exact ⟨h1, h2, hk⟩
        · exact h.elim
      · exact h.elim
    · exact h.elim
  | app ety es z own =>
    unfold ev at h; simp only at h
    split at h
    · rename_i x y
      split at h
      · exact h.elim
      · rename_i ys hys
        have hsrc : ∀ {V' : View}, AgreeV (fp V dst (.app ety es z own) [x, y]) V V' → appSrc V' z y = some ys := fun {V'} ha => by
          rw [appSrc_agree ha fun o ho => by simp [fp, IOp.foot, IOp.isCall, AV.sites.sitesL]; exact .inr (.inr ho), hys]
        split at h
        · rename_i o g
          split at h
          · rename_i ety' es' nl l hg
            obtain ⟨h0, h1, h2, h3, h4, h⟩ := h
            refine ⟨_, _, h, by simp [Chg.site, wfp, IOp.foot, IOp.isCall, AV.sites.sitesL, AV.sites], fun V' K' ha hk => ?_⟩
            have ho : o ∈ fp V dst (.app ety es z own) [.own o g, y] := by simp [fp, IOp.foot, IOp.isCall, AV.sites.sitesL, AV.sites]
            unfold ev; simp only [hsrc ha]
            rw [ha.get ho, hg, (ha o ho).2]
            exact ⟨h0, h1, h2, h3, h4, hk⟩
          · exact h.elim
        · obtain ⟨h1, h2, h⟩ := h
          cases own with
          | true =>
            simp only [if_true] at h
            split at h
            · rename_i t
              refine ⟨_, _, h.2, by simp [Chg.site, wfp, IOp.foot, IOp.isCall], fun V' K' ha hk => ?_⟩
              unfold ev; simp only [hsrc ha, if_true]
              rw [(ha t (by simp [fp, IOp.foot, IOp.isCall])).2]; exact ⟨h1, h2, h.1, hk⟩
            · exact h.elim
          | false =>
            simp only [Bool.false_eq_true, if_false] at h
            refine ⟨_, _, h, by simp [Chg.site], fun V' K' ha hk => ?_⟩
            unfold ev; simp only [hsrc ha, Bool.false_eq_true, if_false]; exact ⟨h1, h2, hk⟩
        · obtain ⟨h1, h2, h⟩ := h
          cases own with
          | true =>
            simp only [if_true] at h
            split at h
            · rename_i t
              split at h
              · refine ⟨_, _, h, by simp [Chg.site, wfp, IOp.foot, IOp.isCall], fun V' K' ha hk => ?_⟩
                unfold ev; simp only [hsrc ha, if_true]
                exact ⟨h1, h2, hk⟩
              · refine ⟨_, _, h.2, by simp [Chg.site, wfp, IOp.foot, IOp.isCall], fun V' K' ha hk => ?_⟩
                unfold ev; simp only [hsrc ha, if_true]
                rw [(ha t (by simp [fp, IOp.foot, IOp.isCall])).2]; exact ⟨h1, h2, h.1, hk⟩
            · exact h.elim
          | false =>
            simp only [Bool.false_eq_true, if_false] at h
            refine ⟨_, _, h, by simp [Chg.site], fun V' K' ha hk => ?_⟩
            unfold ev; simp only [hsrc ha, Bool.false_eq_true, if_false]; exact ⟨h1, h2, hk⟩
        · exact h.elim
    · exact h.elim
  | call f => exact evCall_loc (F := fp V dst (.call f) xs) (fun o ho => by simpa [fp, IOp.foot, IOp.isCall] using ho) h
  | callv =>
    unfold ev at h; simp only at h
    split at h
    · rename_i f cs args
      obtain ⟨hb, h⟩ := h
      obtain ⟨v, ch, h1, h2, h3⟩ := evCall_loc (F := fp V dst .callv (.fn f cs :: args)) (fun o ho => by
        have : o ∈ callF dst V (.fn f cs :: args) := callF_mono (fun o ho => by
          rw [sitesL_append] at ho
          simp only [AV.sites.sitesL, AV.sites, List.mem_append] at ho ⊢
          exact ho.symm) o ho
        simpa [fp, IOp.foot, IOp.isCall] using this) h
      exact ⟨v, ch, h1, h2, fun V' K' ha hk => by unfold ev; exact ⟨hb, h3 V' K' ha hk⟩⟩
    · rename_i f cs args
      obtain ⟨hb, h⟩ := h
      obtain ⟨v, ch, h1, h2, h3⟩ := evCall_loc (F := fp V dst .callv (.d (.fn f cs) :: args)) (fun o ho => by
        have : o ∈ callF dst V (.d (.fn f cs) :: args) := callF_mono (fun o ho => by
          rw [sitesL_append, sitesL_d] at ho
          simp only [AV.sites.sitesL, AV.sites, List.mem_append, List.append_nil, List.nil_append] at ho ⊢
          exact ho) o ho
        simpa [fp, IOp.foot, IOp.isCall] using this) h
      exact ⟨v, ch, h1, h2, fun V' K' ha hk => by unfold ev; exact ⟨hb, h3 V' K' ha hk⟩⟩
    · exact h.elim
  | delete => unfold ev at h; exact h.elim
end Go.Pw
end
section
namespace Go.Pw
set_option linter.unusedSimpArgs false
set_option linter.unusedVariables false

def seqI (E : Env) : List Ins → PSt → (PSt → Prop) → Prop
  | [], s, K => K s
  | I :: l, s, K => stepI E I s fun v ch => seqI E l (put s I.dst v ch) K

abbrev Rec := List Nat × List Nat

def foot1 (I : Ins) (s : PSt) : List Nat := fp s.V I.dst I.op (I.xs.map (Opd.val s.sl))
def apartS (a b : Rec) : Bool :=
  (a.1.all fun o => !b.2.contains o) && (b.1.all fun o => !a.2.contains o)

def seqD (E : Env) : List (Ins × List Nat) → List Rec → PSt → (PSt → Prop) → Prop
  | [], _, s, K => K s
  | (I, dy) :: l, rec, s, K => stepI E I s fun v ch =>
      (dy.all fun j => match rec[j]? with | some r => apartS r (ch.site, foot1 I s) | none => false) = true ∧
      seqD E l (rec ++ [(ch.site, foot1 I s)]) (put s I.dst v ch) K

def Opd.slot : Opd → List Nat
  | .t n => [n]
  | .k _ => []

def Ins.reads (I : Ins) : List Nat := I.xs.flatMap Opd.slot ++ (match I.g with | some (t, _) => [t] | none => [])

theorem vals_agree {xs : List Opd} {s s' : PSt} (h : ∀ t, t ∈ xs.flatMap Opd.slot → s'.sl t = s.sl t) : xs.map (Opd.val s'.sl) = xs.map (Opd.val s.sl) := by
  apply List.map_congr_left
  intro x hx
  cases x with
  | t n => exact h n (List.mem_flatMap.2 ⟨_, hx, by simp [Opd.slot]⟩)
  | k v => rfl

def wfp1 (I : Ins) (s : PSt) : List Nat := wfp s.V I.dst I.op (I.xs.map (Opd.val s.sl))

variable {E : Env}

theorem stepI_loc {I : Ins} {s : PSt} {K : AV → Chg → Prop} (h : stepI E I s K) :
    ∃ v ch, K v ch ∧ (∀ o, o ∈ ch.site → o ∈ wfp1 I s) ∧ ∀ s' K', (∀ t, t ∈ I.reads → s'.sl t = s.sl t) → AgreeV (foot1 I s) s.V s'.V → K' v ch → stepI E I s' K' := by
  have hval : ∀ s' : PSt, (∀ t, t ∈ I.reads → s'.sl t = s.sl t) → I.xs.map (Opd.val s'.sl) = I.xs.map (Opd.val s.sl) := fun s' hs => vals_agree fun t ht => hs t (by simp [Ins.reads]; exact .inl (by simpa using ht))
  unfold stepI at h
  split at h
  · rename_i hg
    obtain ⟨v, ch, h1, h2, h3⟩ := ev_loc h
    refine ⟨v, ch, h1, h2, fun s' K' hs hV hk => ?_⟩
    unfold stepI; simp only [hg]
    rw [hval s' hs]; exact h3 s'.V K' hV hk
  · rename_i t b hg
    have ht : ∀ s' : PSt, (∀ t, t ∈ I.reads → s'.sl t = s.sl t) → s'.sl t = s.sl t := fun s' hs => hs t (by simp [Ins.reads, hg])
    split at h
    · rename_i b' hb
      by_cases hbb : (b == b') = true
      · rw [hbb] at h; simp only [condB_true] at h
        obtain ⟨v, ch, h1, h2, h3⟩ := ev_loc h
        refine ⟨v, ch, h1, h2, fun s' K' hs hV hk => ?_⟩
        unfold stepI; simp only [hg]
        rw [ht s' hs, hb]; simp only [hbb, condB_true]
        rw [hval s' hs]; exact h3 s'.V K' hV hk
      · have hbb' : (b == b') = false := by simpa using hbb
        rw [hbb'] at h; simp only [condB_false] at h
        refine ⟨_, _, h, by simp [Chg.site], fun s' K' hs hV hk => ?_⟩
        unfold stepI; simp only [hg]
        rw [ht s' hs, hb]; simp only [hbb', condB_false]; exact hk
    · rename_i hb
      refine ⟨_, _, h, by simp [Chg.site], fun s' K' hs hV hk => ?_⟩
      unfold stepI; simp only [hg]
      rw [ht s' hs, hb]; exact hk
    · exact h.elim

/-- What is read agrees. -/
def Agr (R F : List Nat) (s s' : PSt) : Prop := (∀ t, t ∈ R → s'.sl t = s.sl t) ∧ AgreeV F s.V s'.V

theorem Agr.refl (R F : List Nat) (s : PSt) : Agr R F s s := ⟨fun _ _ => rfl, fun _ _ => ⟨rfl, rfl⟩⟩

theorem AgreeV.app {F : List Nat} : ∀ {ch : Chg} {V V' : View}, AgreeV F V V' → AgreeV F (V.app ch) (V'.app ch)
  | .none, _, _, h => h
  | .keep o' g x, V, V', h => fun o ho => by
    obtain ⟨h1, h2⟩ := h o ho
    refine ⟨?_, h2⟩
    simp only [View.app, upd]; split
    · rfl
    · exact h1
  | .fresh o' x, V, V', h => fun o ho => by
    obtain ⟨h1, h2⟩ := h o ho
    refine ⟨?_, ?_⟩
    · simp only [View.app, upd]
      split
      · rename_i e; subst e; rw [h2]
      · exact h1
    · simp only [View.app, upd]
      split
      · rename_i e; subst e; rw [h2]
      · exact h2
  | .seq a b, V, V', h => AgreeV.app (ch := b) (AgreeV.app (ch := a) h)

theorem Agr.both {R F : List Nat} {s s' : PSt} (h : Agr R F s s') (dst : Option Nat) (v : AV) (ch : Chg) : Agr R F (put s dst v ch) (put s' dst v ch) := by
  refine ⟨fun t ht => ?_, h.2.app⟩
  cases dst with
  | none => exact h.1 t ht
  | some d =>
    simp only [put, upd]; split
    · rfl
    · exact h.1 t ht

theorem app_other : ∀ {ch : Chg} {V : View} {o : Nat}, o ∉ ch.site → (V.app ch).ob o = V.ob o ∧ (V.app ch).cn o = V.cn o
  | .none, _, _, _ => ⟨rfl, rfl⟩
  | .keep o' g x, V, o, h => by
    have : o ≠ o' := fun e => h (by simp [Chg.site, e])
    simp [View.app, upd, this]
  | .fresh o' x, V, o, h => by
    have : o ≠ o' := fun e => h (by simp [Chg.site, e])
    simp [View.app, upd, this]
  | .seq a b, V, o, h => by
    simp only [Chg.site, List.mem_append, not_or] at h
    obtain ⟨h1, h2⟩ := app_other (ch := b) (V := V.app a) h.2
    obtain ⟨h3, h4⟩ := app_other (ch := a) (V := V) h.1
    exact ⟨h1.trans h3, h2.trans h4⟩

theorem Agr.left {R F : List Nat} {s s' : PSt} (h : Agr R F s s') {dst : Option Nat} {v : AV} {ch : Chg} (hd : ∀ t, dst = some t → t ∉ R) (hc : ∀ o, o ∈ ch.site → o ∉ F) : Agr R F (put s dst v ch) s' := by
  refine ⟨fun t ht => ?_, fun o ho => ?_⟩
  · cases dst with
    | none => exact h.1 t ht
    | some d =>
      have : t ≠ d := fun e => hd d rfl (e ▸ ht)
      simp only [put, upd, this, if_false]; exact h.1 t ht
  · obtain ⟨h1, h2⟩ := app_other (V := s.V) (ch := ch) (o := o) fun e => hc o e ho
    show s'.V.ob o = (s.V.app ch).ob o ∧ s'.V.cn o = (s.V.app ch).cn o
    rw [h1, h2]; exact h.2 o ho

theorem Agr.right {R F : List Nat} {s s' : PSt} (h : Agr R F s s') {dst : Option Nat} {v : AV} {ch : Chg} (hd : ∀ t, dst = some t → t ∉ R) (hc : ∀ o, o ∈ ch.site → o ∉ F) : Agr R F s (put s' dst v ch) := by
  refine ⟨fun t ht => ?_, fun o ho => ?_⟩
  · cases dst with
    | none => exact h.1 t ht
    | some d =>
      have : t ≠ d := fun e => hd d rfl (e ▸ ht)
      simp only [put, upd, this, if_false]; exact h.1 t ht
  · obtain ⟨h1, h2⟩ := app_other (V := s'.V) (ch := ch) (o := o) fun e => hc o e ho
    show (s'.V.app ch).ob o = s.V.ob o ∧ (s'.V.app ch).cn o = s.V.cn o
    rw [h1, h2]; exact h.2 o ho

theorem app_comm1 {b : Chg} {a : Chg} (ha : ∀ x y, a ≠ .seq x y) : ∀ {b : Chg} {V : View}, (∀ o, o ∈ a.site → o ∉ b.site) → (V.app a).app b = (V.app b).app a
  | .seq b1 b2, V, h => by
    have h1 : ∀ o, o ∈ a.site → o ∉ b1.site := fun o ho hb => h o ho (by simp [Chg.site, hb])
    have h2 : ∀ o, o ∈ a.site → o ∉ b2.site := fun o ho hb => h o ho (by simp [Chg.site, hb])
    show ((V.app a).app b1).app b2 = ((V.app b1).app b2).app a
    rw [app_comm1 (b := b) ha h1, app_comm1 (b := b) ha h2]
  | .none, V, h => rfl
  | .keep o' g' x', V, h => by
    cases a with
    | seq x y => exact absurd rfl (ha x y)
    | none => rfl
    | keep o g x =>
      have hne : o' ≠ o := fun e => h o (by simp [Chg.site]) (by simp [Chg.site, e])
      simp only [View.app]
      congr 1; funext i; simp only [upd]; split <;> split <;> simp_all
    | fresh o x =>
      have hne : o' ≠ o := fun e => h o (by simp [Chg.site]) (by simp [Chg.site, e])
      simp only [View.app]
      congr 1; funext i; simp only [upd]; split <;> split <;> simp_all
  | .fresh o' x', V, h => by
    cases a with
    | seq x y => exact absurd rfl (ha x y)
    | none => rfl
    | keep o g x =>
      have hne : o' ≠ o := fun e => h o (by simp [Chg.site]) (by simp [Chg.site, e])
      simp only [View.app]
      congr 1; funext i; simp only [upd]; split <;> split <;> simp_all
    | fresh o x =>
      have hne : o' ≠ o := fun e => h o (by simp [Chg.site]) (by simp [Chg.site, e])
      have hne' : o ≠ o' := fun e => hne e.symm
      simp only [View.app]
      congr 1
      · funext i; simp only [upd, hne, hne', if_false]; split <;> split <;> simp_all
      · funext i; simp only [upd, hne, hne', if_false]; split <;> split <;> simp_all
theorem app_comm {b : Chg} : ∀ {a : Chg} {V : View}, (∀ o, o ∈ a.site → o ∉ b.site) → (V.app a).app b = (V.app b).app a
  | .seq a1 a2, V, h => by
    have h1 : ∀ o, o ∈ a1.site → o ∉ b.site := fun o ho => h o (by simp [Chg.site, ho])
    have h2 : ∀ o, o ∈ a2.site → o ∉ b.site := fun o ho => h o (by simp [Chg.site, ho])
    show ((V.app a1).app a2).app b = ((V.app b).app a1).app a2
    rw [app_comm (a := a2) h2, app_comm (a := a1) h1]
  | .none, V, h => app_comm1 (b := b) (fun _ _ => by simp) h
  | .keep _ _ _, V, h => app_comm1 (b := b) (fun _ _ => by simp) h
  | .fresh _ _, V, h => app_comm1 (b := b) (fun _ _ => by simp) h

theorem put_comm {s : PSt} {d d' : Option Nat} {v v' : AV} {a b : Chg} (hd : ∀ t, d = some t → d' ≠ some t) (h : ∀ o, o ∈ a.site → o ∉ b.site) :
    put (put s d v a) d' v' b = put (put s d' v' b) d v a := by
  unfold put
  congr 1
  · cases d <;> cases d' <;> try rfl
    rename_i t t'
    have hne : t' ≠ t := fun e => hd t rfl (by rw [e])
    funext i; simp only [upd]; split <;> split <;> simp_all
  · exact app_comm h

/-- The state after the operations of a set, in the order of the text. -/
def after (I : Nat → Ins) (v : Nat → AV) (ch : Nat → Chg) (s0 : PSt) (L : Nat → Bool) : Nat → PSt
  | 0 => s0
  | k + 1 => if L k then put (after I v ch s0 L k) (I k).dst (v k) (ch k) else after I v ch s0 L k

section
variable {I : Nat → Ins} {v : Nat → AV} {ch : Nat → Chg} {s0 : PSt} {F : Nat → List Nat}

/-- Two operations that may come in either order. -/
structure Free (I : Nat → Ins) (ch : Nat → Chg) (F : Nat → List Nat) (i k : Nat) : Prop where
  d1 : ∀ t, (I i).dst = some t → t ∉ (I k).reads
  d2 : ∀ t, (I k).dst = some t → t ∉ (I i).reads
  d3 : ∀ t, (I i).dst = some t → (I k).dst ≠ some t
  s1 : ∀ o, o ∈ (ch i).site → o ∉ F k
  s2 : ∀ o, o ∈ (ch k).site → o ∉ F i

theorem Free.symm {i k : Nat} (h : Free I ch F i k) : Free I ch F k i := ⟨h.d2, h.d1, fun t ht hi => h.d3 t hi ht, h.s2, h.s1⟩

theorem after_agree {L : Nat → Bool} {k n : Nat} (hk : k ≤ n) (hL : L k = false) (h1 : ∀ i, i < k → L i = false → Free I ch F i k) (h2 : ∀ i, k < i → i < n → L i = true → Free I ch F i k) :
    Agr (I k).reads (F k) (after I v ch s0 (fun _ => true) k) (after I v ch s0 L n) := by
  have a : ∀ m, m ≤ k → Agr (I k).reads (F k) (after I v ch s0 (fun _ => true) m) (after I v ch s0 L m) := by
    intro m
    induction m with
    | zero => intro _; exact Agr.refl _ _ _
    | succ m ih =>
      intro hm
      have := ih (by omega)
      simp only [after, if_true]
      cases hLm : L m with
      | true => simp only [if_true]; exact this.both _ _ _
      | false =>
        simp only [Bool.false_eq_true, if_false]
        have hf := h1 m (by omega) hLm
        exact this.left hf.d1 hf.s1
  have b : ∀ m, k ≤ m → m ≤ n → Agr (I k).reads (F k) (after I v ch s0 (fun _ => true) k) (after I v ch s0 L m) := by
    intro m hm
    induction m with
    | zero => intro _; have : k = 0 := by omega
              subst this; exact a 0 (Nat.le_refl _)
    | succ m ih =>
      intro hmn
      by_cases hkm : k = m + 1
      · subst hkm; exact a _ (Nat.le_refl _)
      · have := ih (by omega) (by omega)
        simp only [after]
        cases hLm : L m with
        | false => simp only [Bool.false_eq_true, if_false]; exact this
        | true =>
          simp only [if_true]
          have hne : m ≠ k := fun e => by rw [e, hL] at hLm; cases hLm
          have hf := h2 m (by omega) (by omega) hLm
          exact this.right hf.d1 hf.s1
  exact b n hk (Nat.le_refl _)

theorem after_insert {L L' : Nat → Bool} {k n : Nat} (hk : k < n) (hL : L k = false) (hL' : ∀ i, L' i = if i = k then true else L i) (h2 : ∀ i, k < i → i < n → L i = true → Free I ch F i k) (hF : ∀ i o, i < n → o ∈ (ch i).site → o ∈ F i) :
    after I v ch s0 L' n = put (after I v ch s0 L n) (I k).dst (v k) (ch k) := by
  have a : ∀ m, m ≤ k → after I v ch s0 L' m = after I v ch s0 L m := by
    intro m
    induction m with
    | zero => intro _; rfl
    | succ m ih =>
      intro hm
      simp only [after, ih (by omega), hL' m, show ¬ m = k by omega, if_false]
  have b : ∀ m, k < m → m ≤ n → after I v ch s0 L' m = put (after I v ch s0 L m) (I k).dst (v k) (ch k) := by
    intro m hm
    induction m with
    | zero => omega
    | succ m ih =>
      intro hmn
      by_cases hkm : m = k
      · subst hkm
        simp only [after, a m (Nat.le_refl _), hL' m, if_true, hL, Bool.false_eq_true, if_false]
      · simp only [after, ih (by omega) (by omega), hL' m, hkm, if_false]
        cases hLm : L m with
        | false => simp only [Bool.false_eq_true, if_false]
        | true =>
          simp only [if_true]
          have hf := h2 m (by omega) (by omega) hLm
          exact put_comm (fun t ht hm' => hf.d3 t hm' ht) fun o ho hm' => hf.s1 o hm' (hF k o hk ho)
  exact b n hk (Nat.le_refl _)

theorem after_congr {L L' : Nat → Bool} {n : Nat} (h : ∀ i, i < n → L i = L' i) : ∀ m, m ≤ n → after I v ch s0 L m = after I v ch s0 L' m := by
  intro m
  induction m with
  | zero => intro _; rfl
  | succ m ih => intro hm; simp only [after, ih (by omega), h m (by omega)]
end
end Go.Pw
end
section
namespace Go.Pw
set_option linter.unusedSimpArgs false
set_option linter.unusedVariables false

/-- The states along the order of the text. -/
def stL : List (Ins × List Nat) → List (AV × Chg) → PSt → Nat → PSt
  | (I, _) :: l, r :: tr, s, k + 1 => stL l tr (put s I.dst r.1 r.2) k
  | _, _, s, _ => s

def recL : List (Ins × List Nat) → List (AV × Chg) → PSt → List Rec
  | (I, _) :: l, r :: tr, s => (r.2.site, foot1 I s) :: recL l tr (put s I.dst r.1 r.2)
  | _, _, _ => []

variable {E : Env}

theorem recL_get : ∀ {l : List (Ins × List Nat)} {tr : List (AV × Chg)} {s : PSt} {k : Nat} {I : Ins} {dy : List Nat} {r : AV × Chg}, l[k]? = some (I, dy) → tr[k]? = some r →
    (recL l tr s)[k]? = some (r.2.site, foot1 I (stL l tr s k))
  | [], _, _, _, _, _, _, h, _ => by simp at h
  | _ :: _, [], _, _, _, _, _, _, h => by simp at h
  | (J, dj) :: l, q :: tr, s, 0, I, dy, r, h1, h2 => by
    simp at h1 h2; obtain ⟨rfl, rfl⟩ := h1; subst h2; simp [recL, stL]
  | (J, dj) :: l, q :: tr, s, k + 1, I, dy, r, h1, h2 => by
    simp at h1 h2
    simp only [recL, stL, List.getElem?_cons_succ]
    exact recL_get h1 h2

theorem stL_succ : ∀ {l : List (Ins × List Nat)} {tr : List (AV × Chg)} {s : PSt} {k : Nat} {I : Ins} {dy : List Nat} {r : AV × Chg}, l[k]? = some (I, dy) → tr[k]? = some r →
    stL l tr s (k + 1) = put (stL l tr s k) I.dst r.1 r.2
  | [], _, _, _, _, _, _, h, _ => by simp at h
  | _ :: _, [], _, _, _, _, _, _, h => by simp at h
  | (J, dj) :: l, q :: tr, s, 0, I, dy, r, h1, h2 => by
    simp at h1 h2; obtain ⟨rfl, rfl⟩ := h1; subst h2
    simp only [stL]
  | (J, dj) :: l, q :: tr, s, k + 1, I, dy, r, h1, h2 => by
    simp at h1 h2
    simp only [stL]
    exact stL_succ h1 h2

theorem trace : ∀ {l : List (Ins × List Nat)} {rec : List Rec} {s : PSt} {K : PSt → Prop}, seqD E l rec s K → ∃ tr : List (AV × Chg), tr.length = l.length ∧ K (stL l tr s l.length) ∧
    ∀ (k : Nat) (I : Ins) (dy : List Nat) (r : AV × Chg), l[k]? = some (I, dy) → tr[k]? = some r →
      (∀ o, o ∈ r.2.site → o ∈ wfp1 I (stL l tr s k)) ∧
      (∀ s' K', (∀ t, t ∈ I.reads → s'.sl t = (stL l tr s k).sl t) → AgreeV (foot1 I (stL l tr s k)) (stL l tr s k).V s'.V → K' r.1 r.2 → stepI E I s' K') ∧
      (∀ j, j ∈ dy → ∃ q, (rec ++ recL l tr s)[j]? = some q ∧ apartS q (r.2.site, foot1 I (stL l tr s k)) = true)
  | [], rec, s, K, h => ⟨[], rfl, h, fun k I dy r hk => by simp at hk⟩
  | (I, dy) :: l, rec, s, K, h => by
    simp only [seqD] at h
    obtain ⟨v, ch, ⟨hdy, hK⟩, hw, hloc⟩ := stepI_loc h
    obtain ⟨tr, h1, h2, h3⟩ := trace hK
    refine ⟨(v, ch) :: tr, by simp [h1], by simpa [stL] using h2, fun k J dj r hk hr => ?_⟩
    cases k with
    | zero =>
      simp at hk hr
      obtain ⟨rfl, rfl⟩ := hk
      subst hr
      simp only [stL]
      refine ⟨hw, hloc, fun j hj => ?_⟩
      have := List.all_eq_true.1 hdy j hj
      split at this
      · rename_i q hq
        refine ⟨q, ?_, this⟩
        rw [List.getElem?_append_left (List.getElem?_eq_some_iff.1 hq).1]; exact hq
      · cases this
    | succ k =>
      simp at hk hr
      obtain ⟨a1, a2, a3⟩ := h3 k J dj r hk hr
      simp only [stL]
      refine ⟨a1, a2, fun j hj => ?_⟩
      obtain ⟨q, hq, hq2⟩ := a3 j hj
      refine ⟨q, ?_, hq2⟩
      simpa [recL, List.append_assoc] using hq

def apartI (J I : Ins) : Bool :=
  (match J.dst with | some t => !I.reads.contains t && I.dst != some t | none => true) && (match I.dst with | some t => !J.reads.contains t | none => true)

def trivF : Foot → Foot → Bool
  | .none, _ => true
  | _, .none => true
  | .read, .read => true
  | _, _ => false

def okD (ops : List Oper) (pre : List (List Nat)) (dis : List (Ins × List Nat)) : Bool :=
  (List.range ops.length).all fun k =>
    match ops[k]?, dis[k]?, pre[k]? with
    | some o, some (I, dy), some p =>
       (o.after.toList.all fun e => !Region.binds .any e || decide (e.on < k)) &&
       (p.all fun j => o.after.toList.any fun e => Region.binds .any e && (e.on == j || (match pre[e.on]? with | some q => q.contains j | none => false))) &&
       ((List.range k).all fun j => p.contains j || (match dis[j]? with | some (J, _) => apartI J I && (dy.contains j || trivF J.op.foot I.op.foot) | none => false))
    | _, _, _ => false

theorem okD_at {ops : List Oper} {pre : List (List Nat)} {dis : List (Ins × List Nat)} (h : okD ops pre dis = true) {k : Nat} (hk : k < ops.length) : ∃ o I dy p, ops[k]? = some o ∧ dis[k]? = some (I, dy) ∧ pre[k]? = some p ∧
    (∀ e, e ∈ o.after.toList → Region.binds .any e = true → e.on < k) ∧ (∀ j, j ∈ p → ∃ e, e ∈ o.after.toList ∧ Region.binds .any e = true ∧ (e.on = j ∨ ∃ q, pre[e.on]? = some q ∧ j ∈ q)) ∧
    (∀ j, j < k → j ∉ p → ∃ J dj, dis[j]? = some (J, dj) ∧ apartI J I = true ∧ (j ∈ dy ∨ trivF J.op.foot I.op.foot = true)) := by
  have := List.all_eq_true.1 h k (by simpa using hk)
  split at this
  · rename_i o I dy p h1 h2 h3
    simp only [Bool.and_eq_true] at this
    obtain ⟨⟨a, b⟩, c⟩ := this
    refine ⟨o, I, dy, p, h1, h2, h3, fun e he hb => ?_, fun j hj => ?_, fun j hj hjp => ?_⟩
    · have := List.all_eq_true.1 a e he
      simpa [hb] using this
    · have := List.all_eq_true.1 b j hj
      obtain ⟨e, he, h4⟩ := List.any_eq_true.1 this
      simp only [Bool.and_eq_true, Bool.or_eq_true, beq_iff_eq] at h4
      refine ⟨e, he, h4.1, h4.2.imp id fun h5 => ?_⟩
      split at h5
      · rename_i q hq; exact ⟨q, hq, by simpa using h5⟩
      · cases h5
    · have := List.all_eq_true.1 c j (by simpa using hj)
      have hnp : p.contains j = false := by simpa using hjp
      rw [hnp, Bool.false_or] at this
      split at this
      · rename_i J dj hJ
        simp only [Bool.and_eq_true, Bool.or_eq_true] at this
        exact ⟨J, dj, hJ, this.1, this.2.imp (by simp) id⟩
      · cases this
  · cases this

theorem apartI_spec {J I : Ins} (h : apartI J I = true) : (∀ t, J.dst = some t → t ∉ I.reads) ∧ (∀ t, I.dst = some t → t ∉ J.reads) ∧ (∀ t, J.dst = some t → I.dst ≠ some t) := by
  unfold apartI at h
  simp only [Bool.and_eq_true] at h
  refine ⟨fun t ht => ?_, fun t ht => ?_, fun t ht => ?_⟩
  · rw [ht] at h; simp at h; exact h.1.1
  · rw [ht] at h; simp at h; exact h.2
  · rw [ht] at h; simp at h; exact h.1.2

theorem triv_free {J I : Ins} {s s' : PSt} {a b : Chg} (h : trivF J.op.foot I.op.foot = true) (ha : ∀ o, o ∈ a.site → o ∈ wfp1 J s) (hb : ∀ o, o ∈ b.site → o ∈ wfp1 I s') :
    (∀ o, o ∈ a.site → o ∉ foot1 I s') ∧ ∀ o, o ∈ b.site → o ∉ foot1 J s := by
  unfold wfp1 wfp at ha hb
  unfold foot1 fp
  cases hJ : J.op.foot <;> cases hI : I.op.foot <;> simp_all [trivF]

section
variable {c : Ctx} {β : Nat → Nat → Value} {s : PSt} {a : Act} {w : World} {K : PSt → Prop}

theorem getD_set_listed {listed : Array Bool} {i : Nat} (hi : i < listed.size) (k : Nat) (d : Bool) : (listed.setIfInBounds i true).getD k d = if k = i then true else listed.getD k d := by
  by_cases h : k = i
  · subst h; simp [Array.getD_eq_getD_getElem?, hi]
  · simp [Array.getD_eq_getD_getElem?, Array.getElem?_setIfInBounds_ne (Ne.symm h), h]

theorem count_le {p q : Nat → Bool} {i : Nat} : ∀ {l : List Nat}, l.Nodup → i ∈ l → p i = true → (∀ k, q k = if k = i then false else p k) → (l.filter q).length + 1 = (l.filter p).length
  | [], _, h, _, _ => by cases h
  | x :: l, hn, hi, hp, hq => by
    rw [List.nodup_cons] at hn
    by_cases hx : x = i
    · subst hx
      have hqx : q x = false := by rw [hq]; simp
      have hrest : l.filter q = l.filter p := List.filter_congr fun y hy => by
        rw [hq]; have : y ≠ x := fun e => hn.1 (e ▸ hy)
        simp [this]
      simp [List.filter_cons, hqx, hp, hrest]
    · have hil : i ∈ l := by
        cases hi with
        | head => exact absurd rfl hx
        | tail _ h => exact h
      have ih := count_le hn.2 hil hp hq
      have hqx : q x = p x := by rw [hq]; simp [hx]
      cases hpx : p x <;> simp [List.filter_cons, hqx, hpx] <;> omega

theorem count_set {listed : Array Bool} {n i fuel : Nat} (hi : i < listed.size) (hin : i < n) (h : listed.getD i false = false) (hc : ((List.range n).filter fun k => !listed.getD k false).length = fuel + 1) :
    ((List.range n).filter fun k => !(listed.setIfInBounds i true).getD k false).length = fuel := by
  have := count_le (p := fun k => !listed.getD k false) (q := fun k => !(listed.setIfInBounds i true).getD k false) (i := i) (l := List.range n) List.nodup_range (by simpa using hin) (by simp [h]) (fun k => by
    rw [getD_set_listed hi]; split <;> simp)
  omega

/-- ANY ORDER DOES WHAT THE ORDER OF THE TEXT DOES. -/
theorem draw_sound {fl : List Nat} {ns : Nat} {ops : List Oper} {dis : List (Ins × List Nat)} {pre : List (List Nat)} {Q : Exit → Act → World → Prop} (hdec : ∀ (k : Nat) (o : Oper) (I : Ins) (dy : List Nat), ops[k]? = some o → dis[k]? = some (I, dy) → decI E true fl ns ops o = some I) (hlen : dis.length = ops.length) (hok : okD ops pre dis = true)
    (h : Rel E c β s a.tmps w) (hn : a.tmps.size = ns) (hs : seqD E dis [] s K) (hQ : ∀ s' β' tm' w', K s' → Rel E c β' s' tm' w' → tm'.size = ns → Q .normal ⟨tm', a.defers⟩ w') :
    wpAny E.P .any ops.toArray Q ops.length (Array.replicate ops.length false) a w := by
  obtain ⟨tr, htl, hK, htr⟩ := trace hs
  -- the functions
  let I : Nat → Ins := fun k => (dis.getD k default).1
  let v : Nat → AV := fun k => (tr.getD k (.undef, .none)).1
  let ch : Nat → Chg := fun k => (tr.getD k (.undef, .none)).2
  let F : Nat → List Nat := fun k => foot1 (I k) (stL dis tr s k)
  have hI : ∀ {k J dy}, dis[k]? = some (J, dy) → I k = J := fun {k J dy} h => by simp [I, List.getD, h]
  have hr : ∀ {k r}, tr[k]? = some r → v k = r.1 ∧ ch k = r.2 := fun {k r} h => by simp [v, ch, List.getD, h]
  have hst : ∀ k, k ≤ ops.length → after I v ch s (fun _ => true) k = stL dis tr s k := by
    intro k
    induction k with
    | zero => intro _; cases dis <;> cases tr <;> rfl
    | succ k ih =>
      intro hk
      have h1 : dis[k]? = some dis[k] := List.getElem?_eq_getElem (by omega)
      have h2 : tr[k]? = some tr[k] := List.getElem?_eq_getElem (by omega)
      simp only [after, if_true, ih (by omega)]
      rw [stL_succ h1 h2, hI h1, (hr h2).1, (hr h2).2]
  have hsite : ∀ i o, i < ops.length → o ∈ (ch i).site → o ∈ F i := by
    intro i o hi ho
    have h1 : dis[i]? = some dis[i] := List.getElem?_eq_getElem (by omega)
    have h2 : tr[i]? = some tr[i] := List.getElem?_eq_getElem (by omega)
    rw [(hr h2).2] at ho
    have := (htr i _ _ _ h1 h2).1 o ho
    show o ∈ foot1 (I i) _
    rw [hI h1]; exact wfp_fp this
  -- pairs without an order
  have hfree : ∀ j k p, j < k → k < ops.length → pre[k]? = some p → j ∉ p → Free I ch F j k := by
    intro j k p hjk hk hp hjp
    obtain ⟨o, Ik, dy, p', h1, h2, h3, h4, h5, h6⟩ := okD_at hok hk
    rw [hp] at h3; simp at h3; subst h3
    obtain ⟨J, dj, h7, h8, h9⟩ := h6 j hjk hjp
    have g1 : tr[k]? = some tr[k] := List.getElem?_eq_getElem (by omega)
    have g2 : tr[j]? = some tr[j] := List.getElem?_eq_getElem (by omega)
    obtain ⟨d1, d2, d3⟩ := apartI_spec h8
    have key : (∀ o, o ∈ (ch j).site → o ∉ F k) ∧ ∀ o, o ∈ (ch k).site → o ∉ F j := by
      show (∀ o, o ∈ (ch j).site → o ∉ foot1 (I k) _) ∧ ∀ o, o ∈ (ch k).site → o ∉ foot1 (I j) _
      rw [hI h2, hI h7, (hr g1).2, (hr g2).2]
      rcases h9 with h9 | h9
      · obtain ⟨q, hq, hq2⟩ := (htr k _ _ _ h2 g1).2.2 j h9
        rw [List.nil_append, recL_get h7 g2] at hq
        simp at hq; subst hq
        simp only [apartS, Bool.and_eq_true] at hq2
        refine ⟨fun o ho => ?_, fun o ho => ?_⟩
        · have := List.all_eq_true.1 hq2.1 o ho; simpa using this
        · have := List.all_eq_true.1 hq2.2 o ho; simpa using this
      · exact triv_free h9 (htr j _ _ _ h7 g2).1 (htr k _ _ _ h2 g1).1
    exact ⟨by rw [hI h2, hI h7]; exact d1, by rw [hI h2, hI h7]; exact d2, by rw [hI h2, hI h7]; exact d3, key.1, key.2⟩
  -- sets that are closed downwards
  have hclosed : ∀ (L : Nat → Bool), (∀ k o, ops[k]? = some o → L k = true → ∀ e, e ∈ o.after.toList → Region.binds .any e = true → L e.on = true) → ∀ k, k < ops.length → ∀ p, pre[k]? = some p →
      (∀ o, ops[k]? = some o → ∀ e, e ∈ o.after.toList → Region.binds .any e = true → L e.on = true) → ∀ j, j ∈ p → L j = true := by
    intro L hL k
    induction k using Nat.strongRecOn with
    | _ k ih =>
      intro hk p hp hpre j hj
      obtain ⟨o, Ik, dy, p', h1, h2, h3, h4, h5, h6⟩ := okD_at hok hk
      rw [hp] at h3; simp at h3; subst h3
      obtain ⟨e, he, hb, h7⟩ := h5 j hj
      have hlt := h4 e he hb
      have hLe := hpre o h1 e he hb
      rcases h7 with h7 | ⟨q, hq, hjq⟩
      · rw [← h7]; exact hLe
      · refine ih e.on hlt (by omega) q hq (fun o' ho' e' he' hb' => hL e.on o' ho' hLe e' he' hb') j hjq
  have main : ∀ (fuel : Nat) (listed : Array Bool) (tm : Array Value) (β : Nat → Nat → Value) (w : World), listed.size = ops.length → ((List.range ops.length).filter fun k => !listed.getD k false).length = fuel →
      (∀ k o, ops[k]? = some o → listed.getD k false = true → ∀ e, e ∈ o.after.toList → Region.binds .any e = true → listed.getD e.on false = true) →
      Rel E c β (after I v ch s (fun k => listed.getD k false) ops.length) tm w → tm.size = ns → wpAny E.P .any ops.toArray Q fuel listed ⟨tm, a.defers⟩ w := by
    intro fuel
    induction fuel with
    | zero =>
      intro listed tm β w hsz hcount hcl hrel htm
      have hall : ∀ k, k < ops.length → listed.getD k false = true := by
        intro k hk
        have hnil := List.eq_nil_of_length_eq_zero hcount
        have : k ∉ (List.range ops.length).filter fun k => !listed.getD k false := by rw [hnil]; simp
        simpa [hk] using this
      refine ⟨?_, ?_⟩
      · cases hre : Region.ready .any ops.toArray listed with
        | nil => rfl
        | cons i rest =>
          have hi : i ∈ Region.ready .any ops.toArray listed := by rw [hre]; simp
          simp only [Region.ready, List.mem_filter, List.mem_range, List.size_toArray, Bool.and_eq_true] at hi
          have := hall i hi.1
          have hi2 := hi.2.1
          have hlt : i < listed.size := by omega
          simp [Array.getD_eq_getD_getElem?, hlt] at this hi2
          rw [this] at hi2; cases hi2
      · refine hQ _ β tm w ?_ hrel htm
        have := after_congr (I := I) (v := v) (ch := ch) (s0 := s) (L := fun k => listed.getD k false) (L' := fun _ => true) (n := ops.length) hall ops.length (Nat.le_refl _)
        rw [this, hst _ (Nat.le_refl _), ← hlen]; exact hK
    | succ fuel ih =>
      intro listed tm β w hsz hcount hcl hrel htm
      refine ⟨fun hnil => ?_, fun i hi => ?_⟩
      · -- the least that is not listed is ready
        exfalso
        have hex : ∃ k, k < ops.length ∧ listed.getD k false = false := by
          cases hf : (List.range ops.length).filter fun k => !listed.getD k false with
          | nil => rw [hf] at hcount; cases hcount
          | cons k rest =>
            have : k ∈ (List.range ops.length).filter fun k => !listed.getD k false := by rw [hf]; simp
            exact ⟨k, by simpa using this⟩
        have hmin : ∃ k, k < ops.length ∧ listed.getD k false = false ∧ ∀ j, j < k → listed.getD j false = true := by
          obtain ⟨k, hk⟩ := hex
          induction k using Nat.strongRecOn with
          | _ k ihk =>
            by_cases hall : ∀ j, j < k → listed.getD j false = true
            · exact ⟨k, hk.1, hk.2, hall⟩
            · simp only [Classical.not_forall] at hall
              obtain ⟨j, hj, hjl⟩ := hall
              exact ihk j hj ⟨by omega, by simpa using hjl⟩
        obtain ⟨k, hk, hkl, hbelow⟩ := hmin
        obtain ⟨o, Ik, dy, p, h1, h2, h3, h4, h5, h6⟩ := okD_at hok hk
        have : k ∈ Region.ready .any ops.toArray listed := by
          simp only [Region.ready, List.mem_filter, List.mem_range, List.size_toArray, Bool.and_eq_true]
          refine ⟨hk, ?_, ?_⟩
          · have hlt : k < listed.size := by omega
            simp [Array.getD_eq_getD_getElem?, hlt] at hkl ⊢; exact hkl
          · simp only [List.getElem?_toArray, h1, Option.map_some, Option.getD_some, Array.all_eq_true', Bool.or_eq_true, Bool.not_eq_true']
            intro e he
            by_cases hb : Region.binds .any e = true
            · exact .inr (hbelow _ (h4 e (by simpa using he) hb))
            · exact .inl (by simpa using hb)
        rw [hnil] at this; cases this
      · simp only [Region.ready, List.mem_filter, List.mem_range, List.size_toArray, Bool.and_eq_true] at hi
        obtain ⟨hin, hil, hia⟩ := hi
        have hlt : i < listed.size := by omega
        have hil' : listed.getD i false = false := by
          simp [Array.getD_eq_getD_getElem?, hlt] at hil ⊢; exact hil
        obtain ⟨o, Ii, dy, p, h1, h2, h3, h4, h5, h6⟩ := okD_at hok hin
        simp only [List.getElem?_toArray, h1, Option.map_some, Option.getD_some, Array.all_eq_true', Bool.or_eq_true, Bool.not_eq_true'] at hia
        have hpre : ∀ e, e ∈ o.after.toList → Region.binds .any e = true → listed.getD e.on false = true := fun e he hb => by
          rcases hia e (by simpa using he) with h | h
          · rw [hb] at h; cases h
          · exact h
        have g2 : tr[i]? = some tr[i] := List.getElem?_eq_getElem (by omega)
        have hun1 : ∀ j, j < i → listed.getD j false = false → Free I ch F j i := fun j hj hjl => by
          refine hfree j i p hj hin h3 fun hjp => ?_
          have := hclosed (fun k => listed.getD k false) hcl i hin p h3 (fun o' ho' e he hb => by rw [h1] at ho'; simp at ho'; subst ho'; exact hpre e he hb) j hjp
          rw [hjl] at this; cases this
        have hun2 : ∀ j, i < j → j < ops.length → listed.getD j false = true → Free I ch F i j := fun j hj hjn hjl => by
          obtain ⟨oj, Ij, dyj, pj, k1, k2, k3, k4, k5, k6⟩ := okD_at hok hjn
          refine hfree i j pj hj hjn k3 fun hip => ?_
          have := hclosed (fun k => listed.getD k false) hcl j hjn pj k3 (fun o' ho' e he hb => hcl j o' ho' hjl e he hb) i hip
          rw [hil'] at this; cases this
        have hag := after_agree (I := I) (v := v) (ch := ch) (s0 := s) (F := F) (L := fun k => listed.getD k false) (k := i) (n := ops.length) (by omega) hil' hun1 fun j hj hjn hjl => (hun2 j hj hjn hjl).symm
        have hins := after_insert (I := I) (v := v) (ch := ch) (s0 := s) (F := F) (L := fun k => listed.getD k false) (L' := fun k => (listed.setIfInBounds i true).getD k false) (k := i) (n := ops.length) hin hil' (fun k => getD_set_listed hlt k false) (fun j hj hjn hjl => (hun2 j hj hjn hjl).symm) hsite
        rw [hst i (by omega)] at hag
        have hstep : stepI E Ii (after I v ch s (fun k => listed.getD k false) ops.length) (fun v' ch' => v' = v i ∧ ch' = ch i) := by
          refine (htr i _ _ _ h2 g2).2.1 _ _ (fun t ht => ?_) ?_ ⟨(hr g2).1.symm, (hr g2).2.symm⟩
          · have := hag.1 t (by rw [hI h2]; exact ht)
            exact this
          · have := hag.2
            show AgreeV (foot1 Ii _) _ _
            have hF : F i = foot1 Ii (stL dis tr s i) := by show foot1 (I i) _ = _; rw [hI h2]
            rw [← hF]; exact this
        unfold wpOp
        simp only [List.getElem?_toArray, h1]
        refine step_sound (a := ⟨tm, a.defers⟩) hrel (hdec i o Ii dy h1 h2) htm hstep fun v' ch' β' tm' w' hvc hrel' htm' => ?_
        obtain ⟨rfl, rfl⟩ := hvc
        refine ih (listed.setIfInBounds i true) tm' β' w' (by simpa using hsz) ?_ (fun k o' ho' hk e he hb => ?_) ?_ htm'
        · exact count_set hlt hin hil' hcount
        · rw [getD_set_listed hlt] at hk ⊢
          split
          · rfl
          · split at hk
            · rename_i hki; subst hki
              rw [h1] at ho'; simp at ho'; subst ho'
              exact hpre e he hb
            · exact hcl k o' ho' hk e he hb
        · rw [hins, hI h2]; exact hrel'
  have h0 : after I v ch s (fun k => (Array.replicate ops.length false).getD k false) ops.length = s := by
    have hf : ∀ k, (Array.replicate ops.length false).getD k false = false := fun k => by
      simp only [Array.getD_eq_getD_getElem?, Array.getElem?_replicate]; split <;> rfl
    have : ∀ m, after I v ch s (fun k => (Array.replicate ops.length false).getD k false) m = s := by
      intro m
      induction m with
      | zero => rfl
      | succ m ih =>
        simp only [after]
        rw [if_neg (by rw [hf]; simp)]; exact ih
    exact this _
  have hf : ∀ k, (Array.replicate ops.length false).getD k false = false := fun k => by
    simp only [Array.getD_eq_getD_getElem?, Array.getElem?_replicate]; split <;> rfl
  refine main ops.length _ a.tmps β w (by simp) ?_ (fun k o ho hk => by rw [hf] at hk; cases hk) (by rw [h0]; exact h) hn
  have : ((List.range ops.length).filter fun k => !(Array.replicate ops.length false).getD k false) = List.range ops.length := by
    rw [List.filter_eq_self]; intro k _; rw [hf]; rfl
  rw [this]; simp
end
end Go.Pw
end
