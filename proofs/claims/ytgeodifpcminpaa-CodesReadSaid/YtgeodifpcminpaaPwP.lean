/- Slice literals; append. -/
import Derived.Test.YtgeodifpcminpaaPwO
import Derived.Great.BuildSlice
set_option linter.all false
namespace Go.Pw
open Go.RowKit
set_option linter.unusedSimpArgs false
set_option linter.unusedVariables false

section
variable {E : Env} {c : Ctx} {β : Nat → Nat → Value} {s : PSt} {tm : Array Value} {w : World} {K : AV → Chg → Prop}

/-- A slice literal lies in a new block. -/
theorem run_lit {ty e : TypeId} {ie : TypeInfo} {z : D} {len : Nat} (ht : E.P.underlying ty = some (.slice e)) (hi : E.P.info? e = some ie) (hz : zeroD E.P e = some z) (hpos : 0 < ie.size) (hzl : z.cells.length = ie.size)
    (hsmall : len * ie.size ≤ 16777216) {ix : List Nat} {xs : List AV} {us : List Value} {l : List D} (hix : ix.length = xs.length) (hxs : ValsR (AVRep w (c.bar β s.V) β s.V.cn) xs us)
    (hf : fillR ie.size (List.replicate len z) (ix.zip xs) = some l) {parts : Array (Nat × Value)} (hparts : parts.toList = ix.zip us) (h : Rel E c β s tm w) :
    ∃ cells, (Instr.buildSlice ty len parts).run E.P w = .ok (.slice (some ⟨w.heap.size, 0, none⟩) len len) (w.alloc (.cells cells e)) ∧ l.length = len ∧
      ∀ fb', (∀ b, b < w.heap.size → fb' b → c.bar β s.V b) → RowRep (w.alloc (.cells cells e)) fb' e ie.size false l (.slice (some ⟨w.heap.size, 0, none⟩) len len) := by
  obtain ⟨i', zv, hi', hzv, hzr, hz1, hzs, hzc⟩ := zeroD_val hz
  rw [hi] at hi'; simp at hi'; subst hi'
  have hu0 : Unif ie.size (List.replicate len z) := fun y hy => by rw [List.eq_of_mem_replicate hy]; exact hzl
  have hfl := flatD_length hu0
  have hones : ∀ y, y ∈ flatD (List.replicate len z) → y.one = true := fun y hy => by
    simp only [flatD, List.mem_flatMap] at hy
    obtain ⟨q, hq, hy⟩ := hy
    rw [List.eq_of_mem_replicate hq] at hy; exact hz1 y hy
  have hc0 : CellsR (DRep w (c.bar β s.V)) (flatD (List.replicate len z)) (madeCells zv.cells (len * ie.size)) := by
    refine ⟨by rw [size_madeCells, hfl]; simp, fun q y u hq hu => ?_⟩
    obtain ⟨a1, a2⟩ := flatD_replicate hzl hpos hq
    obtain ⟨u', hu', hd⟩ := hzc w (c.bar β s.V) _ _ a2
    have := madeCells_get (z := zv.cells) (n := len) (es := ie.size) (by omega) a1 (Nat.mod_lt q hpos)
    rw [Nat.mul_comm (q / ie.size), Nat.div_add_mod, hu, hu'] at this
    simp at this; subst this; exact hd
  obtain ⟨cells, g1, g2, g3, g4, g5⟩ := fill_row ix xs us _ l _ hix hxs hu0 hones hc0 hf
  have hlen : l.length = len := by simpa using g5
  refine ⟨cells, ?_, hlen, fun fb' hfb => ?_⟩
  · by_cases h0 : len = 0
    · subst h0
      have hmc : madeCells zv.cells (0 * ie.size) = #[] := by simp [madeCells, Array.range_zero']
      rw [hmc] at g1
      have hs : sizeOf e = (do pure (← typeInfo e).size) := rfl
      simp [Instr.buildSlice, run_underlying ht, sizeOf, typeInfo, hi, newRow, hparts, Array.range_zero', g1]
    · have := run_buildSlice (P := E.P) w ty e len parts cells ie zv ht hi hzv (by omega) (by have := Nat.mul_pos (Nat.pos_of_ne_zero h0) hpos; omega) (by rw [hparts]; exact g1)
      exact this
  · have := rowRep_of (w' := w.alloc (.cells cells e)) (fb := fb') (ety := e) (es := ie.size) (l := l) (b := w.heap.size) (cap := len) (cur := cells) (heap_alloc_new w _) (by omega) (by unfold maxLen; have : len ≤ len * ie.size := Nat.le_mul_of_pos_right _ hpos; omega)
      (by rw [g2.1, flatD_length g3, hlen]; exact Nat.le_refl _) hpos g3 (fun x y hx hy => g4 y (List.mem_flatMap.2 ⟨x, hx, hy⟩)) (fun q y hq => by
        obtain ⟨u, hu⟩ : ∃ u, cells[q]? = some u := ⟨_, Array.getElem?_eq_getElem (by have := (List.getElem?_eq_some_iff.1 hq).1; have := g2.1; omega)⟩
        exact ⟨u, hu, (g2.2 q y u hq hu).mono (.of_below (below_alloc w _)) hfb⟩)
    rwa [hlen] at this

theorem sound_mkrowO (h : Rel E c β s tm w) {t : Nat} {ty e : TypeId} {ie : TypeInfo} {z : D} {len : Nat} (ht : E.P.underlying ty = some (.slice e)) (hi : E.P.info? e = some ie) (hz : zeroD E.P e = some z) (hpos : 0 < ie.size) (hzl : z.cells.length = ie.size)
    (hsmall : len * ie.size ≤ 16777216) {ix : List Nat} {xs : List AV} {us : List Value} (hxs : ValsR (AVRep w (c.bar β s.V) β s.V.cn) xs us) {parts : Array (Nat × Value)} (hparts : parts.toList = ix.zip us)
    (he : ev E (some t) s.V (.mkrowO e ie.size z len ix) xs K) : GotV E c s tm K ((Instr.buildSlice ty len parts).run E.P w) := by
  unfold ev at he
  simp only at he
  split at he
  · rename_i t' l h1 hf
    simp only [Option.some.injEq] at h1; subst h1
    obtain ⟨hlim, hix, he⟩ := he
    obtain ⟨cells, hrun, hlen, hrow⟩ := run_lit ht hi hz hpos hzl hsmall hix hxs hf hparts h
    obtain ⟨β', h5, h6⟩ := fresh_row h (t := t) hlim (below_alloc w _) (vo := .slice (some ⟨w.heap.size, 0, none⟩) len len) rfl (fun b hb => by simp [rowBlk] at hb; subst hb; exact ⟨Nat.le_refl _, by simp⟩) hrow
    exact ⟨_, _, _, _, β', hrun, he, h5, h6⟩
  · exact he.elim

theorem sound_mkrow (h : Rel E c β s tm w) {dst : Option Nat} {ty e : TypeId} {ie : TypeInfo} {z : D} {len : Nat} (ht : E.P.underlying ty = some (.slice e)) (hi : E.P.info? e = some ie) (hz : zeroD E.P e = some z) (hpos : 0 < ie.size) (hzl : z.cells.length = ie.size)
    (hsmall : len * ie.size ≤ 16777216) {ix : List Nat} {xs : List AV} {us : List Value} (hxs : ValsR (AVRep w (c.bar β s.V) β s.V.cn) xs us) {parts : Array (Nat × Value)} (hparts : parts.toList = ix.zip us)
    (he : ev E dst s.V (.mkrow ie.size z len ix) xs K) : GotV E c s tm K ((Instr.buildSlice ty len parts).run E.P w) := by
  unfold ev at he
  simp only at he
  split at he
  · rename_i l hf
    obtain ⟨hix, he⟩ := he
    obtain ⟨cells, hrun, hlen, hrow⟩ := run_lit ht hi hz hpos hzl hsmall hix hxs hf hparts h
    have hrel := h.grow (below_alloc w (.cells cells e))
    refine ⟨_, _, _, .none, β, hrun, he, hrel, ?_⟩
    have := listRep_of_row (hrow _ fun b _ hb => hb) fun b hb hbar => by
      simp [rowBlk] at hb; subst hb
      have := bar_lt h hbar; omega
    subst hlen
    exact .ex l _ this
  · exact he.elim

/-- What is appended, in the model's own words: so many elements, whose cells are known. -/
def Src (P : Program) (w : World) (i : TypeInfo) (z : Value) (tx : TypeId) (x : Value) (n : Nat) (news : List Value) : Prop :=
  (∃ e', P.underlying tx = some (.slice e') ∧ ((x = .slice none 0 0 ∧ n = 0 ∧ news = []) ∨
    ∃ a cap, x = .slice (some a) n cap ∧ news.length = n * i.size ∧ ∀ (j : Nat) (v : Value), news[j]? = some v → w.cell? (a.add j) = some v)) ∨
  (P.underlying tx = some (.int .i64) ∧ x = .int .i64 n ∧ n ≤ bound ∧ i.bytes ≤ 131072 ∧ news = (Builtin.zeroCells z.cells n).toList ∧ z.cells.size = i.size ∧ 0 < i.size)

theorem wrap_small {n : Nat} (h : n ≤ bound) : IntKind.i64.wrap (n : Int) = n := by
  have h' : n ≤ 1073741824 := h
  rw [IntKind.wrap_i64]; omega

section
variable {P : Program} {w : World}

theorem zeroCells_nil {z : Array Value} {n : Nat} (h : n * z.size = 0) : Builtin.zeroCells z n = #[] := by simp [Builtin.zeroCells, h]

/-- Room: the cells are laid behind the others. -/
theorem run_app_room {t tx ty e : TypeId} {i : TypeInfo} {z : Value} (ht : P.underlying t = some (.slice e)) (hi : P.info? e = some i) (hz : i.zero = some z) {x : Value} {n : Nat} {news : List Value} (hs : Src P w i z tx x n news)
    {b off sLen sCap : Nat} {cur : Array Value} (hb : w.heap[b]? = some (.cells cur e (0, 0))) (hroom : sLen + n ≤ sCap) (hfit : off + sLen * i.size + news.length ≤ cur.size) (h1 : ∀ v, v ∈ news → v.oneCell' = true) :
    (Builtin.append_ #[t, tx] ty #[.slice (some ⟨b, off, none⟩) sLen sCap, x]).run P w = .ok (.slice (some ⟨b, off, none⟩) (sLen + n) sCap) (w.setRow b (splice cur.toList (off + sLen * i.size) news).toArray) := by
  have hst := run_storeCells_at P b (off + sLen * i.size) e news 0 cur w hb (by simpa using hfit) h1
  simp only [Nat.add_zero] at hst
  rcases hs with ⟨e', hx, ⟨rfl, rfl, rfl⟩ | ⟨a, cap, rfl, hl, hnews⟩⟩ | ⟨hx, rfl, hn, hby, rfl, hzs, hpos⟩
  · simp only [List.append_nil, List.length_nil, Nat.add_zero] at hst
    simp [Builtin.append_, run_underlying ht, run_underlying hx, sizeOf, typeInfo, hi, Builtin.lenOf, Builtin.firstCells, hroom, Addr.add_lit, splice]
    have : sLen ≤ sCap := by omega
    simp [this]
    simp [storeCells]
    rw [setRow_self w b cur e (0, 0) hb]
  · have hf := run_firstCells_some (P := P) w i.size n a n cap news hl hnews
    simp [Builtin.append_, run_underlying ht, run_underlying hx, sizeOf, typeInfo, hi, Builtin.lenOf, hroom, hf, Addr.add_lit, hst, splice]
  · have hw := wrap_small hn
    have hn' : n ≤ 1073741824 := hn
    have h2 : ¬ (281474976710656 < (n : Int) * (i.bytes : Int)) := by
      have : (n : Int) * (i.bytes : Int) ≤ 1073741824 * 131072 := Int.mul_le_mul (by omega) (by omega) (by omega) (by omega)
      omega
    have hty : ∀ w' : World, (typeInfo e).run P w' = .ok i w' := fun w' => by simp [typeInfo, hi]
    have hzv : ∀ w' : World, (zeroValue e).run P w' = .ok z w' := fun w' => by simp [zeroValue, typeInfo, hi, hz]
    have hne : i.size ≠ 0 := by omega
    have h0 : ¬ ((n : Int) < 0) := by omega
    by_cases hn0 : n = 0
    · subst hn0
      have hzn : (Builtin.zeroCells z.cells 0).toList = [] := by simp [Builtin.zeroCells]
      rw [hzn] at hst ⊢
      have : sLen ≤ sCap := by omega
      have hw0 : IntKind.i64.wrap 0 = 0 := by simpa using hw
      simp [Builtin.append_, run_underlying ht, run_underlying hx, sizeOf, hty, asInt, asIntOf, hw0, this, Addr.add_lit, splice]
      simp [storeCells]
      rw [setRow_self w b cur e (0, 0) hb]
    · simp [Builtin.append_, run_underlying ht, run_underlying hx, sizeOf, hty, hzv, asInt, asIntOf, hw, h0, h2, hroom, hn0, hne, (Nat.mul_ne_zero hn0 hne), Addr.add_lit, hst, splice]

theorem grow_le {need old : Nat} (h : need ≤ 2 * bound) (h0 : old < need) : Builtin.nextslicecap need old ≤ 4 * bound := by
  unfold Builtin.nextslicecap
  split
  · omega
  · split
    · omega
    · have key : ∀ (r c : Nat), c ≤ 4 * bound → Builtin.growBy need r c ≤ 4 * bound := by
        intro r
        induction r with
        | zero => intro c hc; simpa [Builtin.growBy] using hc
        | succ r ih =>
          intro c hc
          simp only [Builtin.growBy]
          split
          · exact hc
          · exact ih _ (by unfold bound at *; omega)
      exact key 4 old (by omega)

/-- No room: all of it lies anew. -/
theorem run_app_grow {t tx ty e : TypeId} {i : TypeInfo} {z : Value} (ht : P.underlying t = some (.slice e)) (hi : P.info? e = some i) (hz : i.zero = some z) (hby : i.bytes ≤ 65536) {x : Value} {n : Nat} {news : List Value} (hs : Src P w i z tx x n news)
    {a : Option Addr} {sLen sCap : Nat} {olds : List Value} (hlo : olds.length = sLen * i.size) (holds : (a = none ∧ sLen = 0) ∨ ∃ ad, a = some ad ∧ ∀ (j : Nat) (v : Value), olds[j]? = some v → w.cell? (ad.add j) = some v)
    (hroom : sCap < sLen + n) (hlen : sLen + n ≤ bound) :
    ∃ cap cur, (Builtin.append_ #[t, tx] ty #[.slice a sLen sCap, x]).run P w = .ok (.slice (some ⟨w.heap.size, 0, none⟩) (sLen + n) cap) (w.drew.alloc (.cells cur e)) ∧ sLen + n ≤ cap ∧ cap ≤ maxLen ∧
      cur = (olds ++ news).toArray ++ Builtin.zeroCells z.cells (cap - (sLen + n)) := by
  refine ⟨grownCap w (sLen + n) sCap e, _, ?_, grownCap_ge w (sLen + n) sCap e, grownCap_le_maxLen w (sLen + n) sCap e (by unfold bound at hlen; unfold maxLen; omega), rfl⟩
  have hgl := grow_le (need := sLen + n) (old := sCap) (by omega) hroom
  have hnr : ¬ (sLen + n ≤ sCap) := by omega
  have h63' : ¬ (9223372036854775807 < ((sLen : Int) + (n : Int))) := by unfold bound at hlen; omega
  have h48' : ¬ (281474976710656 < Builtin.nextslicecap (sLen + n) sCap * i.bytes) := by
    have : Builtin.nextslicecap (sLen + n) sCap * i.bytes ≤ (4 * bound) * 65536 := Nat.mul_le_mul hgl hby
    unfold bound at this; omega
  have hfo : (Builtin.firstCells i.size sLen (.slice a sLen sCap)).run P w.drew = .ok olds.toArray w.drew := by
    rcases holds with ⟨rfl, rfl⟩ | ⟨ad, rfl, hc⟩
    · simp at hlo; subst hlo; simp [Builtin.firstCells]
    · exact run_firstCells_some (P := P) w.drew i.size sLen ad sLen sCap olds hlo (by simpa using hc)
  rcases hs with ⟨e', hx, ⟨rfl, rfl, rfl⟩ | ⟨b, cap, rfl, hl, hnews⟩⟩ | ⟨hx, rfl, hn, hby', rfl, hzs, hpos⟩
  · have : ¬ sLen ≤ sCap := by omega
    have h63'' : ¬ (9223372036854775807 < (sLen : Int)) := by omega
    simp only [Nat.add_zero] at h48'
    simp [Builtin.append_, run_underlying ht, run_underlying hx, sizeOf, typeInfo, zeroValue, hi, hz, Builtin.lenOf, this, h63'', h48', Question.forced, hfo, newRow, grownCap, run_firstCells_none]
  · have hf := run_firstCells_some (P := P) w.drew i.size n b n cap news hl (by simpa using hnews)
    simp [Builtin.append_, run_underlying ht, run_underlying hx, sizeOf, typeInfo, zeroValue, hi, hz, Builtin.lenOf, hnr, h63', h48', Question.forced, hf, hfo, newRow, grownCap]
    congr 2
    apply Array.ext'
    simp [List.append_assoc]
  · have hw := wrap_small hn
    have hn' : n ≤ 1073741824 := hn
    have h2 : ¬ (281474976710656 < (n : Int) * (i.bytes : Int)) := by
      have : (n : Int) * (i.bytes : Int) ≤ 1073741824 * 131072 := Int.mul_le_mul (by omega) (by omega) (by omega) (by omega)
      omega
    have hty : ∀ w' : World, (typeInfo e).run P w' = .ok i w' := fun w' => by simp [typeInfo, hi]
    have hzv : ∀ w' : World, (zeroValue e).run P w' = .ok z w' := fun w' => by simp [zeroValue, typeInfo, hi, hz]
    have hne : i.size ≠ 0 := by omega
    have h0 : ¬ ((n : Int) < 0) := by omega
    by_cases hn0 : n = 0
    · subst hn0
      have hzn : (Builtin.zeroCells z.cells 0).toList = [] := by simp [Builtin.zeroCells]
      have hzn' : (Builtin.zeroCells z.cells 0) = #[] := by simp [Builtin.zeroCells]
      have : ¬ sLen ≤ sCap := by omega
      have h63'' : ¬ (9223372036854775807 < (sLen : Int)) := by omega
      have hw0 : IntKind.i64.wrap 0 = 0 := by simpa using hw
      simp only [Nat.add_zero] at h48'
      simp [Builtin.append_, run_underlying ht, run_underlying hx, sizeOf, hty, hzv, asInt, asIntOf, hw0, this, h63'', h48', Question.forced, hfo, newRow, grownCap, hzn]
    · simp [Builtin.append_, run_underlying ht, run_underlying hx, sizeOf, hty, hzv, asInt, asIntOf, hw, h0, h2, hnr, h63', h48', hn0, hne, (Nat.mul_ne_zero hn0 hne), Question.forced, hfo, newRow, grownCap]
      congr 2
      apply Array.ext'
      simp [List.append_assoc]
end
end
end Go.Pw
