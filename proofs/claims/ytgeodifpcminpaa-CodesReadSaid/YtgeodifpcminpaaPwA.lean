/- Data without memory, and how they are read in a world: the ground of our own library for proofs over the model. -/
import Derived.WalkKit
set_option linter.all false
namespace Go.Pw

/-- An integer within its kind. -/
def InK (k : IntKind) (n : Int) : Prop := k.min ≤ n ∧ n ≤ k.max

/-- Immutable data. -/
inductive D where
  | int (k : IntKind) (n : Int)
  | bool (b : Bool)
  | list (nil : Bool) (xs : List D)
  | agg (cs : List D)
  | ptr (cs : List D)
  | fn (f : FuncId) (cs : List D)
  | tup (xs : List D)
  | nilptr | nilmap | nilfn
  | junk
  deriving Inhabited

def D.cells : D → List D
  | .agg cs => cs
  | d => [d]

/-- Data that take one cell. -/
def D.one : D → Bool
  | .agg _ | .tup _ | .junk => false
  | _ => true

/-- 'v' reads as 'd' in w, outside the blocks 'fb'. -/
inductive DRep (w : World) (fb : Nat → Prop) : D → Value → Prop
  | int (k n) (h : InK k n) : DRep w fb (.int k n) (.int k n)
  | bool (b) : DRep w fb (.bool b) (.bool b)
  | nil : DRep w fb (.list true []) (.slice none 0 0)
  | empty (a cap) (hm : cap ≤ maxLen) : DRep w fb (.list false []) (.slice (some a) 0 cap)
  | list (xs : List D) (es b off cap : Nat) (vs : Nat → Nat → Value) (hcap : xs.length ≤ cap) (hm : cap ≤ maxLen) (hb : ¬ fb b) (hes : 0 < es)
      (hs : ∀ x, x ∈ xs → x.cells.length = es) (h1 : ∀ x c, x ∈ xs → c ∈ x.cells → c.one = true)
      (hc : ∀ (i : Nat) (x : D) (j : Nat) (c : D), xs[i]? = some x → x.cells[j]? = some c → w.cell? ⟨b, off + i * es + j, none⟩ = some (vs i j))
      (hv : ∀ (i : Nat) (x : D) (j : Nat) (c : D), xs[i]? = some x → x.cells[j]? = some c → DRep w fb c (vs i j)) :
      DRep w fb (.list false xs) (.slice (some ⟨b, off, none⟩) xs.length cap)
  | agg (cs : List D) (vs : Array Value) (hl : vs.size = cs.length) (h1 : ∀ c, c ∈ cs → c.one = true) (h : ∀ (i : Nat) (c : D) (v : Value), cs[i]? = some c → vs[i]? = some v → DRep w fb c v) :
      DRep w fb (.agg cs) (.agg vs)
  | ptr (cs : List D) (b off : Nat) (vs : Nat → Value) (hb : ¬ fb b) (hne : cs ≠ []) (h1 : ∀ c, c ∈ cs → c.one = true)
      (hc : ∀ (j : Nat) (c : D), cs[j]? = some c → w.cell? ⟨b, off + j, none⟩ = some (vs j))
      (hv : ∀ (j : Nat) (c : D), cs[j]? = some c → DRep w fb c (vs j)) :
      DRep w fb (.ptr cs) (.pointer (some ⟨b, off, none⟩))
  | fn (f : FuncId) (cs : List D) (vs : Array Value) (hl : vs.size = cs.length) (h : ∀ (i : Nat) (c : D) (v : Value), cs[i]? = some c → vs[i]? = some v → DRep w fb c v) :
      DRep w fb (.fn f cs) (.func (.func f) #[] vs)
  | tup (cs : List D) (vs : Array Value) (hl : vs.size = cs.length) (h : ∀ (i : Nat) (c : D) (v : Value), cs[i]? = some c → vs[i]? = some v → DRep w fb c v) :
      DRep w fb (.tup cs) (.tuple vs)
  | nilptr : DRep w fb .nilptr (.pointer none)
  | nilmap : DRep w fb .nilmap (.map none)
  | nilfn : DRep w fb .nilfn .nilFunc
  | junk (v) : DRep w fb .junk v

/-- What is outside 'fb' stays. -/
def Stays (fb : Nat → Prop) (w w' : World) : Prop := ∀ b, ¬ fb b → b < w.heap.size → w'.heap[b]? = w.heap[b]?

theorem Stays.refl (fb : Nat → Prop) (w : World) : Stays fb w w := fun _ _ _ => rfl

theorem Stays.cell {fb : Nat → Prop} {w w' : World} (h : Stays fb w w') {a : Addr} {v : Value} (hb : ¬ fb a.block) (hc : w.cell? a = some v) : w'.cell? a = some v := by
  rw [World.cell?_of_block (w := w) (h a.block hb (World.block_lt_of_cell? w a hc))]; exact hc

theorem lt_of_cell {w : World} {b o : Nat} {v : Value} (hc : w.cell? ⟨b, o, none⟩ = some v) : b < w.heap.size := World.block_lt_of_cell? w ⟨b, o, none⟩ hc

theorem DRep.mono {w w' : World} {fb fb' : Nat → Prop} (hw : Stays fb w w') (hf : ∀ b, b < w.heap.size → fb' b → fb b)
    {d : D} {v : Value} (h : DRep w fb d v) : DRep w' fb' d v := by
  induction h with
  | int k n h => exact .int k n h
  | bool b => exact .bool b
  | nil => exact .nil
  | empty a cap hm => exact .empty a cap hm
  | list xs es b off cap vs hcap hm hb hes hs h1 hc hv ih =>
    cases xs with
    | nil => exact .empty _ _ hm
    | cons x xs =>
      have hlt : b < w.heap.size := by
        have hx := hs x (by simp)
        have hex : ∃ c, x.cells[0]? = some c := ⟨_, List.getElem?_eq_getElem (by omega)⟩
        obtain ⟨c, hcc⟩ := hex
        exact lt_of_cell (hc 0 x 0 c (by simp) hcc)
      exact .list _ es b off cap vs hcap hm (fun hh => hb (hf b hlt hh)) hes hs h1 (fun i x j c h1 h2 => hw.cell hb (hc i x j c h1 h2)) ih
  | agg cs vs hl h1 h ih => exact .agg cs vs hl h1 ih
  | ptr cs b off vs hb hne h1 hc hv ih =>
    cases cs with
    | nil => exact absurd rfl hne
    | cons x xs =>
      have hlt : b < w.heap.size := lt_of_cell (hc 0 x (by simp))
      exact .ptr _ b off vs (fun hh => hb (hf b hlt hh)) hne h1 (fun j c h1 => hw.cell hb (hc j c h1)) ih
  | fn f cs vs hl h ih => exact .fn f cs vs hl ih
  | tup cs vs hl h ih => exact .tup cs vs hl ih
  | nilptr => exact .nilptr
  | nilmap => exact .nilmap
  | nilfn => exact .nilfn
  | junk v => exact .junk v

/-- Data that lead to no memory. -/
def D.prim : D → Bool
  | .int .. | .bool _ | .nilptr | .nilmap | .nilfn | .junk => true
  | _ => false
def D.flat1 : D → Bool
  | .list true [] => true
  | .agg cs => cs.all D.prim
  | d => d.prim
def D.flat : D → Bool
  | .tup cs => cs.all D.flat1
  | d => d.flat1

theorem all_get {α : Type} {cs : List α} {p : α → Bool} (h : cs.all p = true) {i : Nat} {c : α} (hc : cs[i]? = some c) : p c = true := by
  rw [List.all_eq_true] at h
  exact h c (List.mem_of_getElem? hc)

theorem DRep.of_prim {w w' : World} {fb fb' : Nat → Prop} {c : D} {v : Value} (hc : c.prim = true) (h : DRep w fb c v) : DRep w' fb' c v := by
  cases h <;> simp [D.prim] at hc
  · exact .int _ _ (by assumption)
  · exact .bool _
  · exact .nilptr
  · exact .nilmap
  · exact .nilfn
  · exact .junk _

theorem DRep.of_flat1 {w w' : World} {fb fb' : Nat → Prop} {c : D} {v : Value} (hc : c.flat1 = true) (h : DRep w fb c v) : DRep w' fb' c v := by
  cases h with
  | nil => exact .nil
  | agg cs vs hl h1 h => exact .agg cs vs hl h1 fun i c v h1 h2 => (h i c v h1 h2).of_prim (all_get (p := D.prim) hc h1)
  | int k n h => exact .int k n h
  | bool b => exact .bool b
  | nilptr => exact .nilptr
  | nilmap => exact .nilmap
  | nilfn => exact .nilfn
  | junk v => exact .junk v
  | _ => simp [D.flat1, D.prim] at hc

theorem DRep.of_flat {w w' : World} {fb fb' : Nat → Prop} {d : D} {v : Value} (hd : d.flat = true) (h : DRep w fb d v) : DRep w' fb' d v := by
  cases h with
  | tup cs vs hl h => exact .tup cs vs hl fun i c v h1 h2 => (h i c v h1 h2).of_flat1 (all_get (p := D.flat1) hd h1)
  | nil => exact .nil
  | agg cs vs hl h1 h => exact DRep.of_flat1 (fb := fb) (w := w) hd (.agg cs vs hl h1 h)
  | int k n h => exact .int k n h
  | bool b => exact .bool b
  | nilptr => exact .nilptr
  | nilmap => exact .nilmap
  | nilfn => exact .nilfn
  | junk v => exact .junk v
  | _ => simp [D.flat, D.flat1, D.prim] at hd

/-- What is known of data that are read: numbers are within their kinds, lists are not too long. -/
def D.WF : D → Prop
  | .int k n => InK k n
  | .bool _ | .nilptr | .nilmap | .nilfn | .junk => True
  | .list _ xs => xs.length ≤ maxLen ∧ ∀ x, x ∈ xs → WF x
  | .agg cs | .ptr cs | .fn _ cs | .tup cs => ∀ c, c ∈ cs → WF c

theorem D.wf_of_cells {x : D} (h : ∀ c, c ∈ x.cells → c.WF) : x.WF := by
  cases x with
  | agg cs => simpa [D.WF, D.cells] using h
  | _ => exact h _ (by simp [D.cells])

theorem DRep.wf {w : World} {fb : Nat → Prop} {d : D} {v : Value} (h : DRep w fb d v) : d.WF := by
  have hex : ∀ {cs : List D} {vs : Array Value} {i : Nat} {c : D}, vs.size = cs.length → cs[i]? = some c → ∃ v, vs[i]? = some v := by
    intro cs vs i c hl hc
    have : i < cs.length := (List.getElem?_eq_some_iff.1 hc).1
    exact ⟨_, Array.getElem?_eq_getElem (by omega)⟩
  induction h with
  | int k n h => simpa [D.WF] using h
  | list xs es b off cap vs hcap hm hb hes hs h1 hc hv ih =>
    rw [D.WF]
    refine ⟨by omega, fun x hx => D.wf_of_cells fun c hcm => ?_⟩
    obtain ⟨i, hi⟩ := List.getElem?_of_mem hx
    obtain ⟨j, hj⟩ := List.getElem?_of_mem hcm
    exact ih i x j c hi hj
  | agg cs vs hl h1 h ih =>
    rw [D.WF]; intro c hc
    obtain ⟨i, hi⟩ := List.getElem?_of_mem hc
    obtain ⟨v, hv⟩ := hex hl hi
    exact ih i c v hi hv
  | ptr cs b off vs hb hne h1 hc hv ih =>
    rw [D.WF]; intro c hc
    obtain ⟨i, hi⟩ := List.getElem?_of_mem hc
    exact ih i c hi
  | fn f cs vs hl h ih =>
    rw [D.WF]; intro c hc
    obtain ⟨i, hi⟩ := List.getElem?_of_mem hc
    obtain ⟨v, hv⟩ := hex hl hi
    exact ih i c v hi hv
  | tup cs vs hl h ih =>
    rw [D.WF]; intro c hc
    obtain ⟨i, hi⟩ := List.getElem?_of_mem hc
    obtain ⟨v, hv⟩ := hex hl hi
    exact ih i c v hi hv
  | _ => simp [D.WF, maxLen]

end Go.Pw
