/- A part of the proof. -/
import Derived.Test.YtlnppoaghpbpoaaPwInt
set_option linter.all false
namespace Go.Pw

abbrev Pair := Int × Int
def pairD (p : Pair) : D := .agg [.int .i64 p.1, .int .i64 p.2]
theorem pairD_eq (p : Pair) : pairD p = .agg [.int .i64 p.1, .int .i64 p.2] := rfl
def pairsD (l : List Pair) : List D := l.map pairD
theorem pairsD_len (l : List Pair) : (pairsD l).length = l.length := by simp [pairsD]
theorem pairsD_nil : pairsD [] = [] := rfl
theorem pairsD_snoc (l : List Pair) (a b : Int) : pairsD l ++ [.agg [.int .i64 a, .int .i64 b]] = pairsD (l ++ [(a, b)]) := by simp [pairsD, pairD]
theorem pairsD_unif (l : List Pair) : Unif 2 (pairsD l) = True := unif_map fun _ => rfl
theorem pairsD_empty (l : List Pair) : (pairsD l).isEmpty = l.isEmpty := by cases l <;> rfl
theorem onSome_pairs {l : List Pair} {i : Nat} {A : D → Prop} : onSome (pairsD l)[i]? A = (i < l.length ∧ A (pairD (l[i]?.getD default))) := onSome_map

structure GServo where
  tracks : Int
  step : Int
  move : Int
  noise : Int
  wrong : Int
  nr : Bool
  runout : List Int
def servoC (s : GServo) : List D := [.int .i64 s.tracks, .int .i64 s.step, .int .i64 s.move, .int .i64 s.noise, .int .i64 s.wrong, .list s.nr (ints s.runout)]
def servoD (s : GServo) : D := .agg (servoC s)
theorem servoC_eq (s : GServo) : servoC s = [.int .i64 s.tracks, .int .i64 s.step, .int .i64 s.move, .int .i64 s.noise, .int .i64 s.wrong, .list s.nr (ints s.runout)] := rfl
theorem servoD_eq (s : GServo) : servoD s = .agg (servoC s) := rfl

def inR (n lo hi : Int) : Bool := decide (lo ≤ n ∧ n ≤ hi)
theorem getD_mem {α : Type} [Inhabited α] {l : List α} {i : Nat} (h : i < l.length) : l[i]?.getD default ∈ l := by
  rw [List.getElem?_eq_getElem h]; exact List.getElem_mem h
theorem getD_mem0 {l : List Int} {i : Nat} (h : i < l.length) : l[i]?.getD 0 ∈ l := by
  rw [List.getElem?_eq_getElem h]; exact List.getElem_mem h

theorem all_iff {l : List Int} {p : Int → Bool} : l.all p = true ↔ ∀ (j : Nat), j < l.length → p (l[j]?.getD 0) = true := by
  rw [List.all_eq_true]
  constructor
  · intro h j hj; exact h _ (getD_mem0 hj)
  · intro h x hx
    obtain ⟨j, hj, rfl⟩ := List.getElem_of_mem hx
    have := h j hj
    rwa [List.getElem?_eq_getElem hj, Option.getD_some] at this
theorem all_bad {l : List Int} {p : Int → Bool} {j : Nat} (hj : j < l.length) (h : p (l[j]?.getD 0) = false) : l.all p = false := by
  cases ha : l.all p with
  | false => rfl
  | true => rw [all_iff.1 ha j hj] at h; cases h
theorem allD_iff {α : Type} [Inhabited α] {l : List α} {p : α → Bool} : l.all p = true ↔ ∀ (j : Nat), j < l.length → p (l[j]?.getD default) = true := by
  rw [List.all_eq_true]
  constructor
  · intro h j hj; exact h _ (getD_mem hj)
  · intro h x hx
    obtain ⟨j, hj, rfl⟩ := List.getElem_of_mem hx
    have := h j hj
    rwa [List.getElem?_eq_getElem hj, Option.getD_some] at this
theorem allD_bad {α : Type} [Inhabited α] {l : List α} {p : α → Bool} {j : Nat} (hj : j < l.length) (h : p (l[j]?.getD default) = false) : l.all p = false := by
  cases ha : l.all p with
  | false => rfl
  | true => rw [allD_iff.1 ha j hj] at h; cases h

/-! the codes of the tracks -/
def grayI (n : Int) : Int := bitsOp .xor .i64 n (n / 2)
def trk : Nat → Int → Int → Int
  | 0, _, n => n
  | k + 1, c, n => if 0 < c then trk k (c / 2) (bitsOp .xor .i64 n c) else n
def trackI (c : Int) : Int := trk 8 c 0
theorem gray_fin : ∀ n : Fin 128, trackI (grayI n.val) = n.val ∧ 0 ≤ grayI n.val ∧ grayI n.val ≤ 127 ∧ 0 ≤ trackI n.val ∧ trackI n.val ≤ 127 ∧ grayI (trackI n.val) = n.val := by decide +kernel
theorem gray_all {n : Int} (h : 0 ≤ n ∧ n ≤ 127) : trackI (grayI n) = n ∧ 0 ≤ grayI n ∧ grayI n ≤ 127 ∧ 0 ≤ trackI n ∧ trackI n ≤ 127 ∧ grayI (trackI n) = n := by
  obtain ⟨k, rfl⟩ := Int.eq_ofNat_of_zero_le h.1
  exact gray_fin ⟨k, by omega⟩

/-! validity -/
def GServo.head (s : GServo) : Bool := inR s.tracks 1 64 && inR s.step 1 16 && inR s.move 0 64 && inR s.noise 0 16 && inR s.wrong 0 3 && inR s.runout.length 1 16
def GServo.ok (s : GServo) : Bool := s.runout.all (fun n => inR n (-16) 16) && s.head
def wedgeOk (w : Pair) : Bool := inR w.1 (-1) 127 && inR w.2 (-100) 100
def GServo.check (s : GServo) (l : List Pair) : Int := if !s.ok then 20 else if decide (24 < l.length) || !l.all wedgeOk then 21 else 0
def GServo.last (s : GServo) : Int := s.step * (s.tracks - 1)
def GServo.center (s : GServo) (t w : Int) : Int := t * s.step + s.runout[((max 0 w) % s.runout.length).toNat]?.getD 0
def GServo.agrees (s : GServo) (w : Pair) (i p : Int) : Bool :=
  decide (w.1 = -1) || (decide (trackI w.1 < s.tracks) && decide (2 * max (p - s.center (trackI w.1) i) (-(p - s.center (trackI w.1) i)) ≤ s.step) && decide (max (w.2 - (p - s.center (trackI w.1) i)) (-(w.2 - (p - s.center (trackI w.1) i))) ≤ s.noise))
end Go.Pw
