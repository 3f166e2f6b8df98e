/- A part of the proof. -/
import Derived.Test.YtlmkpaimjpdhiaaDoorPkLaw
import Derived.Test.YtlmkpaimjpdhiaaDoorPwLaid
set_option linter.all false
namespace Go.Pw
theorem typed_listN {T : Ty} {α : Type} (f : α → D) (hf : ∀ cs, TypedC T cs → ∃ a, T.val cs = f a) {cs : List D} (h : TypedC (.list T) cs) : ∃ nl l, cs = [.list nl (List.map f l)] ∧ (nl = true → l = []) := by
  cases h with | list _ nl xs h0 h1 h2 =>
  have : ∃ l, xs = List.map f l := by
    clear h0
    induction xs with
    | nil => exact ⟨[], rfl⟩
    | cons x xs ih =>
      obtain ⟨l, rfl⟩ := ih (fun y hy => h1 y (by simp [hy])) fun y hy => h2 y (by simp [hy])
      obtain ⟨a, ha⟩ := hf _ (h1 x (by simp))
      have := h2 x (by simp)
      rw [ha] at this
      exact ⟨a :: l, by rw [this]; rfl⟩
  obtain ⟨l, rfl⟩ := this
  exact ⟨nl, l, rfl, fun hn => by simpa using h0 hn⟩
theorem typed_intsL {cs : List D} (h : TypedC (.list (.int .i64)) cs) : ∃ nl l, cs = [.list nl (ints l)] ∧ (nl = true → l = []) :=
  typed_listN (T := .int .i64) (D.int .i64) (fun cs h => by obtain ⟨n, rfl⟩ := typed_int h; exact ⟨n, rfl⟩) h
def outT : Ty := .str [.int .i64, .int .i64]
def wrdT : Ty := .str [.list (.int .i64), .list (.int .i64), .list (.int .i64)]
def wevT : Ty := .str [.str [.int .i64, .int .i64], .int .i64]
def scrT : Ty := .str [.list (.int .i64), .int .i64, .int .i64, .list (.int .i64), .bool]
theorem typed_out {cs : List D} (h : TypedC outT cs) : ∃ a b, cs = [.int .i64 a, .int .i64 b] := by
  obtain ⟨_, _, e1, h1, h⟩ := typed_cons h
  obtain ⟨_, _, e2, h2, h⟩ := typed_cons h
  obtain rfl := typed_nil h
  obtain ⟨n1, rfl⟩ := typed_int h1
  obtain ⟨n2, rfl⟩ := typed_int h2
  subst e2
  exact ⟨n1, n2, e1⟩
theorem typed_outV {x : D} (h : TypedV outT x) : ∃ a b, x = .agg [.int .i64 a, .int .i64 b] := by
  obtain ⟨h, hx⟩ := h
  obtain ⟨a, b, hr⟩ := typed_out h
  rw [hr] at hx
  exact ⟨a, b, hx⟩
theorem typed_wrdV {x : D} (h : TypedV wrdT x) : ∃ n1 l1 n2 l2 n3 l3, x = .agg [.list n1 (ints l1), .list n2 (ints l2), .list n3 (ints l3)] ∧ (n1 = true → l1 = []) ∧ (n2 = true → l2 = []) ∧ (n3 = true → l3 = []) := by
  obtain ⟨h, hx⟩ := h
  obtain ⟨_, _, e1, h1, h⟩ := typed_cons h
  obtain ⟨_, _, e2, h2, h⟩ := typed_cons h
  obtain ⟨_, _, e3, h3, h⟩ := typed_cons h
  obtain rfl := typed_nil h
  obtain ⟨n1, l1, rfl, q1⟩ := typed_intsL h1
  obtain ⟨n2, l2, rfl, q2⟩ := typed_intsL h2
  obtain ⟨n3, l3, rfl, q3⟩ := typed_intsL h3
  subst e3 e2
  rw [e1] at hx
  exact ⟨n1, l1, n2, l2, n3, l3, hx, q1, q2, q3⟩
/-- Lists of numbers. -/
def lsD (l : List (Bool × List Int)) : List D := l.map fun r => .list r.1 (ints r.2)
end Go.Pw
