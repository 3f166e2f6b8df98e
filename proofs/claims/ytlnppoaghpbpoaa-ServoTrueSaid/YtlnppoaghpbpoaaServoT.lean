/- A part of the proof. -/
import Derived.Test.YtlnppoaghpbpoaaPwLaw
import Derived.Test.YtlnppoaghpbpoaaServoSpec
set_option linter.all false
namespace Go.Pw

theorem typed_int {k : IntKind} {cs : List D} (h : TypedC (.int k) cs) : ∃ n, cs = [.int k n] := by cases h with | int _ n _ => exact ⟨n, rfl⟩
theorem typed_cons {T : Ty} {Ts : List Ty} {cs : List D} (h : TypedC (.str (T :: Ts)) cs) : ∃ a b, cs = a ++ b ∧ TypedC T a ∧ TypedC (.str Ts) b := by
  cases h with | cons _ _ a b h1 h2 => exact ⟨a, b, rfl, h1, h2⟩
theorem typed_nil {cs : List D} (h : TypedC (.str []) cs) : cs = [] := by cases h; rfl
theorem typed_list {T : Ty} {α : Type} (f : α → D) (hf : ∀ cs, TypedC T cs → ∃ a, T.val cs = f a) {cs : List D} (h : TypedC (.list T) cs) : ∃ nl l, cs = [.list nl (List.map f l)] := by
  cases h with | list _ nl xs h0 h1 h2 =>
  have : ∃ l, xs = List.map f l := by
    clear h0
    induction xs with
    | nil => exact ⟨[], rfl⟩
    | cons x xs ih =>
      obtain ⟨l, rfl⟩ := ih (fun y hy => h1 y (by simp [hy])) fun y hy => h2 y (by simp [hy])
      obtain ⟨a, ha⟩ := hf _ (h1 x (by simp))
      have := h2 x (by simp)
      rw [ha] at this
      exact ⟨a :: l, by rw [this]; rfl⟩
  obtain ⟨l, rfl⟩ := this
  exact ⟨nl, l, rfl⟩
theorem typed_ints {cs : List D} (h : TypedC (.list (.int .i64)) cs) : ∃ nl l, cs = [.list nl (ints l)] :=
  typed_list (D.int .i64) (fun cs h => by obtain ⟨n, rfl⟩ := typed_int h; exact ⟨n, rfl⟩) h
theorem typed_intV {x : D} (h : TypedV (.int .i64) x) : ∃ n, x = .int .i64 n := by
  obtain ⟨h, hx⟩ := h
  obtain ⟨n, hn⟩ := typed_int h
  rw [hn] at hx
  exact ⟨n, hx⟩
theorem typed_intsV {x : D} (h : TypedV (.list (.int .i64)) x) : ∃ nl l, x = .list nl (ints l) := by
  obtain ⟨h, hx⟩ := h
  obtain ⟨nl, l, hn⟩ := typed_ints h
  rw [hn] at hx
  exact ⟨nl, l, hx⟩

def servoT : Ty := .str [.int .i64, .int .i64, .int .i64, .int .i64, .int .i64, .list (.int .i64)]
def pairT : Ty := .str [.int .i64, .int .i64]
def pairsT : Ty := .list (.str [.int .i64, .int .i64])
def walkT : Ty := .str [.list (.int .i64), .list (.int .i64)]
def gatedT : Ty := .str [.str [.list (.int .i64), .list (.int .i64)], .str [.int .i64, .int .i64]]
def wideT : Ty := .str [.int .i64, .int .i64, .int .i64, .int .i64]
theorem typed_servo {x : D} (h : TypedV servoT x) : ∃ s, x = servoD s := by
  obtain ⟨h, hx⟩ := h
  obtain ⟨_, _, e1, h1, h⟩ := typed_cons h
  obtain ⟨_, _, e2, h2, h⟩ := typed_cons h
  obtain ⟨_, _, e3, h3, h⟩ := typed_cons h
  obtain ⟨_, _, e4, h4, h⟩ := typed_cons h
  obtain ⟨_, _, e5, h5, h⟩ := typed_cons h
  obtain ⟨_, _, e6, h6, h⟩ := typed_cons h
  obtain rfl := typed_nil h
  obtain ⟨n1, rfl⟩ := typed_int h1
  obtain ⟨n2, rfl⟩ := typed_int h2
  obtain ⟨n3, rfl⟩ := typed_int h3
  obtain ⟨n4, rfl⟩ := typed_int h4
  obtain ⟨n5, rfl⟩ := typed_int h5
  obtain ⟨nw, w, rfl⟩ := typed_ints h6
  subst e6 e5 e4 e3 e2
  rw [e1] at hx
  exact ⟨⟨n1, n2, n3, n4, n5, nw, w⟩, hx⟩
theorem typed_pair {cs : List D} (h : TypedC pairT cs) : ∃ a b, cs = [.int .i64 a, .int .i64 b] := by
  obtain ⟨_, _, e1, h1, h⟩ := typed_cons h
  obtain ⟨_, _, e2, h2, h⟩ := typed_cons h
  obtain rfl := typed_nil h
  obtain ⟨n1, rfl⟩ := typed_int h1
  obtain ⟨n2, rfl⟩ := typed_int h2
  subst e2
  exact ⟨n1, n2, e1⟩
theorem typed_pairV {x : D} (h : TypedV pairT x) : ∃ a b, x = .agg [.int .i64 a, .int .i64 b] := by
  obtain ⟨h, hx⟩ := h
  obtain ⟨a, b, e⟩ := typed_pair h
  rw [e] at hx
  exact ⟨a, b, hx⟩
theorem typed_pairs {x : D} (h : TypedV pairsT x) : ∃ nl l, x = .list nl (pairsD l) := by
  obtain ⟨h, hx⟩ := h
  obtain ⟨nl, l, hn⟩ := typed_list pairD (fun cs h => by obtain ⟨a, b, rfl⟩ := typed_pair h; exact ⟨(a, b), rfl⟩) h
  rw [hn] at hx
  exact ⟨nl, l, hx⟩
theorem typed_walkC {cs : List D} (h : TypedC walkT cs) : ∃ n l m k, cs = [.list n (ints l), .list m (ints k)] := by
  obtain ⟨_, _, e1, h1, h⟩ := typed_cons h
  obtain ⟨_, _, e2, h2, h⟩ := typed_cons h
  obtain rfl := typed_nil h
  obtain ⟨n, l, rfl⟩ := typed_ints h1
  obtain ⟨m, k, rfl⟩ := typed_ints h2
  subst e2
  exact ⟨n, l, m, k, e1⟩
theorem typed_walk {x : D} (h : TypedV walkT x) : ∃ n l m k, x = .agg [.list n (ints l), .list m (ints k)] := by
  obtain ⟨h, hx⟩ := h
  obtain ⟨n, l, m, k, e⟩ := typed_walkC h
  rw [e] at hx
  exact ⟨n, l, m, k, hx⟩
theorem typed_gated {x : D} (h : TypedV gatedT x) : ∃ n l m k a b, x = .agg [.list n (ints l), .list m (ints k), .int .i64 a, .int .i64 b] := by
  obtain ⟨h, hx⟩ := h
  obtain ⟨_, _, e1, h1, h⟩ := typed_cons h
  obtain ⟨_, _, e2, h2, h⟩ := typed_cons h
  obtain rfl := typed_nil h
  obtain ⟨n, l, m, k, rfl⟩ := typed_walkC h1
  obtain ⟨a, b, rfl⟩ := typed_pair h2
  subst e2
  rw [e1] at hx
  exact ⟨n, l, m, k, a, b, hx⟩
theorem typed_wide {x : D} (h : TypedV wideT x) : ∃ a b c d, x = .agg [.int .i64 a, .int .i64 b, .int .i64 c, .int .i64 d] := by
  obtain ⟨h, hx⟩ := h
  obtain ⟨_, _, e1, h1, h⟩ := typed_cons h
  obtain ⟨_, _, e2, h2, h⟩ := typed_cons h
  obtain ⟨_, _, e3, h3, h⟩ := typed_cons h
  obtain ⟨_, _, e4, h4, h⟩ := typed_cons h
  obtain rfl := typed_nil h
  obtain ⟨n1, rfl⟩ := typed_int h1
  obtain ⟨n2, rfl⟩ := typed_int h2
  obtain ⟨n3, rfl⟩ := typed_int h3
  obtain ⟨n4, rfl⟩ := typed_int h4
  subst e4 e3 e2
  rw [e1] at hx
  exact ⟨n1, n2, n3, n4, hx⟩
end Go.Pw
