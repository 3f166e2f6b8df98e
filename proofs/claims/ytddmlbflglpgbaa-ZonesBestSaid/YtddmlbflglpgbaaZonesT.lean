/- A part of the proof. -/
import Derived.Test.YtddmlbflglpgbaaPkLaw
import Derived.Test.YtddmlbflglpgbaaZonesSpec
set_option linter.all false
namespace Go.Pw
def zpT : Ty := .str [.int .i64, .int .i64]
def diskT : Ty := .str [.int .i64, .int .i64, .list (.str [.int .i64, .int .i64]), .int .i64, .int .i64, .str [.int .i64, .int .i64], .str [.int .i64, .int .i64]]
def placeT : Ty := .str [.int .i64, .int .i64, .int .i64]
def tripT : Ty := .str [.int .i64, .int .i64, .list (.int .i64)]
def cutT : Ty := .str [.int .i64, .int .i64, .int .i64, .int .i64, .int .i64]
theorem typed_zp {cs : List D} (h : TypedC zpT cs) : ∃ a b, cs = [.int .i64 a, .int .i64 b] := by
  obtain ⟨_, _, e1, h1, h⟩ := typed_cons h
  obtain ⟨_, _, e2, h2, h⟩ := typed_cons h
  obtain rfl := typed_nil h
  obtain ⟨n1, rfl⟩ := typed_int h1
  obtain ⟨n2, rfl⟩ := typed_int h2
  subst e2
  exact ⟨n1, n2, e1⟩
theorem typed_zpV {x : D} (h : TypedV zpT x) : ∃ a b, x = .agg [.int .i64 a, .int .i64 b] := by
  obtain ⟨h, hx⟩ := h
  obtain ⟨a, b, e⟩ := typed_zp h
  rw [e] at hx
  exact ⟨a, b, hx⟩
theorem typed_diskC {cs : List D} (h : TypedC diskT cs) : ∃ s, cs = diskC s := by
  obtain ⟨_, _, e1, h1, h⟩ := typed_cons h
  obtain ⟨_, _, e2, h2, h⟩ := typed_cons h
  obtain ⟨_, _, e3, h3, h⟩ := typed_cons h
  obtain ⟨_, _, e4, h4, h⟩ := typed_cons h
  obtain ⟨_, _, e5, h5, h⟩ := typed_cons h
  obtain ⟨_, _, e6, h6, h⟩ := typed_cons h
  obtain ⟨_, _, e7, h7, h⟩ := typed_cons h
  obtain rfl := typed_nil h
  obtain ⟨n1, rfl⟩ := typed_int h1
  obtain ⟨n2, rfl⟩ := typed_int h2
  obtain ⟨nw, w, rfl⟩ := typed_list zpD (fun cs h => by obtain ⟨a, b, rfl⟩ := typed_zp h; exact ⟨(a, b), rfl⟩) h3
  obtain ⟨n4, rfl⟩ := typed_int h4
  obtain ⟨n5, rfl⟩ := typed_int h5
  obtain ⟨a, b, rfl⟩ := typed_zp h6
  obtain ⟨c, d, rfl⟩ := typed_zp h7
  subst e7 e6 e5 e4 e3 e2
  exact ⟨⟨n1, n2, nw, w, n4, n5, a, b, c, d⟩, e1⟩
theorem typed_disk {x : D} (h : TypedV diskT x) : ∃ s, x = diskD s := by
  obtain ⟨h, hx⟩ := h
  obtain ⟨s, e⟩ := typed_diskC h
  rw [e] at hx
  exact ⟨s, hx⟩
theorem typed_place {x : D} (h : TypedV placeT x) : ∃ a b c, x = .agg [.int .i64 a, .int .i64 b, .int .i64 c] := by
  obtain ⟨h, hx⟩ := h
  obtain ⟨_, _, e1, h1, h⟩ := typed_cons h
  obtain ⟨_, _, e2, h2, h⟩ := typed_cons h
  obtain ⟨_, _, e3, h3, h⟩ := typed_cons h
  obtain rfl := typed_nil h
  obtain ⟨n1, rfl⟩ := typed_int h1
  obtain ⟨n2, rfl⟩ := typed_int h2
  obtain ⟨n3, rfl⟩ := typed_int h3
  subst e3 e2
  rw [e1] at hx
  exact ⟨n1, n2, n3, hx⟩
theorem typed_trip {x : D} (h : TypedV tripT x) : ∃ a b n l, x = .agg [.int .i64 a, .int .i64 b, .list n (ints l)] := by
  obtain ⟨h, hx⟩ := h
  obtain ⟨_, _, e1, h1, h⟩ := typed_cons h
  obtain ⟨_, _, e2, h2, h⟩ := typed_cons h
  obtain ⟨_, _, e3, h3, h⟩ := typed_cons h
  obtain rfl := typed_nil h
  obtain ⟨n1, rfl⟩ := typed_int h1
  obtain ⟨n2, rfl⟩ := typed_int h2
  obtain ⟨n, l, rfl⟩ := typed_ints h3
  subst e3 e2
  rw [e1] at hx
  exact ⟨n1, n2, n, l, hx⟩
theorem typed_cut {x : D} (h : TypedV cutT x) : ∃ a b c d e, x = .agg [.int .i64 a, .int .i64 b, .int .i64 c, .int .i64 d, .int .i64 e] := by
  obtain ⟨h, hx⟩ := h
  obtain ⟨_, _, e1, h1, h⟩ := typed_cons h
  obtain ⟨_, _, e2, h2, h⟩ := typed_cons h
  obtain ⟨_, _, e3, h3, h⟩ := typed_cons h
  obtain ⟨_, _, e4, h4, h⟩ := typed_cons h
  obtain ⟨_, _, e5, h5, h⟩ := typed_cons h
  obtain rfl := typed_nil h
  obtain ⟨n1, rfl⟩ := typed_int h1
  obtain ⟨n2, rfl⟩ := typed_int h2
  obtain ⟨n3, rfl⟩ := typed_int h3
  obtain ⟨n4, rfl⟩ := typed_int h4
  obtain ⟨n5, rfl⟩ := typed_int h5
  subst e5 e4 e3 e2
  rw [e1] at hx
  exact ⟨n1, n2, n3, n4, n5, hx⟩
end Go.Pw
