/- A part of the proof. -/
import Derived.Test.YtiphmemigdplgaaDoorPkLaw
import Derived.Test.YtiphmemigdplgaaDoorPwLaid
import Derived.Test.YtiphmemigdplgaaDoorPgZonesSpec
set_option linter.all false
namespace Go.Pw
theorem typed_listN {T : Ty} {α : Type} (f : α → D) (hf : ∀ cs, TypedC T cs → ∃ a, T.val cs = f a) {cs : List D} (h : TypedC (.list T) cs) : ∃ nl l, cs = [.list nl (List.map f l)] ∧ (nl = true → l = []) := by
  cases h with | list _ nl xs h0 h1 h2 =>
  have : ∃ l, xs = List.map f l := by
    clear h0
    induction xs with
    | nil => exact ⟨[], rfl⟩
    | cons x xs ih =>
      obtain ⟨l, rfl⟩ := ih (fun y hy => h1 y (by simp [hy])) fun y hy => h2 y (by simp [hy])
      obtain ⟨a, ha⟩ := hf _ (h1 x (by simp))
      have := h2 x (by simp)
      rw [ha] at this
      exact ⟨a :: l, by rw [this]; rfl⟩
  obtain ⟨l, rfl⟩ := this
  exact ⟨nl, l, rfl, fun hn => by simpa using h0 hn⟩
theorem typed_bool {cs : List D} (h : TypedC .bool cs) : ∃ b, cs = [.bool b] := by cases h with | bool b => exact ⟨b, rfl⟩
def zT : Ty := .str [.int .i64, .int .i64]
def dskT : Ty := .str [.int .i64, .int .i64, .list (.str [.int .i64, .int .i64]), .int .i64, .int .i64, .str [.int .i64, .int .i64], .str [.int .i64, .int .i64]]
def recT : Ty := .str [.int .i64, .int .i64, .int .i64, .int .i64, .bool]
def logT : Ty := .str [.str [.int .i64, .int .i64, .list (.str [.int .i64, .int .i64]), .int .i64, .int .i64, .str [.int .i64, .int .i64], .str [.int .i64, .int .i64]], .int .i64, .int .i64, .list (.str [.int .i64, .int .i64, .int .i64, .int .i64, .bool])]
theorem typed_z {cs : List D} (h : TypedC zT cs) : ∃ a b, cs = [.int .i64 a, .int .i64 b] := by
  obtain ⟨_, _, e1, h1, h⟩ := typed_cons h
  obtain ⟨_, _, e2, h2, h⟩ := typed_cons h
  obtain rfl := typed_nil h
  obtain ⟨n1, rfl⟩ := typed_int h1
  obtain ⟨n2, rfl⟩ := typed_int h2
  subst e2
  exact ⟨n1, n2, e1⟩
theorem typed_rec {cs : List D} (h : TypedC recT cs) : ∃ r, cs = recC r := by
  obtain ⟨_, _, e1, h1, h⟩ := typed_cons h
  obtain ⟨_, _, e2, h2, h⟩ := typed_cons h
  obtain ⟨_, _, e3, h3, h⟩ := typed_cons h
  obtain ⟨_, _, e4, h4, h⟩ := typed_cons h
  obtain ⟨_, _, e5, h5, h⟩ := typed_cons h
  obtain rfl := typed_nil h
  obtain ⟨n1, rfl⟩ := typed_int h1
  obtain ⟨n2, rfl⟩ := typed_int h2
  obtain ⟨n3, rfl⟩ := typed_int h3
  obtain ⟨n4, rfl⟩ := typed_int h4
  obtain ⟨b, rfl⟩ := typed_bool h5
  subst e5 e4 e3 e2
  exact ⟨⟨n1, n2, n3, n4, b⟩, e1⟩
theorem typed_dsk {cs : List D} (h : TypedC dskT cs) : ∃ s, cs = diskC s ∧ (s.zn = true → s.zones = []) := by
  obtain ⟨_, _, e1, h1, h⟩ := typed_cons h
  obtain ⟨_, _, e2, h2, h⟩ := typed_cons h
  obtain ⟨_, _, e3, h3, h⟩ := typed_cons h
  obtain ⟨_, _, e4, h4, h⟩ := typed_cons h
  obtain ⟨_, _, e5, h5, h⟩ := typed_cons h
  obtain ⟨_, _, e6, h6, h⟩ := typed_cons h
  obtain ⟨_, _, e7, h7, h⟩ := typed_cons h
  obtain rfl := typed_nil h
  obtain ⟨n1, rfl⟩ := typed_int h1
  obtain ⟨n2, rfl⟩ := typed_int h2
  obtain ⟨nw, w, rfl, hz⟩ := typed_listN zpD (fun cs h => by obtain ⟨a, b, rfl⟩ := typed_z h; exact ⟨(a, b), rfl⟩) h3
  obtain ⟨n4, rfl⟩ := typed_int h4
  obtain ⟨n5, rfl⟩ := typed_int h5
  obtain ⟨a, b, rfl⟩ := typed_z h6
  obtain ⟨c, d, rfl⟩ := typed_z h7
  subst e7 e6 e5 e4 e3 e2
  exact ⟨⟨n1, n2, nw, w, n4, n5, a, b, c, d⟩, e1, hz⟩
theorem typed_log {x : D} (h : TypedV logT x) : ∃ l, x = logD l ∧ (l.sn = true → l.slots = []) ∧ (l.disk.zn = true → l.disk.zones = []) := by
  obtain ⟨h, hx⟩ := h
  obtain ⟨_, _, e1, h1, h⟩ := typed_cons h
  obtain ⟨_, _, e2, h2, h⟩ := typed_cons h
  obtain ⟨_, _, e3, h3, h⟩ := typed_cons h
  obtain ⟨_, _, e4, h4, h⟩ := typed_cons h
  obtain rfl := typed_nil h
  obtain ⟨d, rfl, hz⟩ := typed_dsk h1
  obtain ⟨n2, rfl⟩ := typed_int h2
  obtain ⟨n3, rfl⟩ := typed_int h3
  obtain ⟨ns, s, rfl, hs⟩ := typed_listN recD (fun cs h => by obtain ⟨r, rfl⟩ := typed_rec h; exact ⟨r, rfl⟩) h4
  subst e4 e3 e2
  rw [e1] at hx
  exact ⟨⟨d, n2, n3, ns, s⟩, hx, hs, hz⟩
end Go.Pw
