/- A part of the proof. -/
import Derived.Test.YtiphmemigdplgaaDoorJournalT
import Derived.Test.YtiphmemigdplgaaDoorJournalSpec2
set_option linter.all false
namespace Go.Pw
def entT : Ty := .str [.int .i64, .int .i64, .int .i64]
def wrtT : Ty := .str [.list (.str [.int .i64, .int .i64, .int .i64]), .int .i64, .bool, .list (.int .i64)]
theorem typed_ent {cs : List D} (h : TypedC entT cs) : ∃ r, cs = wrC r := by
  obtain ⟨_, _, e1, h1, h⟩ := typed_cons h
  obtain ⟨_, _, e2, h2, h⟩ := typed_cons h
  obtain ⟨_, _, e3, h3, h⟩ := typed_cons h
  obtain rfl := typed_nil h
  obtain ⟨n1, rfl⟩ := typed_int h1
  obtain ⟨n2, rfl⟩ := typed_int h2
  obtain ⟨n3, rfl⟩ := typed_int h3
  subst e3 e2
  exact ⟨⟨n1, n2, n3⟩, e1⟩
theorem typed_entV {x : D} (h : TypedV entT x) : ∃ r, x = wrD r := by
  obtain ⟨h, hx⟩ := h
  obtain ⟨r, hr⟩ := typed_ent h
  rw [hr] at hx
  exact ⟨r, hx⟩
theorem typed_intsL {cs : List D} (h : TypedC (.list (.int .i64)) cs) : ∃ nl l, cs = [.list nl (ints l)] ∧ (nl = true → l = []) :=
  typed_listN (T := .int .i64) (D.int .i64) (fun cs h => by obtain ⟨n, rfl⟩ := typed_int h; exact ⟨n, rfl⟩) h
theorem typed_entsL {cs : List D} (h : TypedC (.list (.str [.int .i64, .int .i64, .int .i64])) cs) : ∃ nl l, cs = [.list nl (wrsD l)] ∧ (nl = true → l = []) :=
  typed_listN wrD (fun cs h => by obtain ⟨r, rfl⟩ := typed_ent h; exact ⟨r, rfl⟩) h
theorem typed_entsV {x : D} (h : TypedV (.list (.str [.int .i64, .int .i64, .int .i64])) x) : ∃ nl l, x = .list nl (wrsD l) ∧ (nl = true → l = []) := by
  obtain ⟨h, hx⟩ := h
  obtain ⟨nl, l, hn, h0⟩ := typed_entsL h
  rw [hn] at hx
  exact ⟨nl, l, hx, h0⟩
/-- What is written when the power fails. -/
structure GWg where
  nw : Bool
  es : List GWr
  d : Int
  torn : Bool
  nh : Bool
  home : List Int
instance : Inhabited GWg := ⟨⟨true, [], 0, false, true, []⟩⟩
def wgC (x : GWg) : List D := [.list x.nw (wrsD x.es), .int .i64 x.d, .bool x.torn, .list x.nh (ints x.home)]
def wgD (x : GWg) : D := .agg (wgC x)
theorem wgC_eq (x : GWg) : wgC x = [.list x.nw (wrsD x.es), .int .i64 x.d, .bool x.torn, .list x.nh (ints x.home)] := rfl
theorem wgD_eq (x : GWg) : wgD x = .agg (wgC x) := rfl
def wgsD (l : List GWg) : List D := l.map wgD
theorem wgsD_len (l : List GWg) : (wgsD l).length = l.length := by simp [wgsD]
theorem wgsD_unif (l : List GWg) : Unif 4 (wgsD l) = True := unif_map fun _ => rfl
theorem onSome_wgs {l : List GWg} {i : Nat} {A : D → Prop} : onSome (wgsD l)[i]? A = (i < l.length ∧ A (wgD (l[i]?.getD default))) := onSome_map
def GWg.ok (x : GWg) : Prop := (x.nw = true → x.es = []) ∧ (x.nh = true → x.home = [])
theorem typed_wg {cs : List D} (h : TypedC wrtT cs) : ∃ x : {x : GWg // x.ok}, cs = wgC x.1 := by
  obtain ⟨_, _, e1, h1, h⟩ := typed_cons h
  obtain ⟨_, _, e2, h2, h⟩ := typed_cons h
  obtain ⟨_, _, e3, h3, h⟩ := typed_cons h
  obtain ⟨_, _, e4, h4, h⟩ := typed_cons h
  obtain rfl := typed_nil h
  obtain ⟨nw, es, rfl, hw⟩ := typed_entsL h1
  obtain ⟨n2, rfl⟩ := typed_int h2
  obtain ⟨b, rfl⟩ := typed_bool h3
  obtain ⟨nh, home, rfl, hh⟩ := typed_intsL h4
  subst e4 e3 e2
  exact ⟨⟨⟨nw, es, n2, b, nh, home⟩, hw, hh⟩, e1⟩
theorem typed_wgV {x : D} (h : TypedV wrtT x) : ∃ y : GWg, x = wgD y ∧ y.ok := by
  obtain ⟨h, hx⟩ := h
  obtain ⟨⟨r, hr0⟩, hr⟩ := typed_wg h
  rw [hr] at hx
  exact ⟨r, hx, hr0⟩
theorem typed_wgsV {x : D} (h : TypedV (.list wrtT) x) : ∃ nl l, x = .list nl (wgsD l) ∧ (nl = true → l = []) ∧ ∀ y, y ∈ l → y.ok := by
  obtain ⟨h, hx⟩ := h
  obtain ⟨nl, l, hn, h0⟩ := typed_listN (fun y : {x : GWg // x.ok} => wgD y.1) (fun cs h => by obtain ⟨r, rfl⟩ := typed_wg h; exact ⟨r, rfl⟩) h
  rw [hn] at hx
  refine ⟨nl, l.map (·.1), ?_, fun hh => by rw [h0 hh]; rfl, fun y hy => ?_⟩
  · rw [hx]; simp [wgsD, List.map_map, Function.comp_def]
    rfl
  · obtain ⟨z, _, rfl⟩ := List.mem_map.1 hy
    exact z.2
end Go.Pw
