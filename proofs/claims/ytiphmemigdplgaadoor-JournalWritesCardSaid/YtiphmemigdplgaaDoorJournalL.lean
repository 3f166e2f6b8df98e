/- A part of the proof. -/
import Derived.Test.YtiphmemigdplgaaDoorRows
import Derived.Test.YtiphmemigdplgaaDoorTie
import Derived.Test.YtiphmemigdplgaaDoorCards
import Derived.SevenTiedAt
import Derived.LaidLaws
import Derived.Test.YtiphmemigdplgaaDoorJournalPC
import Derived.Test.YtiphmemigdplgaaDoorJournalT
set_option linter.all false
namespace Go.Proofs.YtiphmemigdplgaaDoor
open Go.ChangeShapes Go.WideShapes Go.ChangeAt Go.RowKit Go.Pw

theorem own : ownKnob Tryd.prog.godebug = .none := by kernel_rfl
theorem laidOut : laidOutB Tryd.prog = true := by kernel_rfl
abbrev laidL : List (String × DataW Unit) := [("platter/journal.empty", Rows.laid_platter_journal_empty), ("platter/journal.bad", Rows.laid_platter_journal_bad)]
theorem gEmpty : Tryd.prog.globalNamed "platter/journal.empty" = some 1 := by kernel_rfl
theorem gBad : Tryd.prog.globalNamed "platter/journal.bad" = some 0 := by kernel_rfl
theorem tyEmpty : (Tryd.prog.globals[1]?).map (·.type) = some 40 := by kernel_rfl
theorem tyBad : (Tryd.prog.globals[0]?).map (·.type) = some 40 := by kernel_rfl
theorem flat40 : flatT Tryd.prog 20 40 = true := by kernel_rfl
theorem flatE : flatF 20 Rows.laid_platter_journal_empty = some [.int .i64 (-1), .int .i64 0, .int .i64 0, .int .i64 0, .bool false] := by kernel_rfl
theorem flatB : flatF 20 Rows.laid_platter_journal_bad = some [.int .i64 0, .int .i64 0, .int .i64 0, .int .i64 0, .bool true] := by kernel_rfl
/-- The variables hold what the program takes for granted. -/
theorem laid_ok {W : World} (h : laidMet Tryd.prog laidL W) : GOK E0 W fun _ => False := by
  intro g cs hg
  change G0 g = some cs at hg
  unfold G0 at hg
  by_cases h1 : g = 1
  · subst h1
    simp at hg; subst hg
    exact laid_ptr h (n := "platter/journal.empty") (d := Rows.laid_platter_journal_empty) (by simp [laidL]) gEmpty tyEmpty flat40 flatE (by simp)
  · rw [if_neg h1] at hg
    by_cases h0 : g = 0
    · subst h0
      simp at hg; subst hg
      exact laid_ptr h (n := "platter/journal.bad") (d := Rows.laid_platter_journal_bad) (by simp [laidL]) gBad tyBad flat40 flatB (by simp)
    · rw [if_neg h0] at hg; cases hg
/-- A world in which they are laid. -/
noncomputable def laidWorld (os : Os) : World :=
  let w0 := World.holding Tryd.prog os ⟨#[], #[], []⟩
  { w0 with heap := (w0.heap.modify 1 fun
      | .cells _ t frozen => .cells #[.int .i64 (-1), .int .i64 0, .int .i64 0, .int .i64 0, .bool false] t frozen
      | o => o).modify 0 fun
      | .cells _ t frozen => .cells #[.int .i64 0, .int .i64 0, .int .i64 0, .int .i64 0, .bool true] t frozen
      | o => o }
theorem laidWorld_met (os : Os) (args : Array Value) : laidMet Tryd.prog laidL ((laidWorld os).forCall (fun _ _ => 0) ⟨#[], args, []⟩).memory :=
  laidMet_of_run' 8 (by kernel_rfl) (by kernel_rfl)
end Go.Proofs.YtiphmemigdplgaaDoor
