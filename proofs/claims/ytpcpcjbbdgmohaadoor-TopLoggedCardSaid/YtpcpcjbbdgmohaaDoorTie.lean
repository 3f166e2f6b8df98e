/-
  DERIVED. GIVEN WITH THE SEED: THE PROGRAM's TIES (one call each: nine closed facts by the kernel) AND EACH ROW's TIE, after the 31st guide's Derived/Test/Toyas{Tie, Card}.lean. No idea stands in it: it is a product of the set-up. Laid BY PROGRAM, IN A SANDBOX (cutbox-door.mjs). By AI agents, Wed Nov 11 2026. No macro, syntax, notation, axiom, sorry.
-/
import Derived.Test.YtpcpcjbbdgmohaaDoorRows
import Derived.LaidByTextLater
import Derived.SevenTiedAt
import Derived.LaidSub
import Derived.LaidOnce
namespace Go.Proofs.YtpcpcjbbdgmohaaDoor
open Go
set_option maxRecDepth 100000
theorem seatTie1 : Tryd.prog.laidByTextLater [("platter/correct.powers", Rows.laid_platter_correct_powers), ("platter/correct.logs", Rows.laid_platter_correct_logs), ("platter/journal.empty", Rows.laid_platter_journal_empty), ("platter/journal.bad", Rows.laid_platter_journal_bad)] [.data, .data, .data, .data] true :=
  Program.laidByTextLater_by_one 29 8 17 (by kernel_rfl) (by kernel_rfl) (by kernel_rfl) (by kernel_rfl) (by kernel_rfl) (by kernel_rfl) (fun _ _ => by kernel_rfl)
theorem noOwnUnsafe : Tryd.pinned.checked.prog.headLifts.contains "ownunsafe" = false := by kernel_rfl
theorem tie : Tryd.prog.laidByTextLater [("platter/journal.empty", Rows.laid_platter_journal_empty), ("platter/journal.bad", Rows.laid_platter_journal_bad)] [.data, .data] true :=
  Program.laidByTextLater.sub seatTie1 ["platter/journal.empty", "platter/journal.bad"] (by kernel_rfl) (by kernel_rfl)
theorem topLogged_row_tie : Rows.topLoggedRow.laidByTextAt .later Tryd.pinned [.data, .data] true :=
  OpenClaim.laidByTextAt_later rfl rfl tie noOwnUnsafe
theorem tie2 : Tryd.prog.laidByTextLater [("platter/correct.powers", Rows.laid_platter_correct_powers), ("platter/correct.logs", Rows.laid_platter_correct_logs)] [.data, .data] true :=
  Program.laidByTextLater.sub seatTie1 ["platter/correct.powers", "platter/correct.logs"] (by kernel_rfl) (by kernel_rfl)
theorem topWritten_row_tie : Rows.topWrittenRow.laidByTextAt .later Tryd.pinned [.data, .data] true :=
  OpenClaim.laidByTextAt_later rfl rfl tie2 noOwnUnsafe
theorem topLoggedUpto_row_tie : Rows.topLoggedUptoRow.laidByTextAt .later Tryd.pinned [.data, .data] true :=
  OpenClaim.laidByTextAt_later rfl rfl tie noOwnUnsafe
theorem topWrittenUpto_row_tie : Rows.topWrittenUptoRow.laidByTextAt .later Tryd.pinned [.data, .data] true :=
  OpenClaim.laidByTextAt_later rfl rfl tie2 noOwnUnsafe
end Go.Proofs.YtpcpcjbbdgmohaaDoor
