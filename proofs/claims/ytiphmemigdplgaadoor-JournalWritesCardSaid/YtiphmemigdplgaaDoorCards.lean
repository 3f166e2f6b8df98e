/-
  DERIVED. GIVEN WITH THE SEED: THE CARDS: each row of YtiphmemigdplgaaDoorRows.lean that lists a variable, with what it lists TIED to the program's text (the seventh form; the later family's looks); each row that meets fmt, with fmt's text TOLD by the authors' own Lean function (tested against real Go, not proved from fmt's source: count such statements apart). THE CARD IS WHAT COUNTS. Prove the row's statement (the work); the ties are given (YtiphmemigdplgaaDoorTie.lean); close each card by the builder's one call (the guide's Derived/Test/ToyasCard.lean, 'card_holds'). Laid BY PROGRAM, IN A SANDBOX (cutbox-door.mjs). By AI agents, Wed Nov 11 2026. No macro, syntax, notation, axiom, sorry.
-/
import Derived.Test.YtiphmemigdplgaaDoorRows
import GoSem.ClaimSeven
namespace Go.Proofs.YtiphmemigdplgaaDoor
namespace Rows

/-- THE TIED CARD OF 'platterlaw16.JournalReplay'. -/
def journalReplayCard : Claim7 := { stood := { row := journalReplayRow, standIns := [], harness := (true, "6692344d1e236e788261efa845985236750d870417024a8780b085c5a0b5b1ba"), looks := false }, kinds := [], alts := [], laidByText := true, laidKinds := [.data, .data], laidTests := true, laidLooks := .later }
def JournalReplayCardSaid : Prop := Claim7.holds Tryd.pinned (.plain (OpenSpec.ofChange journalReplaySpec)) journalReplayCard

/-- THE TIED CARD OF 'platterlaw16.JournalAgain'. -/
def journalAgainCard : Claim7 := { stood := { row := journalAgainRow, standIns := [], harness := (true, "6692344d1e236e788261efa845985236750d870417024a8780b085c5a0b5b1ba"), looks := false }, kinds := [], alts := [], laidByText := true, laidKinds := [.data, .data], laidTests := true, laidLooks := .later }
def JournalAgainCardSaid : Prop := Claim7.holds Tryd.pinned (.plain (OpenSpec.ofChange journalAgainSpec)) journalAgainCard

/-- THE TIED CARD OF 'platterlaw16.JournalWrites'. -/
def journalWritesCard : Claim7 := { stood := { row := journalWritesRow, standIns := [], harness := (true, "6692344d1e236e788261efa845985236750d870417024a8780b085c5a0b5b1ba"), looks := false }, kinds := [], alts := [], laidByText := true, laidKinds := [.data, .data], laidTests := true, laidLooks := .later }
def JournalWritesCardSaid : Prop := Claim7.holds Tryd.pinned (.plain (OpenSpec.ofChange journalWritesSpec)) journalWritesCard

/-- THE TIED CARD OF 'platterlaw16.JournalKept'. -/
def journalKeptCard : Claim7 := { stood := { row := journalKeptRow, standIns := [], harness := (true, "6692344d1e236e788261efa845985236750d870417024a8780b085c5a0b5b1ba"), looks := false }, kinds := [], alts := [], laidByText := true, laidKinds := [.data, .data], laidTests := true, laidLooks := .later }
def JournalKeptCardSaid : Prop := Claim7.holds Tryd.pinned (.plain (OpenSpec.ofChange journalKeptSpec)) journalKeptCard

/-- THE TIED CARD OF 'platterlaw16.JournalCut'. -/
def journalCutCard : Claim7 := { stood := { row := journalCutRow, standIns := [], harness := (true, "6692344d1e236e788261efa845985236750d870417024a8780b085c5a0b5b1ba"), looks := false }, kinds := [], alts := [], laidByText := true, laidKinds := [.data, .data], laidTests := true, laidLooks := .later }
def JournalCutCardSaid : Prop := Claim7.holds Tryd.pinned (.plain (OpenSpec.ofChange journalCutSpec)) journalCutCard

/-- THE TIED CARD OF 'platterlaw16.JournalOld'. -/
def journalOldCard : Claim7 := { stood := { row := journalOldRow, standIns := [], harness := (true, "6692344d1e236e788261efa845985236750d870417024a8780b085c5a0b5b1ba"), looks := false }, kinds := [], alts := [], laidByText := true, laidKinds := [.data, .data], laidTests := true, laidLooks := .later }
def JournalOldCardSaid : Prop := Claim7.holds Tryd.pinned (.plain (OpenSpec.ofChange journalOldSpec)) journalOldCard

/-- THE TIED CARD OF 'platterlaw16.JournalRoom'. -/
def journalRoomCard : Claim7 := { stood := { row := journalRoomRow, standIns := [], harness := (true, "6692344d1e236e788261efa845985236750d870417024a8780b085c5a0b5b1ba"), looks := false }, kinds := [], alts := [], laidByText := true, laidKinds := [.data, .data], laidTests := true, laidLooks := .later }
def JournalRoomCardSaid : Prop := Claim7.holds Tryd.pinned (.plain (OpenSpec.ofChange journalRoomSpec)) journalRoomCard

/-- THE TIED CARD OF 'platterlaw16.JournalRuns'. -/
def journalRunsCard : Claim7 := { stood := { row := journalRunsRow, standIns := [], harness := (true, "6692344d1e236e788261efa845985236750d870417024a8780b085c5a0b5b1ba"), looks := false }, kinds := [], alts := [], laidByText := true, laidKinds := [.data, .data], laidTests := true, laidLooks := .later }
def JournalRunsCardSaid : Prop := Claim7.holds Tryd.pinned (.plain (OpenSpec.ofChange journalRunsSpec)) journalRunsCard

/-- THE TIED CARD OF 'platterlaw16.JournalScan'. -/
def journalScanCard : Claim7 := { stood := { row := journalScanRow, standIns := [], harness := (true, "6692344d1e236e788261efa845985236750d870417024a8780b085c5a0b5b1ba"), looks := false }, kinds := [], alts := [], laidByText := true, laidKinds := [.data, .data], laidTests := true, laidLooks := .later }
def JournalScanCardSaid : Prop := Claim7.holds Tryd.pinned (.plain (OpenSpec.ofChange journalScanSpec)) journalScanCard

/-- THE SECOND FORM's CARD OF 'platterlaw16.JournalReplay'. -/
def journalReplayUptoCard : Claim7 := { stood := { row := journalReplayUptoRow, standIns := [], harness := (true, "6692344d1e236e788261efa845985236750d870417024a8780b085c5a0b5b1ba"), looks := false }, kinds := [], alts := [], laidByText := true, laidKinds := [.data, .data], laidTests := true, laidLooks := .later }
def JournalReplayUptoCardSaid : Prop := Claim7.holds Tryd.pinned (.plain (OpenSpec.upto journalReplaySpec)) journalReplayUptoCard

/-- THE SECOND FORM's CARD OF 'platterlaw16.JournalAgain'. -/
def journalAgainUptoCard : Claim7 := { stood := { row := journalAgainUptoRow, standIns := [], harness := (true, "6692344d1e236e788261efa845985236750d870417024a8780b085c5a0b5b1ba"), looks := false }, kinds := [], alts := [], laidByText := true, laidKinds := [.data, .data], laidTests := true, laidLooks := .later }
def JournalAgainUptoCardSaid : Prop := Claim7.holds Tryd.pinned (.plain (OpenSpec.upto journalAgainSpec)) journalAgainUptoCard

/-- THE SECOND FORM's CARD OF 'platterlaw16.JournalWrites'. -/
def journalWritesUptoCard : Claim7 := { stood := { row := journalWritesUptoRow, standIns := [], harness := (true, "6692344d1e236e788261efa845985236750d870417024a8780b085c5a0b5b1ba"), looks := false }, kinds := [], alts := [], laidByText := true, laidKinds := [.data, .data], laidTests := true, laidLooks := .later }
def JournalWritesUptoCardSaid : Prop := Claim7.holds Tryd.pinned (.plain (OpenSpec.upto journalWritesSpec)) journalWritesUptoCard

/-- THE SECOND FORM's CARD OF 'platterlaw16.JournalKept'. -/
def journalKeptUptoCard : Claim7 := { stood := { row := journalKeptUptoRow, standIns := [], harness := (true, "6692344d1e236e788261efa845985236750d870417024a8780b085c5a0b5b1ba"), looks := false }, kinds := [], alts := [], laidByText := true, laidKinds := [.data, .data], laidTests := true, laidLooks := .later }
def JournalKeptUptoCardSaid : Prop := Claim7.holds Tryd.pinned (.plain (OpenSpec.upto journalKeptSpec)) journalKeptUptoCard

/-- THE SECOND FORM's CARD OF 'platterlaw16.JournalCut'. -/
def journalCutUptoCard : Claim7 := { stood := { row := journalCutUptoRow, standIns := [], harness := (true, "6692344d1e236e788261efa845985236750d870417024a8780b085c5a0b5b1ba"), looks := false }, kinds := [], alts := [], laidByText := true, laidKinds := [.data, .data], laidTests := true, laidLooks := .later }
def JournalCutUptoCardSaid : Prop := Claim7.holds Tryd.pinned (.plain (OpenSpec.upto journalCutSpec)) journalCutUptoCard

/-- THE SECOND FORM's CARD OF 'platterlaw16.JournalOld'. -/
def journalOldUptoCard : Claim7 := { stood := { row := journalOldUptoRow, standIns := [], harness := (true, "6692344d1e236e788261efa845985236750d870417024a8780b085c5a0b5b1ba"), looks := false }, kinds := [], alts := [], laidByText := true, laidKinds := [.data, .data], laidTests := true, laidLooks := .later }
def JournalOldUptoCardSaid : Prop := Claim7.holds Tryd.pinned (.plain (OpenSpec.upto journalOldSpec)) journalOldUptoCard

/-- THE SECOND FORM's CARD OF 'platterlaw16.JournalRoom'. -/
def journalRoomUptoCard : Claim7 := { stood := { row := journalRoomUptoRow, standIns := [], harness := (true, "6692344d1e236e788261efa845985236750d870417024a8780b085c5a0b5b1ba"), looks := false }, kinds := [], alts := [], laidByText := true, laidKinds := [.data, .data], laidTests := true, laidLooks := .later }
def JournalRoomUptoCardSaid : Prop := Claim7.holds Tryd.pinned (.plain (OpenSpec.upto journalRoomSpec)) journalRoomUptoCard

/-- THE SECOND FORM's CARD OF 'platterlaw16.JournalRuns'. -/
def journalRunsUptoCard : Claim7 := { stood := { row := journalRunsUptoRow, standIns := [], harness := (true, "6692344d1e236e788261efa845985236750d870417024a8780b085c5a0b5b1ba"), looks := false }, kinds := [], alts := [], laidByText := true, laidKinds := [.data, .data], laidTests := true, laidLooks := .later }
def JournalRunsUptoCardSaid : Prop := Claim7.holds Tryd.pinned (.plain (OpenSpec.upto journalRunsSpec)) journalRunsUptoCard

/-- THE SECOND FORM's CARD OF 'platterlaw16.JournalScan'. -/
def journalScanUptoCard : Claim7 := { stood := { row := journalScanUptoRow, standIns := [], harness := (true, "6692344d1e236e788261efa845985236750d870417024a8780b085c5a0b5b1ba"), looks := false }, kinds := [], alts := [], laidByText := true, laidKinds := [.data, .data], laidTests := true, laidLooks := .later }
def JournalScanUptoCardSaid : Prop := Claim7.holds Tryd.pinned (.plain (OpenSpec.upto journalScanSpec)) journalScanUptoCard
end Rows
end Go.Proofs.YtiphmemigdplgaaDoor
