/-
  DERIVED. GIVEN WITH THE SEED: THE CARDS: each row of YtmdklgapccickaaGreatDoorRows.lean that lists a variable, with what it lists TIED to the program's text (the seventh form; the later family's looks); each row that meets fmt, with fmt's text TOLD by the authors' own Lean function (tested against real Go, not proved from fmt's source: count such statements apart). THE CARD IS WHAT COUNTS. Prove the row's statement (the work); the ties are given (YtmdklgapccickaaGreatDoorTie.lean); close each card by the builder's one call (the guide's Derived/Test/ToyasCard.lean, 'card_holds'). Laid BY PROGRAM, IN A SANDBOX (cutbox-door.mjs). By AI agents, Wed Nov 11 2026. No macro, syntax, notation, axiom, sorry.
-/
import Derived.Test.YtmdklgapccickaaGreatDoorRows
import GoSem.ClaimSeven
namespace Go.Proofs.YtmdklgapccickaaGreatDoor
namespace Rows

/-- THE TIED CARD OF 'plattertop.TopRuled'. -/
def topRuledCard : Claim7 := { stood := { row := topRuledRow, standIns := [], harness := (true, "a0422e53d5a47be366057f1b59722fdd815a2c7efe9b85c3c60b763a7974f292"), looks := false }, kinds := [], alts := [], laidByText := true, laidKinds := [.data, .data], laidTests := true, laidLooks := .later }
def TopRuledCardSaid : Prop := Claim7.holds Tryz.pinned (.plain (OpenSpec.ofChange topRuledSpec)) topRuledCard

/-- THE TIED CARD OF 'plattertop.TopMoved'. -/
def topMovedCard : Claim7 := { stood := { row := topMovedRow, standIns := [], harness := (true, "a0422e53d5a47be366057f1b59722fdd815a2c7efe9b85c3c60b763a7974f292"), looks := false }, kinds := [], alts := [], laidByText := true, laidKinds := [.data, .data], laidTests := true, laidLooks := .later }
def TopMovedCardSaid : Prop := Claim7.holds Tryz.pinned (.plain (OpenSpec.ofChange topMovedSpec)) topMovedCard

/-- THE SECOND FORM's CARD OF 'plattertop.TopRuled'. -/
def topRuledUptoCard : Claim7 := { stood := { row := topRuledUptoRow, standIns := [], harness := (true, "a0422e53d5a47be366057f1b59722fdd815a2c7efe9b85c3c60b763a7974f292"), looks := false }, kinds := [], alts := [], laidByText := true, laidKinds := [.data, .data], laidTests := true, laidLooks := .later }
def TopRuledUptoCardSaid : Prop := Claim7.holds Tryz.pinned (.plain (OpenSpec.upto topRuledSpec)) topRuledUptoCard

/-- THE SECOND FORM's CARD OF 'plattertop.TopMoved'. -/
def topMovedUptoCard : Claim7 := { stood := { row := topMovedUptoRow, standIns := [], harness := (true, "a0422e53d5a47be366057f1b59722fdd815a2c7efe9b85c3c60b763a7974f292"), looks := false }, kinds := [], alts := [], laidByText := true, laidKinds := [.data, .data], laidTests := true, laidLooks := .later }
def TopMovedUptoCardSaid : Prop := Claim7.holds Tryz.pinned (.plain (OpenSpec.upto topMovedSpec)) topMovedUptoCard
end Rows
end Go.Proofs.YtmdklgapccickaaGreatDoor
