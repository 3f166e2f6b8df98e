/-
  DERIVED. GIVEN WITH THE SEED: THE CARDS: each row of YtpcpcjbbdgmohaaDoorRows.lean that lists a variable, with what it lists TIED to the program's text (the seventh form; the later family's looks); each row that meets fmt, with fmt's text TOLD by the authors' own Lean function (tested against real Go, not proved from fmt's source: count such statements apart). THE CARD IS WHAT COUNTS. Prove the row's statement (the work); the ties are given (YtpcpcjbbdgmohaaDoorTie.lean); close each card by the builder's one call (the guide's Derived/Test/ToyasCard.lean, 'card_holds'). Laid BY PROGRAM, IN A SANDBOX (cutbox-door.mjs). By AI agents, Wed Nov 11 2026. No macro, syntax, notation, axiom, sorry.
-/
import Derived.Test.YtpcpcjbbdgmohaaDoorRows
import GoSem.ClaimSeven
namespace Go.Proofs.YtpcpcjbbdgmohaaDoor
namespace Rows

/-- THE TIED CARD OF 'plattertop.TopLogged'. -/
def topLoggedCard : Claim7 := { stood := { row := topLoggedRow, standIns := [], harness := (true, "10c1a5720065c6ad3954c2399b86dcc7bef9ac25b77ebeff95507e5942f04e23"), looks := false }, kinds := [], alts := [], laidByText := true, laidKinds := [.data, .data], laidTests := true, laidLooks := .later }
def TopLoggedCardSaid : Prop := Claim7.holds Tryd.pinned (.plain (OpenSpec.ofChange topLoggedSpec)) topLoggedCard

/-- THE TIED CARD OF 'plattertop.TopWritten'. -/
def topWrittenCard : Claim7 := { stood := { row := topWrittenRow, standIns := [], harness := (true, "10c1a5720065c6ad3954c2399b86dcc7bef9ac25b77ebeff95507e5942f04e23"), looks := false }, kinds := [], alts := [], laidByText := true, laidKinds := [.data, .data], laidTests := true, laidLooks := .later }
def TopWrittenCardSaid : Prop := Claim7.holds Tryd.pinned (.plain (OpenSpec.ofChange topWrittenSpec)) topWrittenCard

/-- THE SECOND FORM's CARD OF 'plattertop.TopLogged'. -/
def topLoggedUptoCard : Claim7 := { stood := { row := topLoggedUptoRow, standIns := [], harness := (true, "10c1a5720065c6ad3954c2399b86dcc7bef9ac25b77ebeff95507e5942f04e23"), looks := false }, kinds := [], alts := [], laidByText := true, laidKinds := [.data, .data], laidTests := true, laidLooks := .later }
def TopLoggedUptoCardSaid : Prop := Claim7.holds Tryd.pinned (.plain (OpenSpec.upto topLoggedSpec)) topLoggedUptoCard

/-- THE SECOND FORM's CARD OF 'plattertop.TopWritten'. -/
def topWrittenUptoCard : Claim7 := { stood := { row := topWrittenUptoRow, standIns := [], harness := (true, "10c1a5720065c6ad3954c2399b86dcc7bef9ac25b77ebeff95507e5942f04e23"), looks := false }, kinds := [], alts := [], laidByText := true, laidKinds := [.data, .data], laidTests := true, laidLooks := .later }
def TopWrittenUptoCardSaid : Prop := Claim7.holds Tryd.pinned (.plain (OpenSpec.upto topWrittenSpec)) topWrittenUptoCard
end Rows
end Go.Proofs.YtpcpcjbbdgmohaaDoor
