/-
  DERIVED. GIVEN WITH THE SEED: THE CARDS: each row of YtibkjeolahobbaaDoorRows.lean that lists a variable, with what it lists TIED to the program's text (the seventh form; the later family's looks); each row that meets fmt, with fmt's text TOLD by the authors' own Lean function (tested against real Go, not proved from fmt's source: count such statements apart). THE CARD IS WHAT COUNTS. Prove the row's statement (the work); the ties are given (YtibkjeolahobbaaDoorTie.lean); close each card by the builder's one call (the guide's Derived/Test/ToyasCard.lean, 'card_holds'). Laid BY PROGRAM, IN A SANDBOX (cutbox-door.mjs). By AI agents, Wed Nov 11 2026. No macro, syntax, notation, axiom, sorry.
-/
import Derived.Test.YtibkjeolahobbaaDoorRows
import GoSem.ClaimSeven
namespace Go.Proofs.YtibkjeolahobbaaDoor
namespace Rows

/-- THE TIED CARD OF 'platterlaw13.ChannelMark'. -/
def channelMarkCard : Claim7 := { stood := { row := channelMarkRow, standIns := [], harness := (true, "f6274cab74292efdbbaf683be546ddbb949fd1ce866ddf790f4640e9591ba5d6"), looks := false }, kinds := [], alts := [], laidByText := true, laidKinds := [.data, .data], laidTests := true, laidLooks := .later }
def ChannelMarkCardSaid : Prop := Claim7.holds Tryd.pinned (.plain (OpenSpec.ofChange channelMarkSpec)) channelMarkCard

/-- THE TIED CARD OF 'platterlaw13.ChannelWritten'. -/
def channelWrittenCard : Claim7 := { stood := { row := channelWrittenRow, standIns := [], harness := (true, "f6274cab74292efdbbaf683be546ddbb949fd1ce866ddf790f4640e9591ba5d6"), looks := false }, kinds := [], alts := [], laidByText := true, laidKinds := [.data, .data], laidTests := true, laidLooks := .later }
def ChannelWrittenCardSaid : Prop := Claim7.holds Tryd.pinned (.plain (OpenSpec.ofChange channelWrittenSpec)) channelWrittenCard

/-- THE TIED CARD OF 'platterlaw13.ChannelScratch'. -/
def channelScratchCard : Claim7 := { stood := { row := channelScratchRow, standIns := [], harness := (true, "f6274cab74292efdbbaf683be546ddbb949fd1ce866ddf790f4640e9591ba5d6"), looks := false }, kinds := [], alts := [], laidByText := true, laidKinds := [.data, .data], laidTests := true, laidLooks := .later }
def ChannelScratchCardSaid : Prop := Claim7.holds Tryd.pinned (.plain (OpenSpec.ofChange channelScratchSpec)) channelScratchCard

/-- THE SECOND FORM's CARD OF 'platterlaw13.ChannelMark'. -/
def channelMarkUptoCard : Claim7 := { stood := { row := channelMarkUptoRow, standIns := [], harness := (true, "f6274cab74292efdbbaf683be546ddbb949fd1ce866ddf790f4640e9591ba5d6"), looks := false }, kinds := [], alts := [], laidByText := true, laidKinds := [.data, .data], laidTests := true, laidLooks := .later }
def ChannelMarkUptoCardSaid : Prop := Claim7.holds Tryd.pinned (.plain (OpenSpec.upto channelMarkSpec)) channelMarkUptoCard

/-- THE SECOND FORM's CARD OF 'platterlaw13.ChannelWritten'. -/
def channelWrittenUptoCard : Claim7 := { stood := { row := channelWrittenUptoRow, standIns := [], harness := (true, "f6274cab74292efdbbaf683be546ddbb949fd1ce866ddf790f4640e9591ba5d6"), looks := false }, kinds := [], alts := [], laidByText := true, laidKinds := [.data, .data], laidTests := true, laidLooks := .later }
def ChannelWrittenUptoCardSaid : Prop := Claim7.holds Tryd.pinned (.plain (OpenSpec.upto channelWrittenSpec)) channelWrittenUptoCard

/-- THE SECOND FORM's CARD OF 'platterlaw13.ChannelScratch'. -/
def channelScratchUptoCard : Claim7 := { stood := { row := channelScratchUptoRow, standIns := [], harness := (true, "f6274cab74292efdbbaf683be546ddbb949fd1ce866ddf790f4640e9591ba5d6"), looks := false }, kinds := [], alts := [], laidByText := true, laidKinds := [.data, .data], laidTests := true, laidLooks := .later }
def ChannelScratchUptoCardSaid : Prop := Claim7.holds Tryd.pinned (.plain (OpenSpec.upto channelScratchSpec)) channelScratchUptoCard
end Rows
end Go.Proofs.YtibkjeolahobbaaDoor
