/-
  DERIVED. GIVEN WITH THE SEED: THE CARDS: each row of YtibkjeolahobbaaGreatDoorRows.lean that lists a variable, with what it lists TIED to the program's text (the seventh form; the later family's looks); each row that meets fmt, with fmt's text TOLD by the authors' own Lean function (tested against real Go, not proved from fmt's source: count such statements apart). THE CARD IS WHAT COUNTS. Prove the row's statement (the work); the ties are given (YtibkjeolahobbaaGreatDoorTie.lean); close each card by the builder's one call (the guide's Derived/Test/ToyasCard.lean, 'card_holds'). Laid BY PROGRAM, IN A SANDBOX (cutbox-door.mjs). By AI agents, Wed Nov 11 2026. No macro, syntax, notation, axiom, sorry.
-/
import Derived.Test.YtibkjeolahobbaaGreatDoorRows
import GoSem.ClaimSeven
namespace Go.Proofs.YtibkjeolahobbaaGreatDoor
namespace Rows

/-- THE TIED CARD OF 'platterlaw13.ChannelSafe'. -/
def channelSafeCard : Claim7 := { stood := { row := channelSafeRow, standIns := [], harness := (true, "a4a6aec300245ff31a702702d67c258914883a885db6704ad2db47acb5f021c8"), looks := false }, kinds := [], alts := [], laidByText := true, laidKinds := [.data, .data], laidTests := true, laidLooks := .later }
def ChannelSafeCardSaid : Prop := Claim7.holds Tryz.pinned (.plain (OpenSpec.ofChange channelSafeSpec)) channelSafeCard

/-- THE TIED CARD OF 'platterlaw13.ChannelReads'. -/
def channelReadsCard : Claim7 := { stood := { row := channelReadsRow, standIns := [], harness := (true, "a4a6aec300245ff31a702702d67c258914883a885db6704ad2db47acb5f021c8"), looks := false }, kinds := [], alts := [], laidByText := true, laidKinds := [.data, .data], laidTests := true, laidLooks := .later }
def ChannelReadsCardSaid : Prop := Claim7.holds Tryz.pinned (.plain (OpenSpec.ofChange channelReadsSpec)) channelReadsCard

/-- THE TIED CARD OF 'platterlaw13.ChannelFew'. -/
def channelFewCard : Claim7 := { stood := { row := channelFewRow, standIns := [], harness := (true, "a4a6aec300245ff31a702702d67c258914883a885db6704ad2db47acb5f021c8"), looks := false }, kinds := [], alts := [], laidByText := true, laidKinds := [.data, .data], laidTests := true, laidLooks := .later }
def ChannelFewCardSaid : Prop := Claim7.holds Tryz.pinned (.plain (OpenSpec.ofChange channelFewSpec)) channelFewCard

/-- THE TIED CARD OF 'platterlaw13.ChannelBounds'. -/
def channelBoundsCard : Claim7 := { stood := { row := channelBoundsRow, standIns := [], harness := (true, "a4a6aec300245ff31a702702d67c258914883a885db6704ad2db47acb5f021c8"), looks := false }, kinds := [], alts := [], laidByText := true, laidKinds := [.data, .data], laidTests := true, laidLooks := .later }
def ChannelBoundsCardSaid : Prop := Claim7.holds Tryz.pinned (.plain (OpenSpec.ofChange channelBoundsSpec)) channelBoundsCard

/-- THE TIED CARD OF 'platterlaw13.ChannelJoins'. -/
def channelJoinsCard : Claim7 := { stood := { row := channelJoinsRow, standIns := [], harness := (true, "a4a6aec300245ff31a702702d67c258914883a885db6704ad2db47acb5f021c8"), looks := false }, kinds := [], alts := [], laidByText := true, laidKinds := [.data, .data], laidTests := true, laidLooks := .later }
def ChannelJoinsCardSaid : Prop := Claim7.holds Tryz.pinned (.plain (OpenSpec.ofChange channelJoinsSpec)) channelJoinsCard

/-- THE TIED CARD OF 'platterlaw13.ChannelAgain'. -/
def channelAgainCard : Claim7 := { stood := { row := channelAgainRow, standIns := [], harness := (true, "a4a6aec300245ff31a702702d67c258914883a885db6704ad2db47acb5f021c8"), looks := false }, kinds := [], alts := [], laidByText := true, laidKinds := [.data, .data], laidTests := true, laidLooks := .later }
def ChannelAgainCardSaid : Prop := Claim7.holds Tryz.pinned (.plain (OpenSpec.ofChange channelAgainSpec)) channelAgainCard

/-- THE SECOND FORM's CARD OF 'platterlaw13.ChannelSafe'. -/
def channelSafeUptoCard : Claim7 := { stood := { row := channelSafeUptoRow, standIns := [], harness := (true, "a4a6aec300245ff31a702702d67c258914883a885db6704ad2db47acb5f021c8"), looks := false }, kinds := [], alts := [], laidByText := true, laidKinds := [.data, .data], laidTests := true, laidLooks := .later }
def ChannelSafeUptoCardSaid : Prop := Claim7.holds Tryz.pinned (.plain (OpenSpec.upto channelSafeSpec)) channelSafeUptoCard

/-- THE SECOND FORM's CARD OF 'platterlaw13.ChannelReads'. -/
def channelReadsUptoCard : Claim7 := { stood := { row := channelReadsUptoRow, standIns := [], harness := (true, "a4a6aec300245ff31a702702d67c258914883a885db6704ad2db47acb5f021c8"), looks := false }, kinds := [], alts := [], laidByText := true, laidKinds := [.data, .data], laidTests := true, laidLooks := .later }
def ChannelReadsUptoCardSaid : Prop := Claim7.holds Tryz.pinned (.plain (OpenSpec.upto channelReadsSpec)) channelReadsUptoCard

/-- THE SECOND FORM's CARD OF 'platterlaw13.ChannelFew'. -/
def channelFewUptoCard : Claim7 := { stood := { row := channelFewUptoRow, standIns := [], harness := (true, "a4a6aec300245ff31a702702d67c258914883a885db6704ad2db47acb5f021c8"), looks := false }, kinds := [], alts := [], laidByText := true, laidKinds := [.data, .data], laidTests := true, laidLooks := .later }
def ChannelFewUptoCardSaid : Prop := Claim7.holds Tryz.pinned (.plain (OpenSpec.upto channelFewSpec)) channelFewUptoCard

/-- THE SECOND FORM's CARD OF 'platterlaw13.ChannelBounds'. -/
def channelBoundsUptoCard : Claim7 := { stood := { row := channelBoundsUptoRow, standIns := [], harness := (true, "a4a6aec300245ff31a702702d67c258914883a885db6704ad2db47acb5f021c8"), looks := false }, kinds := [], alts := [], laidByText := true, laidKinds := [.data, .data], laidTests := true, laidLooks := .later }
def ChannelBoundsUptoCardSaid : Prop := Claim7.holds Tryz.pinned (.plain (OpenSpec.upto channelBoundsSpec)) channelBoundsUptoCard

/-- THE SECOND FORM's CARD OF 'platterlaw13.ChannelJoins'. -/
def channelJoinsUptoCard : Claim7 := { stood := { row := channelJoinsUptoRow, standIns := [], harness := (true, "a4a6aec300245ff31a702702d67c258914883a885db6704ad2db47acb5f021c8"), looks := false }, kinds := [], alts := [], laidByText := true, laidKinds := [.data, .data], laidTests := true, laidLooks := .later }
def ChannelJoinsUptoCardSaid : Prop := Claim7.holds Tryz.pinned (.plain (OpenSpec.upto channelJoinsSpec)) channelJoinsUptoCard

/-- THE SECOND FORM's CARD OF 'platterlaw13.ChannelAgain'. -/
def channelAgainUptoCard : Claim7 := { stood := { row := channelAgainUptoRow, standIns := [], harness := (true, "a4a6aec300245ff31a702702d67c258914883a885db6704ad2db47acb5f021c8"), looks := false }, kinds := [], alts := [], laidByText := true, laidKinds := [.data, .data], laidTests := true, laidLooks := .later }
def ChannelAgainUptoCardSaid : Prop := Claim7.holds Tryz.pinned (.plain (OpenSpec.upto channelAgainSpec)) channelAgainUptoCard
end Rows
end Go.Proofs.YtibkjeolahobbaaGreatDoor
