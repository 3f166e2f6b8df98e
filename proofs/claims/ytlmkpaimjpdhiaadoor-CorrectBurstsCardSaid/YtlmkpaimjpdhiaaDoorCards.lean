/-
  DERIVED. GIVEN WITH THE SEED: THE CARDS: each row of YtlmkpaimjpdhiaaDoorRows.lean that lists a variable, with what it lists TIED to the program's text (the seventh form; the later family's looks); each row that meets fmt, with fmt's text TOLD by the authors' own Lean function (tested against real Go, not proved from fmt's source: count such statements apart). THE CARD IS WHAT COUNTS. Prove the row's statement (the work); the ties are given (YtlmkpaimjpdhiaaDoorTie.lean); close each card by the builder's one call (the guide's Derived/Test/ToyasCard.lean, 'card_holds'). Laid BY PROGRAM, IN A SANDBOX (cutbox-door.mjs). By AI agents, Wed Nov 11 2026. No macro, syntax, notation, axiom, sorry.
-/
import Derived.Test.YtlmkpaimjpdhiaaDoorRows
import GoSem.ClaimSeven
namespace Go.Proofs.YtlmkpaimjpdhiaaDoor
namespace Rows

/-- THE TIED CARD OF 'platterlaw05.CorrectWords'. -/
def correctWordsCard : Claim7 := { stood := { row := correctWordsRow, standIns := [], harness := (true, "0abd95884abb6b952c8a38af0771e748f54eed6326078855c93a601e20447bef"), looks := false }, kinds := [], alts := [], laidByText := true, laidKinds := [.data, .data], laidTests := true, laidLooks := .later }
def CorrectWordsCardSaid : Prop := Claim7.holds Tryd.pinned (.plain (OpenSpec.ofChange correctWordsSpec)) correctWordsCard

/-- THE TIED CARD OF 'platterlaw05.CorrectBound'. -/
def correctBoundCard : Claim7 := { stood := { row := correctBoundRow, standIns := [], harness := (true, "0abd95884abb6b952c8a38af0771e748f54eed6326078855c93a601e20447bef"), looks := false }, kinds := [], alts := [], laidByText := true, laidKinds := [.data, .data], laidTests := true, laidLooks := .later }
def CorrectBoundCardSaid : Prop := Claim7.holds Tryd.pinned (.plain (OpenSpec.ofChange correctBoundSpec)) correctBoundCard

/-- THE TIED CARD OF 'platterlaw05.CorrectLinear'. -/
def correctLinearCard : Claim7 := { stood := { row := correctLinearRow, standIns := [], harness := (true, "0abd95884abb6b952c8a38af0771e748f54eed6326078855c93a601e20447bef"), looks := false }, kinds := [], alts := [], laidByText := true, laidKinds := [.data, .data], laidTests := true, laidLooks := .later }
def CorrectLinearCardSaid : Prop := Claim7.holds Tryd.pinned (.plain (OpenSpec.ofChange correctLinearSpec)) correctLinearCard

/-- THE TIED CARD OF 'platterlaw05.CorrectNoise'. -/
def correctNoiseCard : Claim7 := { stood := { row := correctNoiseRow, standIns := [], harness := (true, "0abd95884abb6b952c8a38af0771e748f54eed6326078855c93a601e20447bef"), looks := false }, kinds := [], alts := [], laidByText := true, laidKinds := [.data, .data], laidTests := true, laidLooks := .later }
def CorrectNoiseCardSaid : Prop := Claim7.holds Tryd.pinned (.plain (OpenSpec.ofChange correctNoiseSpec)) correctNoiseCard

/-- THE TIED CARD OF 'platterlaw05.CorrectRefused'. -/
def correctRefusedCard : Claim7 := { stood := { row := correctRefusedRow, standIns := [], harness := (true, "0abd95884abb6b952c8a38af0771e748f54eed6326078855c93a601e20447bef"), looks := false }, kinds := [], alts := [], laidByText := true, laidKinds := [.data, .data], laidTests := true, laidLooks := .later }
def CorrectRefusedCardSaid : Prop := Claim7.holds Tryd.pinned (.plain (OpenSpec.ofChange correctRefusedSpec)) correctRefusedCard

/-- THE TIED CARD OF 'platterlaw05.CorrectMisled'. -/
def correctMisledCard : Claim7 := { stood := { row := correctMisledRow, standIns := [], harness := (true, "0abd95884abb6b952c8a38af0771e748f54eed6326078855c93a601e20447bef"), looks := false }, kinds := [], alts := [], laidByText := true, laidKinds := [.data, .data], laidTests := true, laidLooks := .later }
def CorrectMisledCardSaid : Prop := Claim7.holds Tryd.pinned (.plain (OpenSpec.ofChange correctMisledSpec)) correctMisledCard

/-- THE TIED CARD OF 'platterlaw05.CorrectMore'. -/
def correctMoreCard : Claim7 := { stood := { row := correctMoreRow, standIns := [], harness := (true, "0abd95884abb6b952c8a38af0771e748f54eed6326078855c93a601e20447bef"), looks := false }, kinds := [], alts := [], laidByText := true, laidKinds := [.data, .data], laidTests := true, laidLooks := .later }
def CorrectMoreCardSaid : Prop := Claim7.holds Tryd.pinned (.plain (OpenSpec.ofChange correctMoreSpec)) correctMoreCard

/-- THE TIED CARD OF 'platterlaw05.CorrectReads'. -/
def correctReadsCard : Claim7 := { stood := { row := correctReadsRow, standIns := [], harness := (true, "0abd95884abb6b952c8a38af0771e748f54eed6326078855c93a601e20447bef"), looks := false }, kinds := [], alts := [], laidByText := true, laidKinds := [.data, .data], laidTests := true, laidLooks := .later }
def CorrectReadsCardSaid : Prop := Claim7.holds Tryd.pinned (.plain (OpenSpec.ofChange correctReadsSpec)) correctReadsCard

/-- THE TIED CARD OF 'platterlaw05.CorrectReread'. -/
def correctRereadCard : Claim7 := { stood := { row := correctRereadRow, standIns := [], harness := (true, "0abd95884abb6b952c8a38af0771e748f54eed6326078855c93a601e20447bef"), looks := false }, kinds := [], alts := [], laidByText := true, laidKinds := [.data, .data], laidTests := true, laidLooks := .later }
def CorrectRereadCardSaid : Prop := Claim7.holds Tryd.pinned (.plain (OpenSpec.ofChange correctRereadSpec)) correctRereadCard

/-- THE TIED CARD OF 'platterlaw05.CorrectBlocks'. -/
def correctBlocksCard : Claim7 := { stood := { row := correctBlocksRow, standIns := [], harness := (true, "0abd95884abb6b952c8a38af0771e748f54eed6326078855c93a601e20447bef"), looks := false }, kinds := [], alts := [], laidByText := true, laidKinds := [.data, .data], laidTests := true, laidLooks := .later }
def CorrectBlocksCardSaid : Prop := Claim7.holds Tryd.pinned (.plain (OpenSpec.ofChange correctBlocksSpec)) correctBlocksCard

/-- THE TIED CARD OF 'platterlaw05.CorrectBursts'. -/
def correctBurstsCard : Claim7 := { stood := { row := correctBurstsRow, standIns := [], harness := (true, "0abd95884abb6b952c8a38af0771e748f54eed6326078855c93a601e20447bef"), looks := false }, kinds := [], alts := [], laidByText := true, laidKinds := [.data, .data], laidTests := true, laidLooks := .later }
def CorrectBurstsCardSaid : Prop := Claim7.holds Tryd.pinned (.plain (OpenSpec.ofChange correctBurstsSpec)) correctBurstsCard

/-- THE SECOND FORM's CARD OF 'platterlaw05.CorrectWords'. -/
def correctWordsUptoCard : Claim7 := { stood := { row := correctWordsUptoRow, standIns := [], harness := (true, "0abd95884abb6b952c8a38af0771e748f54eed6326078855c93a601e20447bef"), looks := false }, kinds := [], alts := [], laidByText := true, laidKinds := [.data, .data], laidTests := true, laidLooks := .later }
def CorrectWordsUptoCardSaid : Prop := Claim7.holds Tryd.pinned (.plain (OpenSpec.upto correctWordsSpec)) correctWordsUptoCard

/-- THE SECOND FORM's CARD OF 'platterlaw05.CorrectBound'. -/
def correctBoundUptoCard : Claim7 := { stood := { row := correctBoundUptoRow, standIns := [], harness := (true, "0abd95884abb6b952c8a38af0771e748f54eed6326078855c93a601e20447bef"), looks := false }, kinds := [], alts := [], laidByText := true, laidKinds := [.data, .data], laidTests := true, laidLooks := .later }
def CorrectBoundUptoCardSaid : Prop := Claim7.holds Tryd.pinned (.plain (OpenSpec.upto correctBoundSpec)) correctBoundUptoCard

/-- THE SECOND FORM's CARD OF 'platterlaw05.CorrectLinear'. -/
def correctLinearUptoCard : Claim7 := { stood := { row := correctLinearUptoRow, standIns := [], harness := (true, "0abd95884abb6b952c8a38af0771e748f54eed6326078855c93a601e20447bef"), looks := false }, kinds := [], alts := [], laidByText := true, laidKinds := [.data, .data], laidTests := true, laidLooks := .later }
def CorrectLinearUptoCardSaid : Prop := Claim7.holds Tryd.pinned (.plain (OpenSpec.upto correctLinearSpec)) correctLinearUptoCard

/-- THE SECOND FORM's CARD OF 'platterlaw05.CorrectNoise'. -/
def correctNoiseUptoCard : Claim7 := { stood := { row := correctNoiseUptoRow, standIns := [], harness := (true, "0abd95884abb6b952c8a38af0771e748f54eed6326078855c93a601e20447bef"), looks := false }, kinds := [], alts := [], laidByText := true, laidKinds := [.data, .data], laidTests := true, laidLooks := .later }
def CorrectNoiseUptoCardSaid : Prop := Claim7.holds Tryd.pinned (.plain (OpenSpec.upto correctNoiseSpec)) correctNoiseUptoCard

/-- THE SECOND FORM's CARD OF 'platterlaw05.CorrectRefused'. -/
def correctRefusedUptoCard : Claim7 := { stood := { row := correctRefusedUptoRow, standIns := [], harness := (true, "0abd95884abb6b952c8a38af0771e748f54eed6326078855c93a601e20447bef"), looks := false }, kinds := [], alts := [], laidByText := true, laidKinds := [.data, .data], laidTests := true, laidLooks := .later }
def CorrectRefusedUptoCardSaid : Prop := Claim7.holds Tryd.pinned (.plain (OpenSpec.upto correctRefusedSpec)) correctRefusedUptoCard

/-- THE SECOND FORM's CARD OF 'platterlaw05.CorrectMisled'. -/
def correctMisledUptoCard : Claim7 := { stood := { row := correctMisledUptoRow, standIns := [], harness := (true, "0abd95884abb6b952c8a38af0771e748f54eed6326078855c93a601e20447bef"), looks := false }, kinds := [], alts := [], laidByText := true, laidKinds := [.data, .data], laidTests := true, laidLooks := .later }
def CorrectMisledUptoCardSaid : Prop := Claim7.holds Tryd.pinned (.plain (OpenSpec.upto correctMisledSpec)) correctMisledUptoCard

/-- THE SECOND FORM's CARD OF 'platterlaw05.CorrectMore'. -/
def correctMoreUptoCard : Claim7 := { stood := { row := correctMoreUptoRow, standIns := [], harness := (true, "0abd95884abb6b952c8a38af0771e748f54eed6326078855c93a601e20447bef"), looks := false }, kinds := [], alts := [], laidByText := true, laidKinds := [.data, .data], laidTests := true, laidLooks := .later }
def CorrectMoreUptoCardSaid : Prop := Claim7.holds Tryd.pinned (.plain (OpenSpec.upto correctMoreSpec)) correctMoreUptoCard

/-- THE SECOND FORM's CARD OF 'platterlaw05.CorrectReads'. -/
def correctReadsUptoCard : Claim7 := { stood := { row := correctReadsUptoRow, standIns := [], harness := (true, "0abd95884abb6b952c8a38af0771e748f54eed6326078855c93a601e20447bef"), looks := false }, kinds := [], alts := [], laidByText := true, laidKinds := [.data, .data], laidTests := true, laidLooks := .later }
def CorrectReadsUptoCardSaid : Prop := Claim7.holds Tryd.pinned (.plain (OpenSpec.upto correctReadsSpec)) correctReadsUptoCard

/-- THE SECOND FORM's CARD OF 'platterlaw05.CorrectReread'. -/
def correctRereadUptoCard : Claim7 := { stood := { row := correctRereadUptoRow, standIns := [], harness := (true, "0abd95884abb6b952c8a38af0771e748f54eed6326078855c93a601e20447bef"), looks := false }, kinds := [], alts := [], laidByText := true, laidKinds := [.data, .data], laidTests := true, laidLooks := .later }
def CorrectRereadUptoCardSaid : Prop := Claim7.holds Tryd.pinned (.plain (OpenSpec.upto correctRereadSpec)) correctRereadUptoCard

/-- THE SECOND FORM's CARD OF 'platterlaw05.CorrectBlocks'. -/
def correctBlocksUptoCard : Claim7 := { stood := { row := correctBlocksUptoRow, standIns := [], harness := (true, "0abd95884abb6b952c8a38af0771e748f54eed6326078855c93a601e20447bef"), looks := false }, kinds := [], alts := [], laidByText := true, laidKinds := [.data, .data], laidTests := true, laidLooks := .later }
def CorrectBlocksUptoCardSaid : Prop := Claim7.holds Tryd.pinned (.plain (OpenSpec.upto correctBlocksSpec)) correctBlocksUptoCard

/-- THE SECOND FORM's CARD OF 'platterlaw05.CorrectBursts'. -/
def correctBurstsUptoCard : Claim7 := { stood := { row := correctBurstsUptoRow, standIns := [], harness := (true, "0abd95884abb6b952c8a38af0771e748f54eed6326078855c93a601e20447bef"), looks := false }, kinds := [], alts := [], laidByText := true, laidKinds := [.data, .data], laidTests := true, laidLooks := .later }
def CorrectBurstsUptoCardSaid : Prop := Claim7.holds Tryd.pinned (.plain (OpenSpec.upto correctBurstsSpec)) correctBurstsUptoCard
end Rows
end Go.Proofs.YtlmkpaimjpdhiaaDoor
