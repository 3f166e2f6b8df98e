/-
  NARROWER THAN 'FOR EVERY INPUT', by the rows' own cells (each row's printed sentence says how): ChannelSafe: laid · ChannelReads: laid · ChannelFew: laid · ChannelBounds: laid · ChannelJoins: laid · ChannelAgain: laid.
  DERIVED. THE GIVEN ROWS OF THIS SEAT. 6 by the template 'for every input the law returns true; each argument reads behind the call as it read before'; 0 by the template 'total and deterministic' (their statements: YtibkjeolahobbaaGreatDoorTotals.lean).
  GIVEN WITH THE SEED: the statements are not yours to turn. If you find one false, say at which input.
  Laid BY PROGRAM, IN A SANDBOX (cutbox-rows.mjs): the forced cells as the released guide's own fill.sh prints them over the translation 01f7290c05b37dd6… (all of the seat's roots in one cut). By AI agents, Wed Nov 11 2026. No macro, syntax, notation, axiom, sorry.
-/
import Derived.Test.YtibkjeolahobbaaGreatDoorChecked
import GoSem.Claim
import GoSem.ClaimJoined
import GoSem.ClaimMapViews
import Derived.JoinedTies
import Derived.KernelRfl
namespace Go.Proofs.YtibkjeolahobbaaGreatDoor
/- THE CELL 'sum', in the pinned program and in every row, IS THE sha256 OF THE DUMP (.gsa) THAT YtibkjeolahobbaaGreatDoorProg.lean LOADS. Nothing in Lean hashes anything: it is a label: what it is worth is what the hold of that sum in a sandbox is worth. -/
noncomputable def Tryz.pinned : Pinned := { name := "ytibkjeolahobbaagreatdoor", sum := "01f7290c05b37dd630989ba7b6361553191f4d7d035a90c8138439b6c676e5af", checked := Tryz.checked }
namespace Rows
def none {H : Type} : Left H := { results := [], args := [] }

/- WHAT THE LISTED PACKAGE-LEVEL VARIABLES READ AS WHEN THE CALL BEGINS. Each datum BY PROGRAM (the guide's laid-datum.mjs) off the statement by which the dump's own 'gosem.cut.vars' lays the variable. In a bare row this is a premise. The card (YtibkjeolahobbaaGreatDoorCards.lean) ties it to the program's text. -/
def laid_platter_correct_powers {H : Type} : DataW H := .agg [.lit (.int .u8 1), .lit (.int .u8 2), .lit (.int .u8 4), .lit (.int .u8 8), .lit (.int .u8 3), .lit (.int .u8 6), .lit (.int .u8 12), .lit (.int .u8 11), .lit (.int .u8 5), .lit (.int .u8 10), .lit (.int .u8 7), .lit (.int .u8 14), .lit (.int .u8 15), .lit (.int .u8 13), .lit (.int .u8 9)]
def laid_platter_correct_logs {H : Type} : DataW H := .agg [.lit (.int .i64 0), .lit (.int .i64 0), .lit (.int .i64 1), .lit (.int .i64 4), .lit (.int .i64 2), .lit (.int .i64 8), .lit (.int .i64 5), .lit (.int .i64 10), .lit (.int .i64 3), .lit (.int .i64 14), .lit (.int .i64 9), .lit (.int .i64 7), .lit (.int .i64 6), .lit (.int .i64 13), .lit (.int .i64 11), .lit (.int .i64 12)]

/-- 'platterlaw13.ChannelSafe': WHATEVER THE INPUT: true; the input reads as it did. -/
def channelSafeSpec : ChangeSpec := { name := "channelSafe", fn := fun _ => fun
  | [d1, d2] => { results := [.lit (.bool true)], args := [d1, d2] }
  | _ => none }
def channelSafeRow : OpenClaim := { program := "ytibkjeolahobbaagreatdoor", sum := "01f7290c05b37dd630989ba7b6361553191f4d7d035a90c8138439b6c676e5af", func := "platter/platterlaw13.ChannelSafe", spec := "channelSafe", unfollowed := true, recurses := true, named := ["platter/correct.powers", "platter/correct.logs"], apart := false, laid := [("platter/correct.powers", laid_platter_correct_powers), ("platter/correct.logs", laid_platter_correct_logs)] }
def ChannelSafeSaid : Prop := channelSafeRow.holds Tryz.pinned (OpenSpec.ofChange channelSafeSpec)

/-- ITS FALSE NEIGHBOUR: 'it returns false'. Refute it at one input. -/
def channelSafeWrong : ChangeSpec := { name := "channelSafe", fn := fun _ => fun
  | [d1, d2] => { results := [.lit (.bool false)], args := [d1, d2] }
  | _ => none }
def ChannelSafeWrongFalsely : Prop := channelSafeRow.holds Tryz.pinned (OpenSpec.ofChange channelSafeWrong)

/-- 'platterlaw13.ChannelReads': WHATEVER THE INPUT: true; the input reads as it did. -/
def channelReadsSpec : ChangeSpec := { name := "channelReads", fn := fun _ => fun
  | [d1, d2] => { results := [.lit (.bool true)], args := [d1, d2] }
  | _ => none }
def channelReadsRow : OpenClaim := { program := "ytibkjeolahobbaagreatdoor", sum := "01f7290c05b37dd630989ba7b6361553191f4d7d035a90c8138439b6c676e5af", func := "platter/platterlaw13.ChannelReads", spec := "channelReads", unfollowed := true, recurses := true, named := ["platter/correct.powers", "platter/correct.logs"], apart := false, laid := [("platter/correct.powers", laid_platter_correct_powers), ("platter/correct.logs", laid_platter_correct_logs)] }
def ChannelReadsSaid : Prop := channelReadsRow.holds Tryz.pinned (OpenSpec.ofChange channelReadsSpec)

/-- ITS FALSE NEIGHBOUR: 'it returns false'. Refute it at one input. -/
def channelReadsWrong : ChangeSpec := { name := "channelReads", fn := fun _ => fun
  | [d1, d2] => { results := [.lit (.bool false)], args := [d1, d2] }
  | _ => none }
def ChannelReadsWrongFalsely : Prop := channelReadsRow.holds Tryz.pinned (OpenSpec.ofChange channelReadsWrong)

/-- 'platterlaw13.ChannelFew': WHATEVER THE INPUT: true; the input reads as it did. -/
def channelFewSpec : ChangeSpec := { name := "channelFew", fn := fun _ => fun
  | [d1, d2] => { results := [.lit (.bool true)], args := [d1, d2] }
  | _ => none }
def channelFewRow : OpenClaim := { program := "ytibkjeolahobbaagreatdoor", sum := "01f7290c05b37dd630989ba7b6361553191f4d7d035a90c8138439b6c676e5af", func := "platter/platterlaw13.ChannelFew", spec := "channelFew", unfollowed := true, recurses := true, named := ["platter/correct.powers", "platter/correct.logs"], apart := false, laid := [("platter/correct.powers", laid_platter_correct_powers), ("platter/correct.logs", laid_platter_correct_logs)] }
def ChannelFewSaid : Prop := channelFewRow.holds Tryz.pinned (OpenSpec.ofChange channelFewSpec)

/-- ITS FALSE NEIGHBOUR: 'it returns false'. Refute it at one input. -/
def channelFewWrong : ChangeSpec := { name := "channelFew", fn := fun _ => fun
  | [d1, d2] => { results := [.lit (.bool false)], args := [d1, d2] }
  | _ => none }
def ChannelFewWrongFalsely : Prop := channelFewRow.holds Tryz.pinned (OpenSpec.ofChange channelFewWrong)

/-- 'platterlaw13.ChannelBounds': WHATEVER THE INPUT: true; the input reads as it did. -/
def channelBoundsSpec : ChangeSpec := { name := "channelBounds", fn := fun _ => fun
  | [d] => { results := [.lit (.bool true)], args := [d] }
  | _ => none }
def channelBoundsRow : OpenClaim := { program := "ytibkjeolahobbaagreatdoor", sum := "01f7290c05b37dd630989ba7b6361553191f4d7d035a90c8138439b6c676e5af", func := "platter/platterlaw13.ChannelBounds", spec := "channelBounds", unfollowed := true, recurses := true, named := ["platter/correct.powers", "platter/correct.logs"], apart := false, laid := [("platter/correct.powers", laid_platter_correct_powers), ("platter/correct.logs", laid_platter_correct_logs)] }
def ChannelBoundsSaid : Prop := channelBoundsRow.holds Tryz.pinned (OpenSpec.ofChange channelBoundsSpec)

/-- ITS FALSE NEIGHBOUR: 'it returns false'. Refute it at one input. -/
def channelBoundsWrong : ChangeSpec := { name := "channelBounds", fn := fun _ => fun
  | [d] => { results := [.lit (.bool false)], args := [d] }
  | _ => none }
def ChannelBoundsWrongFalsely : Prop := channelBoundsRow.holds Tryz.pinned (OpenSpec.ofChange channelBoundsWrong)

/-- 'platterlaw13.ChannelJoins': WHATEVER THE INPUT: true; the input reads as it did. -/
def channelJoinsSpec : ChangeSpec := { name := "channelJoins", fn := fun _ => fun
  | [d1, d2] => { results := [.lit (.bool true)], args := [d1, d2] }
  | _ => none }
def channelJoinsRow : OpenClaim := { program := "ytibkjeolahobbaagreatdoor", sum := "01f7290c05b37dd630989ba7b6361553191f4d7d035a90c8138439b6c676e5af", func := "platter/platterlaw13.ChannelJoins", spec := "channelJoins", unfollowed := true, recurses := true, named := ["platter/correct.powers", "platter/correct.logs"], apart := false, laid := [("platter/correct.powers", laid_platter_correct_powers), ("platter/correct.logs", laid_platter_correct_logs)] }
def ChannelJoinsSaid : Prop := channelJoinsRow.holds Tryz.pinned (OpenSpec.ofChange channelJoinsSpec)

/-- ITS FALSE NEIGHBOUR: 'it returns false'. Refute it at one input. -/
def channelJoinsWrong : ChangeSpec := { name := "channelJoins", fn := fun _ => fun
  | [d1, d2] => { results := [.lit (.bool false)], args := [d1, d2] }
  | _ => none }
def ChannelJoinsWrongFalsely : Prop := channelJoinsRow.holds Tryz.pinned (OpenSpec.ofChange channelJoinsWrong)

/-- 'platterlaw13.ChannelAgain': WHATEVER THE INPUT: true; the input reads as it did. -/
def channelAgainSpec : ChangeSpec := { name := "channelAgain", fn := fun _ => fun
  | [d1, d2, d3] => { results := [.lit (.bool true)], args := [d1, d2, d3] }
  | _ => none }
def channelAgainRow : OpenClaim := { program := "ytibkjeolahobbaagreatdoor", sum := "01f7290c05b37dd630989ba7b6361553191f4d7d035a90c8138439b6c676e5af", func := "platter/platterlaw13.ChannelAgain", spec := "channelAgain", unfollowed := true, recurses := true, named := ["platter/correct.powers", "platter/correct.logs"], apart := false, laid := [("platter/correct.powers", laid_platter_correct_powers), ("platter/correct.logs", laid_platter_correct_logs)] }
def ChannelAgainSaid : Prop := channelAgainRow.holds Tryz.pinned (OpenSpec.ofChange channelAgainSpec)

/-- ITS FALSE NEIGHBOUR: 'it returns false'. Refute it at one input. -/
def channelAgainWrong : ChangeSpec := { name := "channelAgain", fn := fun _ => fun
  | [d1, d2, d3] => { results := [.lit (.bool false)], args := [d1, d2, d3] }
  | _ => none }
def ChannelAgainWrongFalsely : Prop := channelAgainRow.holds Tryz.pinned (OpenSpec.ofChange channelAgainWrong)

/- THE SECOND FORM. 'bulk': how many values and letters a reading holds, each counted each time it is reached (what is shared counts as often as it is met; a slice's spare places count too). A statement '..UptoSaid' is the law's where the arguments, and the package variables that the reading takes, are together of bulk at most 1048576: NARROWER than '..Said'. Prove '..Said' where nothing that the law and all that it calls make is longer than what came in: it says more and counts as full. Else prove '..UptoSaid'. A law counts once. -/
mutual
def uptoBulk {H : Type} : DataW H → Nat
  | .lit (.string bytes) => bytes.length + 1
  | .lit _ => 1
  | .nil => 1
  | .ptr d => uptoBulk d + 1
  | .slice elems spare => uptoBulkAll elems + uptoBulkAll spare + 1
  | .agg parts => uptoBulkAll parts + 1
  | .iface _ d => uptoBulk d + 1
  | .map entries => uptoBulkEntries entries + 1
  | .held _ => 1
def uptoBulkAll {H : Type} : List (DataW H) → Nat
  | [] => 0
  | d :: r => uptoBulk d + uptoBulkAll r
def uptoBulkEntries {H : Type} : List (Lit × DataW H) → Nat
  | [] => 0
  | x :: r => uptoBulkEntry x + uptoBulkEntries r
def uptoBulkEntry {H : Type} : Lit × DataW H → Nat
  | (.string bytes, d) => bytes.length + uptoBulk d + 1
  | (_, d) => uptoBulk d + 1
 end
def uptoSmall : (H : Type) → List (DataW H) → Bool := fun _ ds => decide (uptoBulkAll ds ≤ 1048576)
def OpenSpec.upto (s : _root_.Go.ChangeSpec) : _root_.Go.OpenSpec := { _root_.Go.OpenSpec.ofChange s with cond := some uptoSmall }

/-- 'platterlaw13.ChannelSafe', WHERE WHAT IT READS IS OF BULK AT MOST 1048576: true; the input reads as it did. -/
def channelSafeUptoRow : OpenClaim := { program := "ytibkjeolahobbaagreatdoor", sum := "01f7290c05b37dd630989ba7b6361553191f4d7d035a90c8138439b6c676e5af", func := "platter/platterlaw13.ChannelSafe", spec := "channelSafe", unfollowed := true, recurses := true, named := ["platter/correct.powers", "platter/correct.logs"], apart := false, laid := [("platter/correct.powers", laid_platter_correct_powers), ("platter/correct.logs", laid_platter_correct_logs)], narrowed := true }
def ChannelSafeUptoSaid : Prop := channelSafeUptoRow.holds Tryz.pinned (OpenSpec.upto channelSafeSpec)

/-- 'platterlaw13.ChannelReads', WHERE WHAT IT READS IS OF BULK AT MOST 1048576: true; the input reads as it did. -/
def channelReadsUptoRow : OpenClaim := { program := "ytibkjeolahobbaagreatdoor", sum := "01f7290c05b37dd630989ba7b6361553191f4d7d035a90c8138439b6c676e5af", func := "platter/platterlaw13.ChannelReads", spec := "channelReads", unfollowed := true, recurses := true, named := ["platter/correct.powers", "platter/correct.logs"], apart := false, laid := [("platter/correct.powers", laid_platter_correct_powers), ("platter/correct.logs", laid_platter_correct_logs)], narrowed := true }
def ChannelReadsUptoSaid : Prop := channelReadsUptoRow.holds Tryz.pinned (OpenSpec.upto channelReadsSpec)

/-- 'platterlaw13.ChannelFew', WHERE WHAT IT READS IS OF BULK AT MOST 1048576: true; the input reads as it did. -/
def channelFewUptoRow : OpenClaim := { program := "ytibkjeolahobbaagreatdoor", sum := "01f7290c05b37dd630989ba7b6361553191f4d7d035a90c8138439b6c676e5af", func := "platter/platterlaw13.ChannelFew", spec := "channelFew", unfollowed := true, recurses := true, named := ["platter/correct.powers", "platter/correct.logs"], apart := false, laid := [("platter/correct.powers", laid_platter_correct_powers), ("platter/correct.logs", laid_platter_correct_logs)], narrowed := true }
def ChannelFewUptoSaid : Prop := channelFewUptoRow.holds Tryz.pinned (OpenSpec.upto channelFewSpec)

/-- 'platterlaw13.ChannelBounds', WHERE WHAT IT READS IS OF BULK AT MOST 1048576: true; the input reads as it did. -/
def channelBoundsUptoRow : OpenClaim := { program := "ytibkjeolahobbaagreatdoor", sum := "01f7290c05b37dd630989ba7b6361553191f4d7d035a90c8138439b6c676e5af", func := "platter/platterlaw13.ChannelBounds", spec := "channelBounds", unfollowed := true, recurses := true, named := ["platter/correct.powers", "platter/correct.logs"], apart := false, laid := [("platter/correct.powers", laid_platter_correct_powers), ("platter/correct.logs", laid_platter_correct_logs)], narrowed := true }
def ChannelBoundsUptoSaid : Prop := channelBoundsUptoRow.holds Tryz.pinned (OpenSpec.upto channelBoundsSpec)

/-- 'platterlaw13.ChannelJoins', WHERE WHAT IT READS IS OF BULK AT MOST 1048576: true; the input reads as it did. -/
def channelJoinsUptoRow : OpenClaim := { program := "ytibkjeolahobbaagreatdoor", sum := "01f7290c05b37dd630989ba7b6361553191f4d7d035a90c8138439b6c676e5af", func := "platter/platterlaw13.ChannelJoins", spec := "channelJoins", unfollowed := true, recurses := true, named := ["platter/correct.powers", "platter/correct.logs"], apart := false, laid := [("platter/correct.powers", laid_platter_correct_powers), ("platter/correct.logs", laid_platter_correct_logs)], narrowed := true }
def ChannelJoinsUptoSaid : Prop := channelJoinsUptoRow.holds Tryz.pinned (OpenSpec.upto channelJoinsSpec)

/-- 'platterlaw13.ChannelAgain', WHERE WHAT IT READS IS OF BULK AT MOST 1048576: true; the input reads as it did. -/
def channelAgainUptoRow : OpenClaim := { program := "ytibkjeolahobbaagreatdoor", sum := "01f7290c05b37dd630989ba7b6361553191f4d7d035a90c8138439b6c676e5af", func := "platter/platterlaw13.ChannelAgain", spec := "channelAgain", unfollowed := true, recurses := true, named := ["platter/correct.powers", "platter/correct.logs"], apart := false, laid := [("platter/correct.powers", laid_platter_correct_powers), ("platter/correct.logs", laid_platter_correct_logs)], narrowed := true }
def ChannelAgainUptoSaid : Prop := channelAgainUptoRow.holds Tryz.pinned (OpenSpec.upto channelAgainSpec)

end Rows
end Go.Proofs.YtibkjeolahobbaaGreatDoor
