/-
  NARROWER THAN 'FOR EVERY INPUT', by the rows' own cells (each row's printed sentence says how): TopRuled: laid · TopMoved: laid.
  DERIVED. THE GIVEN ROWS OF THIS SEAT. 2 by the template 'for every input the law returns true; each argument reads behind the call as it read before'; 0 by the template 'total and deterministic' (their statements: YtmdklgapccickaaGreatDoorTotals.lean).
  GIVEN WITH THE SEED: the statements are not yours to turn. If you find one false, say at which input.
  Laid BY PROGRAM, IN A SANDBOX (cutbox-rows.mjs): the forced cells as the released guide's own fill.sh prints them over the translation 5916cbf400d980b6… (all of the seat's roots in one cut). By AI agents, Wed Nov 11 2026. No macro, syntax, notation, axiom, sorry.
-/
import Derived.Test.YtmdklgapccickaaGreatDoorChecked
import GoSem.Claim
import GoSem.ClaimJoined
import GoSem.ClaimMapViews
import Derived.JoinedTies
import Derived.KernelRfl
namespace Go.Proofs.YtmdklgapccickaaGreatDoor
/- THE CELL 'sum', in the pinned program and in every row, IS THE sha256 OF THE DUMP (.gsa) THAT YtmdklgapccickaaGreatDoorProg.lean LOADS. Nothing in Lean hashes anything: it is a label: what it is worth is what the hold of that sum in a sandbox is worth. -/
noncomputable def Tryz.pinned : Pinned := { name := "ytmdklgapccickaagreatdoor", sum := "5916cbf400d980b6b6b49aa5602b6b3f87d83b4e8a1de659576c9717fe2ce1c2", checked := Tryz.checked }
namespace Rows
def none {H : Type} : Left H := { results := [], args := [] }

/- WHAT THE LISTED PACKAGE-LEVEL VARIABLES READ AS WHEN THE CALL BEGINS. Each datum BY PROGRAM (the guide's laid-datum.mjs) off the statement by which the dump's own 'gosem.cut.vars' lays the variable. In a bare row this is a premise. The card (YtmdklgapccickaaGreatDoorCards.lean) ties it to the program's text. -/
def laid_platter_correct_powers {H : Type} : DataW H := .agg [.lit (.int .u8 1), .lit (.int .u8 2), .lit (.int .u8 4), .lit (.int .u8 8), .lit (.int .u8 3), .lit (.int .u8 6), .lit (.int .u8 12), .lit (.int .u8 11), .lit (.int .u8 5), .lit (.int .u8 10), .lit (.int .u8 7), .lit (.int .u8 14), .lit (.int .u8 15), .lit (.int .u8 13), .lit (.int .u8 9)]
def laid_platter_correct_logs {H : Type} : DataW H := .agg [.lit (.int .i64 0), .lit (.int .i64 0), .lit (.int .i64 1), .lit (.int .i64 4), .lit (.int .i64 2), .lit (.int .i64 8), .lit (.int .i64 5), .lit (.int .i64 10), .lit (.int .i64 3), .lit (.int .i64 14), .lit (.int .i64 9), .lit (.int .i64 7), .lit (.int .i64 6), .lit (.int .i64 13), .lit (.int .i64 11), .lit (.int .i64 12)]

/-- 'plattertop.TopRuled': WHATEVER THE INPUT: true; the input reads as it did. -/
def topRuledSpec : ChangeSpec := { name := "topRuled", fn := fun _ => fun
  | [d1, d2] => { results := [.lit (.bool true)], args := [d1, d2] }
  | _ => none }
def topRuledRow : OpenClaim := { program := "ytmdklgapccickaagreatdoor", sum := "5916cbf400d980b6b6b49aa5602b6b3f87d83b4e8a1de659576c9717fe2ce1c2", func := "platter/plattertop.TopRuled", spec := "topRuled", unfollowed := true, recurses := true, named := ["platter/correct.powers", "platter/correct.logs"], plainKeys := false, apart := false, laid := [("platter/correct.powers", laid_platter_correct_powers), ("platter/correct.logs", laid_platter_correct_logs)] }
def TopRuledSaid : Prop := topRuledRow.holds Tryz.pinned (OpenSpec.ofChange topRuledSpec)

/-- ITS FALSE NEIGHBOUR: 'it returns false'. Refute it at one input. -/
def topRuledWrong : ChangeSpec := { name := "topRuled", fn := fun _ => fun
  | [d1, d2] => { results := [.lit (.bool false)], args := [d1, d2] }
  | _ => none }
def TopRuledWrongFalsely : Prop := topRuledRow.holds Tryz.pinned (OpenSpec.ofChange topRuledWrong)

/-- 'plattertop.TopMoved': WHATEVER THE INPUT: true; the input reads as it did. -/
def topMovedSpec : ChangeSpec := { name := "topMoved", fn := fun _ => fun
  | [d1, d2, d3] => { results := [.lit (.bool true)], args := [d1, d2, d3] }
  | _ => none }
def topMovedRow : OpenClaim := { program := "ytmdklgapccickaagreatdoor", sum := "5916cbf400d980b6b6b49aa5602b6b3f87d83b4e8a1de659576c9717fe2ce1c2", func := "platter/plattertop.TopMoved", spec := "topMoved", unfollowed := true, recurses := true, named := ["platter/correct.powers", "platter/correct.logs"], plainKeys := false, apart := false, laid := [("platter/correct.powers", laid_platter_correct_powers), ("platter/correct.logs", laid_platter_correct_logs)] }
def TopMovedSaid : Prop := topMovedRow.holds Tryz.pinned (OpenSpec.ofChange topMovedSpec)

/-- ITS FALSE NEIGHBOUR: 'it returns false'. Refute it at one input. -/
def topMovedWrong : ChangeSpec := { name := "topMoved", fn := fun _ => fun
  | [d1, d2, d3] => { results := [.lit (.bool false)], args := [d1, d2, d3] }
  | _ => none }
def TopMovedWrongFalsely : Prop := topMovedRow.holds Tryz.pinned (OpenSpec.ofChange topMovedWrong)

/- THE SECOND FORM. 'bulk': how many values and letters a reading holds, each counted each time it is reached (what is shared counts as often as it is met; a slice's spare places count too). A statement '..UptoSaid' is the law's where the arguments, and the package variables that the reading takes, are together of bulk at most 1048576: NARROWER than '..Said'. Prove '..Said' where nothing that the law and all that it calls make is longer than what came in: it says more and counts as full. Else prove '..UptoSaid'. A law counts once. -/
mutual
def uptoBulk {H : Type} : DataW H → Nat
  | .lit (.string bytes) => bytes.length + 1
  | .lit _ => 1
  | .nil => 1
  | .ptr d => uptoBulk d + 1
  | .slice elems spare => uptoBulkAll elems + uptoBulkAll spare + 1
  | .agg parts => uptoBulkAll parts + 1
  | .iface _ d => uptoBulk d + 1
  | .map entries => uptoBulkEntries entries + 1
  | .held _ => 1
def uptoBulkAll {H : Type} : List (DataW H) → Nat
  | [] => 0
  | d :: r => uptoBulk d + uptoBulkAll r
def uptoBulkEntries {H : Type} : List (Lit × DataW H) → Nat
  | [] => 0
  | x :: r => uptoBulkEntry x + uptoBulkEntries r
def uptoBulkEntry {H : Type} : Lit × DataW H → Nat
  | (.string bytes, d) => bytes.length + uptoBulk d + 1
  | (_, d) => uptoBulk d + 1
 end
def uptoSmall : (H : Type) → List (DataW H) → Bool := fun _ ds => decide (uptoBulkAll ds ≤ 1048576)
def OpenSpec.upto (s : _root_.Go.ChangeSpec) : _root_.Go.OpenSpec := { _root_.Go.OpenSpec.ofChange s with cond := some uptoSmall }

/-- 'plattertop.TopRuled', WHERE WHAT IT READS IS OF BULK AT MOST 1048576: true; the input reads as it did. -/
def topRuledUptoRow : OpenClaim := { program := "ytmdklgapccickaagreatdoor", sum := "5916cbf400d980b6b6b49aa5602b6b3f87d83b4e8a1de659576c9717fe2ce1c2", func := "platter/plattertop.TopRuled", spec := "topRuled", unfollowed := true, recurses := true, named := ["platter/correct.powers", "platter/correct.logs"], plainKeys := false, apart := false, laid := [("platter/correct.powers", laid_platter_correct_powers), ("platter/correct.logs", laid_platter_correct_logs)], narrowed := true }
def TopRuledUptoSaid : Prop := topRuledUptoRow.holds Tryz.pinned (OpenSpec.upto topRuledSpec)

/-- 'plattertop.TopMoved', WHERE WHAT IT READS IS OF BULK AT MOST 1048576: true; the input reads as it did. -/
def topMovedUptoRow : OpenClaim := { program := "ytmdklgapccickaagreatdoor", sum := "5916cbf400d980b6b6b49aa5602b6b3f87d83b4e8a1de659576c9717fe2ce1c2", func := "platter/plattertop.TopMoved", spec := "topMoved", unfollowed := true, recurses := true, named := ["platter/correct.powers", "platter/correct.logs"], plainKeys := false, apart := false, laid := [("platter/correct.powers", laid_platter_correct_powers), ("platter/correct.logs", laid_platter_correct_logs)], narrowed := true }
def TopMovedUptoSaid : Prop := topMovedUptoRow.holds Tryz.pinned (OpenSpec.upto topMovedSpec)

end Rows
end Go.Proofs.YtmdklgapccickaaGreatDoor
