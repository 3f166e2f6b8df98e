/-
  No cell of these rows narrows 'for every input' (looked for: loops, veiled, ifaces, maps, wideKeys, modest, calm, conditions, laid).
  DERIVED. THE GIVEN ROWS OF THIS SEAT. 10 by the template 'for every input the law returns true; each argument reads behind the call as it read before'; 0 by the template 'total and deterministic' (their statements: YtlnppoaghpbpoaaTotals.lean).
  GIVEN WITH THE SEED: the statements are not yours to turn. If you find one false, say at which input.
  Laid BY PROGRAM, IN A SANDBOX (cutbox-rows.mjs): the forced cells as the released guide's own fill.sh prints them over the translation c10014f722590a9f… (all of the seat's roots in one cut). By AI agents, Wed Nov 11 2026. No macro, syntax, notation, axiom, sorry.
-/
import Derived.Test.YtlnppoaghpbpoaaChecked
import GoSem.Claim
import GoSem.ClaimJoined
import GoSem.ClaimMapViews
import Derived.JoinedTies
import Derived.KernelRfl
namespace Go.Proofs.Ytlnppoaghpbpoaa
/- THE CELL 'sum', in the pinned program and in every row, IS THE sha256 OF THE DUMP (.gsa) THAT YtlnppoaghpbpoaaProg.lean LOADS. Nothing in Lean hashes anything: it is a label: what it is worth is what the hold of that sum in a sandbox is worth. -/
noncomputable def Try.pinned : Pinned := { name := "ytlnppoaghpbpoaa", sum := "c10014f722590a9ff0a55f32b65188a44175b355d05e63fdeddc2fbebe9e1a46", checked := Try.checked }
namespace Rows
def none {H : Type} : Left H := { results := [], args := [] }

/-- 'platterlaw02.ServoSure': WHATEVER THE INPUT: true; the input reads as it did. -/
def servoSureSpec : ChangeSpec := { name := "servoSure", fn := fun _ => fun
  | [d1, d2, d3] => { results := [.lit (.bool true)], args := [d1, d2, d3] }
  | _ => none }
def servoSureRow : OpenClaim := { program := "ytlnppoaghpbpoaa", sum := "c10014f722590a9ff0a55f32b65188a44175b355d05e63fdeddc2fbebe9e1a46", func := "platter/platterlaw02.ServoSure", spec := "servoSure", unfollowed := true, recurses := true, apart := false }
def ServoSureSaid : Prop := servoSureRow.holds Try.pinned (OpenSpec.ofChange servoSureSpec)

/-- ITS FALSE NEIGHBOUR: 'it returns false'. Refute it at one input. -/
def servoSureWrong : ChangeSpec := { name := "servoSure", fn := fun _ => fun
  | [d1, d2, d3] => { results := [.lit (.bool false)], args := [d1, d2, d3] }
  | _ => none }
def ServoSureWrongFalsely : Prop := servoSureRow.holds Try.pinned (OpenSpec.ofChange servoSureWrong)

/-- 'platterlaw02.ServoMore': WHATEVER THE INPUT: true; the input reads as it did. -/
def servoMoreSpec : ChangeSpec := { name := "servoMore", fn := fun _ => fun
  | [d1, d2, d3] => { results := [.lit (.bool true)], args := [d1, d2, d3] }
  | _ => none }
def servoMoreRow : OpenClaim := { program := "ytlnppoaghpbpoaa", sum := "c10014f722590a9ff0a55f32b65188a44175b355d05e63fdeddc2fbebe9e1a46", func := "platter/platterlaw02.ServoMore", spec := "servoMore", unfollowed := true, recurses := true, apart := false }
def ServoMoreSaid : Prop := servoMoreRow.holds Try.pinned (OpenSpec.ofChange servoMoreSpec)

/-- ITS FALSE NEIGHBOUR: 'it returns false'. Refute it at one input. -/
def servoMoreWrong : ChangeSpec := { name := "servoMore", fn := fun _ => fun
  | [d1, d2, d3] => { results := [.lit (.bool false)], args := [d1, d2, d3] }
  | _ => none }
def ServoMoreWrongFalsely : Prop := servoMoreRow.holds Try.pinned (OpenSpec.ofChange servoMoreWrong)

/-- 'platterlaw02.ServoFound': WHATEVER THE INPUT: true; the input reads as it did. -/
def servoFoundSpec : ChangeSpec := { name := "servoFound", fn := fun _ => fun
  | [d1, d2, d3] => { results := [.lit (.bool true)], args := [d1, d2, d3] }
  | _ => none }
def servoFoundRow : OpenClaim := { program := "ytlnppoaghpbpoaa", sum := "c10014f722590a9ff0a55f32b65188a44175b355d05e63fdeddc2fbebe9e1a46", func := "platter/platterlaw02.ServoFound", spec := "servoFound", unfollowed := true, recurses := true, apart := false }
def ServoFoundSaid : Prop := servoFoundRow.holds Try.pinned (OpenSpec.ofChange servoFoundSpec)

/-- ITS FALSE NEIGHBOUR: 'it returns false'. Refute it at one input. -/
def servoFoundWrong : ChangeSpec := { name := "servoFound", fn := fun _ => fun
  | [d1, d2, d3] => { results := [.lit (.bool false)], args := [d1, d2, d3] }
  | _ => none }
def ServoFoundWrongFalsely : Prop := servoFoundRow.holds Try.pinned (OpenSpec.ofChange servoFoundWrong)

/-- 'platterlaw02.ServoOneBit': WHATEVER THE INPUT: true; the input reads as it did. -/
def servoOneBitSpec : ChangeSpec := { name := "servoOneBit", fn := fun _ => fun
  | [d1, d2] => { results := [.lit (.bool true)], args := [d1, d2] }
  | _ => none }
def servoOneBitRow : OpenClaim := { program := "ytlnppoaghpbpoaa", sum := "c10014f722590a9ff0a55f32b65188a44175b355d05e63fdeddc2fbebe9e1a46", func := "platter/platterlaw02.ServoOneBit", spec := "servoOneBit", unfollowed := true, recurses := true, apart := false }
def ServoOneBitSaid : Prop := servoOneBitRow.holds Try.pinned (OpenSpec.ofChange servoOneBitSpec)

/-- ITS FALSE NEIGHBOUR: 'it returns false'. Refute it at one input. -/
def servoOneBitWrong : ChangeSpec := { name := "servoOneBit", fn := fun _ => fun
  | [d1, d2] => { results := [.lit (.bool false)], args := [d1, d2] }
  | _ => none }
def ServoOneBitWrongFalsely : Prop := servoOneBitRow.holds Try.pinned (OpenSpec.ofChange servoOneBitWrong)

/-- 'platterlaw02.ServoGrays': WHATEVER THE INPUT: true; the input reads as it did. -/
def servoGraysSpec : ChangeSpec := { name := "servoGrays", fn := fun _ => fun
  | [d1, d2] => { results := [.lit (.bool true)], args := [d1, d2] }
  | _ => none }
def servoGraysRow : OpenClaim := { program := "ytlnppoaghpbpoaa", sum := "c10014f722590a9ff0a55f32b65188a44175b355d05e63fdeddc2fbebe9e1a46", func := "platter/platterlaw02.ServoGrays", spec := "servoGrays", unfollowed := true, recurses := true, apart := false }
def ServoGraysSaid : Prop := servoGraysRow.holds Try.pinned (OpenSpec.ofChange servoGraysSpec)

/-- ITS FALSE NEIGHBOUR: 'it returns false'. Refute it at one input. -/
def servoGraysWrong : ChangeSpec := { name := "servoGrays", fn := fun _ => fun
  | [d1, d2] => { results := [.lit (.bool false)], args := [d1, d2] }
  | _ => none }
def ServoGraysWrongFalsely : Prop := servoGraysRow.holds Try.pinned (OpenSpec.ofChange servoGraysWrong)

/-- 'platterlaw02.ServoWheres': WHATEVER THE INPUT: true; the input reads as it did. -/
def servoWheresSpec : ChangeSpec := { name := "servoWheres", fn := fun _ => fun
  | [d1, d2, d3] => { results := [.lit (.bool true)], args := [d1, d2, d3] }
  | _ => none }
def servoWheresRow : OpenClaim := { program := "ytlnppoaghpbpoaa", sum := "c10014f722590a9ff0a55f32b65188a44175b355d05e63fdeddc2fbebe9e1a46", func := "platter/platterlaw02.ServoWheres", spec := "servoWheres", unfollowed := true, recurses := true, apart := false }
def ServoWheresSaid : Prop := servoWheresRow.holds Try.pinned (OpenSpec.ofChange servoWheresSpec)

/-- ITS FALSE NEIGHBOUR: 'it returns false'. Refute it at one input. -/
def servoWheresWrong : ChangeSpec := { name := "servoWheres", fn := fun _ => fun
  | [d1, d2, d3] => { results := [.lit (.bool false)], args := [d1, d2, d3] }
  | _ => none }
def ServoWheresWrongFalsely : Prop := servoWheresRow.holds Try.pinned (OpenSpec.ofChange servoWheresWrong)

/-- 'platterlaw02.ServoEnds': WHATEVER THE INPUT: true; the input reads as it did. -/
def servoEndsSpec : ChangeSpec := { name := "servoEnds", fn := fun _ => fun
  | [d1, d2, d3] => { results := [.lit (.bool true)], args := [d1, d2, d3] }
  | _ => none }
def servoEndsRow : OpenClaim := { program := "ytlnppoaghpbpoaa", sum := "c10014f722590a9ff0a55f32b65188a44175b355d05e63fdeddc2fbebe9e1a46", func := "platter/platterlaw02.ServoEnds", spec := "servoEnds", unfollowed := true, recurses := true, apart := false }
def ServoEndsSaid : Prop := servoEndsRow.holds Try.pinned (OpenSpec.ofChange servoEndsSpec)

/-- ITS FALSE NEIGHBOUR: 'it returns false'. Refute it at one input. -/
def servoEndsWrong : ChangeSpec := { name := "servoEnds", fn := fun _ => fun
  | [d1, d2, d3] => { results := [.lit (.bool false)], args := [d1, d2, d3] }
  | _ => none }
def ServoEndsWrongFalsely : Prop := servoEndsRow.holds Try.pinned (OpenSpec.ofChange servoEndsWrong)

/-- 'platterlaw02.ServoTraces': WHATEVER THE INPUT: true; the input reads as it did. -/
def servoTracesSpec : ChangeSpec := { name := "servoTraces", fn := fun _ => fun
  | [d1, d2, d3] => { results := [.lit (.bool true)], args := [d1, d2, d3] }
  | _ => none }
def servoTracesRow : OpenClaim := { program := "ytlnppoaghpbpoaa", sum := "c10014f722590a9ff0a55f32b65188a44175b355d05e63fdeddc2fbebe9e1a46", func := "platter/platterlaw02.ServoTraces", spec := "servoTraces", unfollowed := true, recurses := true, apart := false }
def ServoTracesSaid : Prop := servoTracesRow.holds Try.pinned (OpenSpec.ofChange servoTracesSpec)

/-- ITS FALSE NEIGHBOUR: 'it returns false'. Refute it at one input. -/
def servoTracesWrong : ChangeSpec := { name := "servoTraces", fn := fun _ => fun
  | [d1, d2, d3] => { results := [.lit (.bool false)], args := [d1, d2, d3] }
  | _ => none }
def ServoTracesWrongFalsely : Prop := servoTracesRow.holds Try.pinned (OpenSpec.ofChange servoTracesWrong)

/-- 'platterlaw02.ServoGates': WHATEVER THE INPUT: true; the input reads as it did. -/
def servoGatesSpec : ChangeSpec := { name := "servoGates", fn := fun _ => fun
  | [d1, d2, d3] => { results := [.lit (.bool true)], args := [d1, d2, d3] }
  | _ => none }
def servoGatesRow : OpenClaim := { program := "ytlnppoaghpbpoaa", sum := "c10014f722590a9ff0a55f32b65188a44175b355d05e63fdeddc2fbebe9e1a46", func := "platter/platterlaw02.ServoGates", spec := "servoGates", unfollowed := true, recurses := true, apart := false }
def ServoGatesSaid : Prop := servoGatesRow.holds Try.pinned (OpenSpec.ofChange servoGatesSpec)

/-- ITS FALSE NEIGHBOUR: 'it returns false'. Refute it at one input. -/
def servoGatesWrong : ChangeSpec := { name := "servoGates", fn := fun _ => fun
  | [d1, d2, d3] => { results := [.lit (.bool false)], args := [d1, d2, d3] }
  | _ => none }
def ServoGatesWrongFalsely : Prop := servoGatesRow.holds Try.pinned (OpenSpec.ofChange servoGatesWrong)

/-- 'platterlaw02.ServoTrue': WHATEVER THE INPUT: true; the input reads as it did. -/
def servoTrueSpec : ChangeSpec := { name := "servoTrue", fn := fun _ => fun
  | [d1, d2, d3] => { results := [.lit (.bool true)], args := [d1, d2, d3] }
  | _ => none }
def servoTrueRow : OpenClaim := { program := "ytlnppoaghpbpoaa", sum := "c10014f722590a9ff0a55f32b65188a44175b355d05e63fdeddc2fbebe9e1a46", func := "platter/platterlaw02.ServoTrue", spec := "servoTrue", unfollowed := true, recurses := true, apart := false }
def ServoTrueSaid : Prop := servoTrueRow.holds Try.pinned (OpenSpec.ofChange servoTrueSpec)

/-- ITS FALSE NEIGHBOUR: 'it returns false'. Refute it at one input. -/
def servoTrueWrong : ChangeSpec := { name := "servoTrue", fn := fun _ => fun
  | [d1, d2, d3] => { results := [.lit (.bool false)], args := [d1, d2, d3] }
  | _ => none }
def ServoTrueWrongFalsely : Prop := servoTrueRow.holds Try.pinned (OpenSpec.ofChange servoTrueWrong)

/- THE SECOND FORM. 'bulk': how many values and letters a reading holds, each counted each time it is reached (what is shared counts as often as it is met; a slice's spare places count too). A statement '..UptoSaid' is the law's where the arguments, and the package variables that the reading takes, are together of bulk at most 1048576: NARROWER than '..Said'. Prove '..Said' where nothing that the law and all that it calls make is longer than what came in: it says more and counts as full. Else prove '..UptoSaid'. A law counts once. -/
mutual
def uptoBulk {H : Type} : DataW H → Nat
  | .lit (.string bytes) => bytes.length + 1
  | .lit _ => 1
  | .nil => 1
  | .ptr d => uptoBulk d + 1
  | .slice elems spare => uptoBulkAll elems + uptoBulkAll spare + 1
  | .agg parts => uptoBulkAll parts + 1
  | .iface _ d => uptoBulk d + 1
  | .map entries => uptoBulkEntries entries + 1
  | .held _ => 1
def uptoBulkAll {H : Type} : List (DataW H) → Nat
  | [] => 0
  | d :: r => uptoBulk d + uptoBulkAll r
def uptoBulkEntries {H : Type} : List (Lit × DataW H) → Nat
  | [] => 0
  | x :: r => uptoBulkEntry x + uptoBulkEntries r
def uptoBulkEntry {H : Type} : Lit × DataW H → Nat
  | (.string bytes, d) => bytes.length + uptoBulk d + 1
  | (_, d) => uptoBulk d + 1
 end
def uptoSmall : (H : Type) → List (DataW H) → Bool := fun _ ds => decide (uptoBulkAll ds ≤ 1048576)
def OpenSpec.upto (s : _root_.Go.ChangeSpec) : _root_.Go.OpenSpec := { _root_.Go.OpenSpec.ofChange s with cond := some uptoSmall }

/-- 'platterlaw02.ServoSure', WHERE WHAT IT READS IS OF BULK AT MOST 1048576: true; the input reads as it did. -/
def servoSureUptoRow : OpenClaim := { program := "ytlnppoaghpbpoaa", sum := "c10014f722590a9ff0a55f32b65188a44175b355d05e63fdeddc2fbebe9e1a46", func := "platter/platterlaw02.ServoSure", spec := "servoSure", unfollowed := true, recurses := true, apart := false, narrowed := true }
def ServoSureUptoSaid : Prop := servoSureUptoRow.holds Try.pinned (OpenSpec.upto servoSureSpec)

/-- 'platterlaw02.ServoMore', WHERE WHAT IT READS IS OF BULK AT MOST 1048576: true; the input reads as it did. -/
def servoMoreUptoRow : OpenClaim := { program := "ytlnppoaghpbpoaa", sum := "c10014f722590a9ff0a55f32b65188a44175b355d05e63fdeddc2fbebe9e1a46", func := "platter/platterlaw02.ServoMore", spec := "servoMore", unfollowed := true, recurses := true, apart := false, narrowed := true }
def ServoMoreUptoSaid : Prop := servoMoreUptoRow.holds Try.pinned (OpenSpec.upto servoMoreSpec)

/-- 'platterlaw02.ServoFound', WHERE WHAT IT READS IS OF BULK AT MOST 1048576: true; the input reads as it did. -/
def servoFoundUptoRow : OpenClaim := { program := "ytlnppoaghpbpoaa", sum := "c10014f722590a9ff0a55f32b65188a44175b355d05e63fdeddc2fbebe9e1a46", func := "platter/platterlaw02.ServoFound", spec := "servoFound", unfollowed := true, recurses := true, apart := false, narrowed := true }
def ServoFoundUptoSaid : Prop := servoFoundUptoRow.holds Try.pinned (OpenSpec.upto servoFoundSpec)

/-- 'platterlaw02.ServoOneBit', WHERE WHAT IT READS IS OF BULK AT MOST 1048576: true; the input reads as it did. -/
def servoOneBitUptoRow : OpenClaim := { program := "ytlnppoaghpbpoaa", sum := "c10014f722590a9ff0a55f32b65188a44175b355d05e63fdeddc2fbebe9e1a46", func := "platter/platterlaw02.ServoOneBit", spec := "servoOneBit", unfollowed := true, recurses := true, apart := false, narrowed := true }
def ServoOneBitUptoSaid : Prop := servoOneBitUptoRow.holds Try.pinned (OpenSpec.upto servoOneBitSpec)

/-- 'platterlaw02.ServoGrays', WHERE WHAT IT READS IS OF BULK AT MOST 1048576: true; the input reads as it did. -/
def servoGraysUptoRow : OpenClaim := { program := "ytlnppoaghpbpoaa", sum := "c10014f722590a9ff0a55f32b65188a44175b355d05e63fdeddc2fbebe9e1a46", func := "platter/platterlaw02.ServoGrays", spec := "servoGrays", unfollowed := true, recurses := true, apart := false, narrowed := true }
def ServoGraysUptoSaid : Prop := servoGraysUptoRow.holds Try.pinned (OpenSpec.upto servoGraysSpec)

/-- 'platterlaw02.ServoWheres', WHERE WHAT IT READS IS OF BULK AT MOST 1048576: true; the input reads as it did. -/
def servoWheresUptoRow : OpenClaim := { program := "ytlnppoaghpbpoaa", sum := "c10014f722590a9ff0a55f32b65188a44175b355d05e63fdeddc2fbebe9e1a46", func := "platter/platterlaw02.ServoWheres", spec := "servoWheres", unfollowed := true, recurses := true, apart := false, narrowed := true }
def ServoWheresUptoSaid : Prop := servoWheresUptoRow.holds Try.pinned (OpenSpec.upto servoWheresSpec)

/-- 'platterlaw02.ServoEnds', WHERE WHAT IT READS IS OF BULK AT MOST 1048576: true; the input reads as it did. -/
def servoEndsUptoRow : OpenClaim := { program := "ytlnppoaghpbpoaa", sum := "c10014f722590a9ff0a55f32b65188a44175b355d05e63fdeddc2fbebe9e1a46", func := "platter/platterlaw02.ServoEnds", spec := "servoEnds", unfollowed := true, recurses := true, apart := false, narrowed := true }
def ServoEndsUptoSaid : Prop := servoEndsUptoRow.holds Try.pinned (OpenSpec.upto servoEndsSpec)

/-- 'platterlaw02.ServoTraces', WHERE WHAT IT READS IS OF BULK AT MOST 1048576: true; the input reads as it did. -/
def servoTracesUptoRow : OpenClaim := { program := "ytlnppoaghpbpoaa", sum := "c10014f722590a9ff0a55f32b65188a44175b355d05e63fdeddc2fbebe9e1a46", func := "platter/platterlaw02.ServoTraces", spec := "servoTraces", unfollowed := true, recurses := true, apart := false, narrowed := true }
def ServoTracesUptoSaid : Prop := servoTracesUptoRow.holds Try.pinned (OpenSpec.upto servoTracesSpec)

/-- 'platterlaw02.ServoGates', WHERE WHAT IT READS IS OF BULK AT MOST 1048576: true; the input reads as it did. -/
def servoGatesUptoRow : OpenClaim := { program := "ytlnppoaghpbpoaa", sum := "c10014f722590a9ff0a55f32b65188a44175b355d05e63fdeddc2fbebe9e1a46", func := "platter/platterlaw02.ServoGates", spec := "servoGates", unfollowed := true, recurses := true, apart := false, narrowed := true }
def ServoGatesUptoSaid : Prop := servoGatesUptoRow.holds Try.pinned (OpenSpec.upto servoGatesSpec)

/-- 'platterlaw02.ServoTrue', WHERE WHAT IT READS IS OF BULK AT MOST 1048576: true; the input reads as it did. -/
def servoTrueUptoRow : OpenClaim := { program := "ytlnppoaghpbpoaa", sum := "c10014f722590a9ff0a55f32b65188a44175b355d05e63fdeddc2fbebe9e1a46", func := "platter/platterlaw02.ServoTrue", spec := "servoTrue", unfollowed := true, recurses := true, apart := false, narrowed := true }
def ServoTrueUptoSaid : Prop := servoTrueUptoRow.holds Try.pinned (OpenSpec.upto servoTrueSpec)

end Rows
end Go.Proofs.Ytlnppoaghpbpoaa
