/-
  NARROWER THAN 'FOR EVERY INPUT', by the rows' own cells (each row's printed sentence says how): CorrectWords: laid · CorrectBound: laid · CorrectLinear: laid · CorrectNoise: laid · CorrectRefused: laid · CorrectMisled: laid · CorrectMore: laid · CorrectReads: laid · CorrectReread: laid · CorrectBlocks: laid · CorrectBursts: laid.
  DERIVED. THE GIVEN ROWS OF THIS SEAT. 11 by the template 'for every input the law returns true; each argument reads behind the call as it read before'; 0 by the template 'total and deterministic' (their statements: YtlmkpaimjpdhiaaDoorTotals.lean).
  GIVEN WITH THE SEED: the statements are not yours to turn. If you find one false, say at which input.
  Laid BY PROGRAM, IN A SANDBOX (cutbox-rows.mjs): the forced cells as the released guide's own fill.sh prints them over the translation f6cfafaf06452f64… (all of the seat's roots in one cut). By AI agents, Wed Nov 11 2026. No macro, syntax, notation, axiom, sorry.
-/
import Derived.Test.YtlmkpaimjpdhiaaDoorChecked
import GoSem.Claim
import GoSem.ClaimJoined
import GoSem.ClaimMapViews
import Derived.JoinedTies
import Derived.KernelRfl
namespace Go.Proofs.YtlmkpaimjpdhiaaDoor
/- THE CELL 'sum', in the pinned program and in every row, IS THE sha256 OF THE DUMP (.gsa) THAT YtlmkpaimjpdhiaaDoorProg.lean LOADS. Nothing in Lean hashes anything: it is a label: what it is worth is what the hold of that sum in a sandbox is worth. -/
noncomputable def Tryd.pinned : Pinned := { name := "ytlmkpaimjpdhiaadoor", sum := "f6cfafaf06452f647a2939c309d36b8de1c8adefc17079a6a98242204e2dc93e", checked := Tryd.checked }
namespace Rows
def none {H : Type} : Left H := { results := [], args := [] }

/- WHAT THE LISTED PACKAGE-LEVEL VARIABLES READ AS WHEN THE CALL BEGINS. Each datum BY PROGRAM (the guide's laid-datum.mjs) off the statement by which the dump's own 'gosem.cut.vars' lays the variable. In a bare row this is a premise. The card (YtlmkpaimjpdhiaaDoorCards.lean) ties it to the program's text. -/
def laid_platter_correct_powers {H : Type} : DataW H := .agg [.lit (.int .u8 1), .lit (.int .u8 2), .lit (.int .u8 4), .lit (.int .u8 8), .lit (.int .u8 3), .lit (.int .u8 6), .lit (.int .u8 12), .lit (.int .u8 11), .lit (.int .u8 5), .lit (.int .u8 10), .lit (.int .u8 7), .lit (.int .u8 14), .lit (.int .u8 15), .lit (.int .u8 13), .lit (.int .u8 9)]
def laid_platter_correct_logs {H : Type} : DataW H := .agg [.lit (.int .i64 0), .lit (.int .i64 0), .lit (.int .i64 1), .lit (.int .i64 4), .lit (.int .i64 2), .lit (.int .i64 8), .lit (.int .i64 5), .lit (.int .i64 10), .lit (.int .i64 3), .lit (.int .i64 14), .lit (.int .i64 9), .lit (.int .i64 7), .lit (.int .i64 6), .lit (.int .i64 13), .lit (.int .i64 11), .lit (.int .i64 12)]

/-- 'platterlaw05.CorrectWords': WHATEVER THE INPUT: true; the input reads as it did. -/
def correctWordsSpec : ChangeSpec := { name := "correctWords", fn := fun _ => fun
  | [d1, d2] => { results := [.lit (.bool true)], args := [d1, d2] }
  | _ => none }
def correctWordsRow : OpenClaim := { program := "ytlmkpaimjpdhiaadoor", sum := "f6cfafaf06452f647a2939c309d36b8de1c8adefc17079a6a98242204e2dc93e", func := "platter/platterlaw05.CorrectWords", spec := "correctWords", unfollowed := true, recurses := true, named := ["platter/correct.powers", "platter/correct.logs"], apart := false, laid := [("platter/correct.powers", laid_platter_correct_powers), ("platter/correct.logs", laid_platter_correct_logs)] }
def CorrectWordsSaid : Prop := correctWordsRow.holds Tryd.pinned (OpenSpec.ofChange correctWordsSpec)

/-- ITS FALSE NEIGHBOUR: 'it returns false'. Refute it at one input. -/
def correctWordsWrong : ChangeSpec := { name := "correctWords", fn := fun _ => fun
  | [d1, d2] => { results := [.lit (.bool false)], args := [d1, d2] }
  | _ => none }
def CorrectWordsWrongFalsely : Prop := correctWordsRow.holds Tryd.pinned (OpenSpec.ofChange correctWordsWrong)

/-- 'platterlaw05.CorrectBound': WHATEVER THE INPUT: true; the input reads as it did. -/
def correctBoundSpec : ChangeSpec := { name := "correctBound", fn := fun _ => fun
  | [d1, d2] => { results := [.lit (.bool true)], args := [d1, d2] }
  | _ => none }
def correctBoundRow : OpenClaim := { program := "ytlmkpaimjpdhiaadoor", sum := "f6cfafaf06452f647a2939c309d36b8de1c8adefc17079a6a98242204e2dc93e", func := "platter/platterlaw05.CorrectBound", spec := "correctBound", unfollowed := true, recurses := true, named := ["platter/correct.powers", "platter/correct.logs"], apart := false, laid := [("platter/correct.powers", laid_platter_correct_powers), ("platter/correct.logs", laid_platter_correct_logs)] }
def CorrectBoundSaid : Prop := correctBoundRow.holds Tryd.pinned (OpenSpec.ofChange correctBoundSpec)

/-- ITS FALSE NEIGHBOUR: 'it returns false'. Refute it at one input. -/
def correctBoundWrong : ChangeSpec := { name := "correctBound", fn := fun _ => fun
  | [d1, d2] => { results := [.lit (.bool false)], args := [d1, d2] }
  | _ => none }
def CorrectBoundWrongFalsely : Prop := correctBoundRow.holds Tryd.pinned (OpenSpec.ofChange correctBoundWrong)

/-- 'platterlaw05.CorrectLinear': WHATEVER THE INPUT: true; the input reads as it did. -/
def correctLinearSpec : ChangeSpec := { name := "correctLinear", fn := fun _ => fun
  | [d1, d2, d3] => { results := [.lit (.bool true)], args := [d1, d2, d3] }
  | _ => none }
def correctLinearRow : OpenClaim := { program := "ytlmkpaimjpdhiaadoor", sum := "f6cfafaf06452f647a2939c309d36b8de1c8adefc17079a6a98242204e2dc93e", func := "platter/platterlaw05.CorrectLinear", spec := "correctLinear", unfollowed := true, recurses := true, named := ["platter/correct.powers", "platter/correct.logs"], apart := false, laid := [("platter/correct.powers", laid_platter_correct_powers), ("platter/correct.logs", laid_platter_correct_logs)] }
def CorrectLinearSaid : Prop := correctLinearRow.holds Tryd.pinned (OpenSpec.ofChange correctLinearSpec)

/-- ITS FALSE NEIGHBOUR: 'it returns false'. Refute it at one input. -/
def correctLinearWrong : ChangeSpec := { name := "correctLinear", fn := fun _ => fun
  | [d1, d2, d3] => { results := [.lit (.bool false)], args := [d1, d2, d3] }
  | _ => none }
def CorrectLinearWrongFalsely : Prop := correctLinearRow.holds Tryd.pinned (OpenSpec.ofChange correctLinearWrong)

/-- 'platterlaw05.CorrectNoise': WHATEVER THE INPUT: true; the input reads as it did. -/
def correctNoiseSpec : ChangeSpec := { name := "correctNoise", fn := fun _ => fun
  | [d1, d2] => { results := [.lit (.bool true)], args := [d1, d2] }
  | _ => none }
def correctNoiseRow : OpenClaim := { program := "ytlmkpaimjpdhiaadoor", sum := "f6cfafaf06452f647a2939c309d36b8de1c8adefc17079a6a98242204e2dc93e", func := "platter/platterlaw05.CorrectNoise", spec := "correctNoise", unfollowed := true, recurses := true, named := ["platter/correct.powers", "platter/correct.logs"], apart := false, laid := [("platter/correct.powers", laid_platter_correct_powers), ("platter/correct.logs", laid_platter_correct_logs)] }
def CorrectNoiseSaid : Prop := correctNoiseRow.holds Tryd.pinned (OpenSpec.ofChange correctNoiseSpec)

/-- ITS FALSE NEIGHBOUR: 'it returns false'. Refute it at one input. -/
def correctNoiseWrong : ChangeSpec := { name := "correctNoise", fn := fun _ => fun
  | [d1, d2] => { results := [.lit (.bool false)], args := [d1, d2] }
  | _ => none }
def CorrectNoiseWrongFalsely : Prop := correctNoiseRow.holds Tryd.pinned (OpenSpec.ofChange correctNoiseWrong)

/-- 'platterlaw05.CorrectRefused': WHATEVER THE INPUT: true; the input reads as it did. -/
def correctRefusedSpec : ChangeSpec := { name := "correctRefused", fn := fun _ => fun
  | [d1, d2] => { results := [.lit (.bool true)], args := [d1, d2] }
  | _ => none }
def correctRefusedRow : OpenClaim := { program := "ytlmkpaimjpdhiaadoor", sum := "f6cfafaf06452f647a2939c309d36b8de1c8adefc17079a6a98242204e2dc93e", func := "platter/platterlaw05.CorrectRefused", spec := "correctRefused", unfollowed := true, recurses := true, named := ["platter/correct.powers", "platter/correct.logs"], apart := false, laid := [("platter/correct.powers", laid_platter_correct_powers), ("platter/correct.logs", laid_platter_correct_logs)] }
def CorrectRefusedSaid : Prop := correctRefusedRow.holds Tryd.pinned (OpenSpec.ofChange correctRefusedSpec)

/-- ITS FALSE NEIGHBOUR: 'it returns false'. Refute it at one input. -/
def correctRefusedWrong : ChangeSpec := { name := "correctRefused", fn := fun _ => fun
  | [d1, d2] => { results := [.lit (.bool false)], args := [d1, d2] }
  | _ => none }
def CorrectRefusedWrongFalsely : Prop := correctRefusedRow.holds Tryd.pinned (OpenSpec.ofChange correctRefusedWrong)

/-- 'platterlaw05.CorrectMisled': WHATEVER THE INPUT: true; the input reads as it did. -/
def correctMisledSpec : ChangeSpec := { name := "correctMisled", fn := fun _ => fun
  | [d1, d2] => { results := [.lit (.bool true)], args := [d1, d2] }
  | _ => none }
def correctMisledRow : OpenClaim := { program := "ytlmkpaimjpdhiaadoor", sum := "f6cfafaf06452f647a2939c309d36b8de1c8adefc17079a6a98242204e2dc93e", func := "platter/platterlaw05.CorrectMisled", spec := "correctMisled", unfollowed := true, recurses := true, named := ["platter/correct.powers", "platter/correct.logs"], apart := false, laid := [("platter/correct.powers", laid_platter_correct_powers), ("platter/correct.logs", laid_platter_correct_logs)] }
def CorrectMisledSaid : Prop := correctMisledRow.holds Tryd.pinned (OpenSpec.ofChange correctMisledSpec)

/-- ITS FALSE NEIGHBOUR: 'it returns false'. Refute it at one input. -/
def correctMisledWrong : ChangeSpec := { name := "correctMisled", fn := fun _ => fun
  | [d1, d2] => { results := [.lit (.bool false)], args := [d1, d2] }
  | _ => none }
def CorrectMisledWrongFalsely : Prop := correctMisledRow.holds Tryd.pinned (OpenSpec.ofChange correctMisledWrong)

/-- 'platterlaw05.CorrectMore': WHATEVER THE INPUT: true; the input reads as it did. -/
def correctMoreSpec : ChangeSpec := { name := "correctMore", fn := fun _ => fun
  | [d1, d2] => { results := [.lit (.bool true)], args := [d1, d2] }
  | _ => none }
def correctMoreRow : OpenClaim := { program := "ytlmkpaimjpdhiaadoor", sum := "f6cfafaf06452f647a2939c309d36b8de1c8adefc17079a6a98242204e2dc93e", func := "platter/platterlaw05.CorrectMore", spec := "correctMore", unfollowed := true, recurses := true, named := ["platter/correct.powers", "platter/correct.logs"], apart := false, laid := [("platter/correct.powers", laid_platter_correct_powers), ("platter/correct.logs", laid_platter_correct_logs)] }
def CorrectMoreSaid : Prop := correctMoreRow.holds Tryd.pinned (OpenSpec.ofChange correctMoreSpec)

/-- ITS FALSE NEIGHBOUR: 'it returns false'. Refute it at one input. -/
def correctMoreWrong : ChangeSpec := { name := "correctMore", fn := fun _ => fun
  | [d1, d2] => { results := [.lit (.bool false)], args := [d1, d2] }
  | _ => none }
def CorrectMoreWrongFalsely : Prop := correctMoreRow.holds Tryd.pinned (OpenSpec.ofChange correctMoreWrong)

/-- 'platterlaw05.CorrectReads': WHATEVER THE INPUT: true; the input reads as it did. -/
def correctReadsSpec : ChangeSpec := { name := "correctReads", fn := fun _ => fun
  | [d1, d2] => { results := [.lit (.bool true)], args := [d1, d2] }
  | _ => none }
def correctReadsRow : OpenClaim := { program := "ytlmkpaimjpdhiaadoor", sum := "f6cfafaf06452f647a2939c309d36b8de1c8adefc17079a6a98242204e2dc93e", func := "platter/platterlaw05.CorrectReads", spec := "correctReads", unfollowed := true, recurses := true, named := ["platter/correct.powers", "platter/correct.logs"], apart := false, laid := [("platter/correct.powers", laid_platter_correct_powers), ("platter/correct.logs", laid_platter_correct_logs)] }
def CorrectReadsSaid : Prop := correctReadsRow.holds Tryd.pinned (OpenSpec.ofChange correctReadsSpec)

/-- ITS FALSE NEIGHBOUR: 'it returns false'. Refute it at one input. -/
def correctReadsWrong : ChangeSpec := { name := "correctReads", fn := fun _ => fun
  | [d1, d2] => { results := [.lit (.bool false)], args := [d1, d2] }
  | _ => none }
def CorrectReadsWrongFalsely : Prop := correctReadsRow.holds Tryd.pinned (OpenSpec.ofChange correctReadsWrong)

/-- 'platterlaw05.CorrectReread': WHATEVER THE INPUT: true; the input reads as it did. -/
def correctRereadSpec : ChangeSpec := { name := "correctReread", fn := fun _ => fun
  | [d1, d2, d3] => { results := [.lit (.bool true)], args := [d1, d2, d3] }
  | _ => none }
def correctRereadRow : OpenClaim := { program := "ytlmkpaimjpdhiaadoor", sum := "f6cfafaf06452f647a2939c309d36b8de1c8adefc17079a6a98242204e2dc93e", func := "platter/platterlaw05.CorrectReread", spec := "correctReread", unfollowed := true, recurses := true, named := ["platter/correct.powers", "platter/correct.logs"], apart := false, laid := [("platter/correct.powers", laid_platter_correct_powers), ("platter/correct.logs", laid_platter_correct_logs)] }
def CorrectRereadSaid : Prop := correctRereadRow.holds Tryd.pinned (OpenSpec.ofChange correctRereadSpec)

/-- ITS FALSE NEIGHBOUR: 'it returns false'. Refute it at one input. -/
def correctRereadWrong : ChangeSpec := { name := "correctReread", fn := fun _ => fun
  | [d1, d2, d3] => { results := [.lit (.bool false)], args := [d1, d2, d3] }
  | _ => none }
def CorrectRereadWrongFalsely : Prop := correctRereadRow.holds Tryd.pinned (OpenSpec.ofChange correctRereadWrong)

/-- 'platterlaw05.CorrectBlocks': WHATEVER THE INPUT: true; the input reads as it did. -/
def correctBlocksSpec : ChangeSpec := { name := "correctBlocks", fn := fun _ => fun
  | [d1, d2] => { results := [.lit (.bool true)], args := [d1, d2] }
  | _ => none }
def correctBlocksRow : OpenClaim := { program := "ytlmkpaimjpdhiaadoor", sum := "f6cfafaf06452f647a2939c309d36b8de1c8adefc17079a6a98242204e2dc93e", func := "platter/platterlaw05.CorrectBlocks", spec := "correctBlocks", unfollowed := true, recurses := true, named := ["platter/correct.powers", "platter/correct.logs"], apart := false, laid := [("platter/correct.powers", laid_platter_correct_powers), ("platter/correct.logs", laid_platter_correct_logs)] }
def CorrectBlocksSaid : Prop := correctBlocksRow.holds Tryd.pinned (OpenSpec.ofChange correctBlocksSpec)

/-- ITS FALSE NEIGHBOUR: 'it returns false'. Refute it at one input. -/
def correctBlocksWrong : ChangeSpec := { name := "correctBlocks", fn := fun _ => fun
  | [d1, d2] => { results := [.lit (.bool false)], args := [d1, d2] }
  | _ => none }
def CorrectBlocksWrongFalsely : Prop := correctBlocksRow.holds Tryd.pinned (OpenSpec.ofChange correctBlocksWrong)

/-- 'platterlaw05.CorrectBursts': WHATEVER THE INPUT: true; the input reads as it did. -/
def correctBurstsSpec : ChangeSpec := { name := "correctBursts", fn := fun _ => fun
  | [d1, d2] => { results := [.lit (.bool true)], args := [d1, d2] }
  | _ => none }
def correctBurstsRow : OpenClaim := { program := "ytlmkpaimjpdhiaadoor", sum := "f6cfafaf06452f647a2939c309d36b8de1c8adefc17079a6a98242204e2dc93e", func := "platter/platterlaw05.CorrectBursts", spec := "correctBursts", unfollowed := true, recurses := true, named := ["platter/correct.powers", "platter/correct.logs"], apart := false, laid := [("platter/correct.powers", laid_platter_correct_powers), ("platter/correct.logs", laid_platter_correct_logs)] }
def CorrectBurstsSaid : Prop := correctBurstsRow.holds Tryd.pinned (OpenSpec.ofChange correctBurstsSpec)

/-- ITS FALSE NEIGHBOUR: 'it returns false'. Refute it at one input. -/
def correctBurstsWrong : ChangeSpec := { name := "correctBursts", fn := fun _ => fun
  | [d1, d2] => { results := [.lit (.bool false)], args := [d1, d2] }
  | _ => none }
def CorrectBurstsWrongFalsely : Prop := correctBurstsRow.holds Tryd.pinned (OpenSpec.ofChange correctBurstsWrong)

/- THE SECOND FORM. 'bulk': how many values and letters a reading holds, each counted each time it is reached (what is shared counts as often as it is met; a slice's spare places count too). A statement '..UptoSaid' is the law's where the arguments, and the package variables that the reading takes, are together of bulk at most 1048576: NARROWER than '..Said'. Prove '..Said' where nothing that the law and all that it calls make is longer than what came in: it says more and counts as full. Else prove '..UptoSaid'. A law counts once. -/
mutual
def uptoBulk {H : Type} : DataW H → Nat
  | .lit (.string bytes) => bytes.length + 1
  | .lit _ => 1
  | .nil => 1
  | .ptr d => uptoBulk d + 1
  | .slice elems spare => uptoBulkAll elems + uptoBulkAll spare + 1
  | .agg parts => uptoBulkAll parts + 1
  | .iface _ d => uptoBulk d + 1
  | .map entries => uptoBulkEntries entries + 1
  | .held _ => 1
def uptoBulkAll {H : Type} : List (DataW H) → Nat
  | [] => 0
  | d :: r => uptoBulk d + uptoBulkAll r
def uptoBulkEntries {H : Type} : List (Lit × DataW H) → Nat
  | [] => 0
  | x :: r => uptoBulkEntry x + uptoBulkEntries r
def uptoBulkEntry {H : Type} : Lit × DataW H → Nat
  | (.string bytes, d) => bytes.length + uptoBulk d + 1
  | (_, d) => uptoBulk d + 1
 end
def uptoSmall : (H : Type) → List (DataW H) → Bool := fun _ ds => decide (uptoBulkAll ds ≤ 1048576)
def OpenSpec.upto (s : _root_.Go.ChangeSpec) : _root_.Go.OpenSpec := { _root_.Go.OpenSpec.ofChange s with cond := some uptoSmall }

/-- 'platterlaw05.CorrectWords', WHERE WHAT IT READS IS OF BULK AT MOST 1048576: true; the input reads as it did. -/
def correctWordsUptoRow : OpenClaim := { program := "ytlmkpaimjpdhiaadoor", sum := "f6cfafaf06452f647a2939c309d36b8de1c8adefc17079a6a98242204e2dc93e", func := "platter/platterlaw05.CorrectWords", spec := "correctWords", unfollowed := true, recurses := true, named := ["platter/correct.powers", "platter/correct.logs"], apart := false, laid := [("platter/correct.powers", laid_platter_correct_powers), ("platter/correct.logs", laid_platter_correct_logs)], narrowed := true }
def CorrectWordsUptoSaid : Prop := correctWordsUptoRow.holds Tryd.pinned (OpenSpec.upto correctWordsSpec)

/-- 'platterlaw05.CorrectBound', WHERE WHAT IT READS IS OF BULK AT MOST 1048576: true; the input reads as it did. -/
def correctBoundUptoRow : OpenClaim := { program := "ytlmkpaimjpdhiaadoor", sum := "f6cfafaf06452f647a2939c309d36b8de1c8adefc17079a6a98242204e2dc93e", func := "platter/platterlaw05.CorrectBound", spec := "correctBound", unfollowed := true, recurses := true, named := ["platter/correct.powers", "platter/correct.logs"], apart := false, laid := [("platter/correct.powers", laid_platter_correct_powers), ("platter/correct.logs", laid_platter_correct_logs)], narrowed := true }
def CorrectBoundUptoSaid : Prop := correctBoundUptoRow.holds Tryd.pinned (OpenSpec.upto correctBoundSpec)

/-- 'platterlaw05.CorrectLinear', WHERE WHAT IT READS IS OF BULK AT MOST 1048576: true; the input reads as it did. -/
def correctLinearUptoRow : OpenClaim := { program := "ytlmkpaimjpdhiaadoor", sum := "f6cfafaf06452f647a2939c309d36b8de1c8adefc17079a6a98242204e2dc93e", func := "platter/platterlaw05.CorrectLinear", spec := "correctLinear", unfollowed := true, recurses := true, named := ["platter/correct.powers", "platter/correct.logs"], apart := false, laid := [("platter/correct.powers", laid_platter_correct_powers), ("platter/correct.logs", laid_platter_correct_logs)], narrowed := true }
def CorrectLinearUptoSaid : Prop := correctLinearUptoRow.holds Tryd.pinned (OpenSpec.upto correctLinearSpec)

/-- 'platterlaw05.CorrectNoise', WHERE WHAT IT READS IS OF BULK AT MOST 1048576: true; the input reads as it did. -/
def correctNoiseUptoRow : OpenClaim := { program := "ytlmkpaimjpdhiaadoor", sum := "f6cfafaf06452f647a2939c309d36b8de1c8adefc17079a6a98242204e2dc93e", func := "platter/platterlaw05.CorrectNoise", spec := "correctNoise", unfollowed := true, recurses := true, named := ["platter/correct.powers", "platter/correct.logs"], apart := false, laid := [("platter/correct.powers", laid_platter_correct_powers), ("platter/correct.logs", laid_platter_correct_logs)], narrowed := true }
def CorrectNoiseUptoSaid : Prop := correctNoiseUptoRow.holds Tryd.pinned (OpenSpec.upto correctNoiseSpec)

/-- 'platterlaw05.CorrectRefused', WHERE WHAT IT READS IS OF BULK AT MOST 1048576: true; the input reads as it did. -/
def correctRefusedUptoRow : OpenClaim := { program := "ytlmkpaimjpdhiaadoor", sum := "f6cfafaf06452f647a2939c309d36b8de1c8adefc17079a6a98242204e2dc93e", func := "platter/platterlaw05.CorrectRefused", spec := "correctRefused", unfollowed := true, recurses := true, named := ["platter/correct.powers", "platter/correct.logs"], apart := false, laid := [("platter/correct.powers", laid_platter_correct_powers), ("platter/correct.logs", laid_platter_correct_logs)], narrowed := true }
def CorrectRefusedUptoSaid : Prop := correctRefusedUptoRow.holds Tryd.pinned (OpenSpec.upto correctRefusedSpec)

/-- 'platterlaw05.CorrectMisled', WHERE WHAT IT READS IS OF BULK AT MOST 1048576: true; the input reads as it did. -/
def correctMisledUptoRow : OpenClaim := { program := "ytlmkpaimjpdhiaadoor", sum := "f6cfafaf06452f647a2939c309d36b8de1c8adefc17079a6a98242204e2dc93e", func := "platter/platterlaw05.CorrectMisled", spec := "correctMisled", unfollowed := true, recurses := true, named := ["platter/correct.powers", "platter/correct.logs"], apart := false, laid := [("platter/correct.powers", laid_platter_correct_powers), ("platter/correct.logs", laid_platter_correct_logs)], narrowed := true }
def CorrectMisledUptoSaid : Prop := correctMisledUptoRow.holds Tryd.pinned (OpenSpec.upto correctMisledSpec)

/-- 'platterlaw05.CorrectMore', WHERE WHAT IT READS IS OF BULK AT MOST 1048576: true; the input reads as it did. -/
def correctMoreUptoRow : OpenClaim := { program := "ytlmkpaimjpdhiaadoor", sum := "f6cfafaf06452f647a2939c309d36b8de1c8adefc17079a6a98242204e2dc93e", func := "platter/platterlaw05.CorrectMore", spec := "correctMore", unfollowed := true, recurses := true, named := ["platter/correct.powers", "platter/correct.logs"], apart := false, laid := [("platter/correct.powers", laid_platter_correct_powers), ("platter/correct.logs", laid_platter_correct_logs)], narrowed := true }
def CorrectMoreUptoSaid : Prop := correctMoreUptoRow.holds Tryd.pinned (OpenSpec.upto correctMoreSpec)

/-- 'platterlaw05.CorrectReads', WHERE WHAT IT READS IS OF BULK AT MOST 1048576: true; the input reads as it did. -/
def correctReadsUptoRow : OpenClaim := { program := "ytlmkpaimjpdhiaadoor", sum := "f6cfafaf06452f647a2939c309d36b8de1c8adefc17079a6a98242204e2dc93e", func := "platter/platterlaw05.CorrectReads", spec := "correctReads", unfollowed := true, recurses := true, named := ["platter/correct.powers", "platter/correct.logs"], apart := false, laid := [("platter/correct.powers", laid_platter_correct_powers), ("platter/correct.logs", laid_platter_correct_logs)], narrowed := true }
def CorrectReadsUptoSaid : Prop := correctReadsUptoRow.holds Tryd.pinned (OpenSpec.upto correctReadsSpec)

/-- 'platterlaw05.CorrectReread', WHERE WHAT IT READS IS OF BULK AT MOST 1048576: true; the input reads as it did. -/
def correctRereadUptoRow : OpenClaim := { program := "ytlmkpaimjpdhiaadoor", sum := "f6cfafaf06452f647a2939c309d36b8de1c8adefc17079a6a98242204e2dc93e", func := "platter/platterlaw05.CorrectReread", spec := "correctReread", unfollowed := true, recurses := true, named := ["platter/correct.powers", "platter/correct.logs"], apart := false, laid := [("platter/correct.powers", laid_platter_correct_powers), ("platter/correct.logs", laid_platter_correct_logs)], narrowed := true }
def CorrectRereadUptoSaid : Prop := correctRereadUptoRow.holds Tryd.pinned (OpenSpec.upto correctRereadSpec)

/-- 'platterlaw05.CorrectBlocks', WHERE WHAT IT READS IS OF BULK AT MOST 1048576: true; the input reads as it did. -/
def correctBlocksUptoRow : OpenClaim := { program := "ytlmkpaimjpdhiaadoor", sum := "f6cfafaf06452f647a2939c309d36b8de1c8adefc17079a6a98242204e2dc93e", func := "platter/platterlaw05.CorrectBlocks", spec := "correctBlocks", unfollowed := true, recurses := true, named := ["platter/correct.powers", "platter/correct.logs"], apart := false, laid := [("platter/correct.powers", laid_platter_correct_powers), ("platter/correct.logs", laid_platter_correct_logs)], narrowed := true }
def CorrectBlocksUptoSaid : Prop := correctBlocksUptoRow.holds Tryd.pinned (OpenSpec.upto correctBlocksSpec)

/-- 'platterlaw05.CorrectBursts', WHERE WHAT IT READS IS OF BULK AT MOST 1048576: true; the input reads as it did. -/
def correctBurstsUptoRow : OpenClaim := { program := "ytlmkpaimjpdhiaadoor", sum := "f6cfafaf06452f647a2939c309d36b8de1c8adefc17079a6a98242204e2dc93e", func := "platter/platterlaw05.CorrectBursts", spec := "correctBursts", unfollowed := true, recurses := true, named := ["platter/correct.powers", "platter/correct.logs"], apart := false, laid := [("platter/correct.powers", laid_platter_correct_powers), ("platter/correct.logs", laid_platter_correct_logs)], narrowed := true }
def CorrectBurstsUptoSaid : Prop := correctBurstsUptoRow.holds Tryd.pinned (OpenSpec.upto correctBurstsSpec)

end Rows
end Go.Proofs.YtlmkpaimjpdhiaaDoor
