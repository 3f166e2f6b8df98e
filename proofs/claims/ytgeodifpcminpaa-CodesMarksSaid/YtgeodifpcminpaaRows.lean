/-
  No cell of these rows narrows 'for every input' (looked for: loops, veiled, ifaces, maps, wideKeys, modest, calm, conditions, laid).
  DERIVED. THE GIVEN ROWS OF THIS SEAT. 10 by the template 'for every input the law returns true; each argument reads behind the call as it read before'; 0 by the template 'total and deterministic' (their statements: YtgeodifpcminpaaTotals.lean).
  GIVEN WITH THE SEED: the statements are not yours to turn. If you find one false, say at which input.
  Laid BY PROGRAM, IN A SANDBOX (cutbox-rows.mjs): the forced cells as the released guide's own fill.sh prints them over the translation 0ad3858e3cd7ba6f… (all of the seat's roots in one cut). By AI agents, Wed Nov 11 2026. No macro, syntax, notation, axiom, sorry.
-/
import Derived.Test.YtgeodifpcminpaaChecked
import GoSem.Claim
import GoSem.ClaimJoined
import GoSem.ClaimMapViews
import Derived.JoinedTies
import Derived.KernelRfl
namespace Go.Proofs.Ytgeodifpcminpaa
/- THE CELL 'sum', in the pinned program and in every row, IS THE sha256 OF THE DUMP (.gsa) THAT YtgeodifpcminpaaProg.lean LOADS. Nothing in Lean hashes anything: it is a label: what it is worth is what the hold of that sum in a sandbox is worth. -/
noncomputable def Try.pinned : Pinned := { name := "ytgeodifpcminpaa", sum := "0ad3858e3cd7ba6ff272a1829ab7ce4a9475b3c0894853c2315d673af0354bb9", checked := Try.checked }
namespace Rows
def none {H : Type} : Left H := { results := [], args := [] }

/-- 'platterlaw04.CodesJoined': WHATEVER THE INPUT: true; the input reads as it did. -/
def codesJoinedSpec : ChangeSpec := { name := "codesJoined", fn := fun _ => fun
  | [d1, d2, d3] => { results := [.lit (.bool true)], args := [d1, d2, d3] }
  | _ => none }
def codesJoinedRow : OpenClaim := { program := "ytgeodifpcminpaa", sum := "0ad3858e3cd7ba6ff272a1829ab7ce4a9475b3c0894853c2315d673af0354bb9", func := "platter/platterlaw04.CodesJoined", spec := "codesJoined", unfollowed := true, recurses := true, plainKeys := false, apart := false }
def CodesJoinedSaid : Prop := codesJoinedRow.holds Try.pinned (OpenSpec.ofChange codesJoinedSpec)

/-- ITS FALSE NEIGHBOUR: 'it returns false'. Refute it at one input. -/
def codesJoinedWrong : ChangeSpec := { name := "codesJoined", fn := fun _ => fun
  | [d1, d2, d3] => { results := [.lit (.bool false)], args := [d1, d2, d3] }
  | _ => none }
def CodesJoinedWrongFalsely : Prop := codesJoinedRow.holds Try.pinned (OpenSpec.ofChange codesJoinedWrong)

/-- 'platterlaw04.CodesThere': WHATEVER THE INPUT: true; the input reads as it did. -/
def codesThereSpec : ChangeSpec := { name := "codesThere", fn := fun _ => fun
  | [d1, d2, d3] => { results := [.lit (.bool true)], args := [d1, d2, d3] }
  | _ => none }
def codesThereRow : OpenClaim := { program := "ytgeodifpcminpaa", sum := "0ad3858e3cd7ba6ff272a1829ab7ce4a9475b3c0894853c2315d673af0354bb9", func := "platter/platterlaw04.CodesThere", spec := "codesThere", unfollowed := true, recurses := true, plainKeys := false, apart := false }
def CodesThereSaid : Prop := codesThereRow.holds Try.pinned (OpenSpec.ofChange codesThereSpec)

/-- ITS FALSE NEIGHBOUR: 'it returns false'. Refute it at one input. -/
def codesThereWrong : ChangeSpec := { name := "codesThere", fn := fun _ => fun
  | [d1, d2, d3] => { results := [.lit (.bool false)], args := [d1, d2, d3] }
  | _ => none }
def CodesThereWrongFalsely : Prop := codesThereRow.holds Try.pinned (OpenSpec.ofChange codesThereWrong)

/-- 'platterlaw04.CodesRows': WHATEVER THE INPUT: true; the input reads as it did. -/
def codesRowsSpec : ChangeSpec := { name := "codesRows", fn := fun _ => fun
  | [d1, d2] => { results := [.lit (.bool true)], args := [d1, d2] }
  | _ => none }
def codesRowsRow : OpenClaim := { program := "ytgeodifpcminpaa", sum := "0ad3858e3cd7ba6ff272a1829ab7ce4a9475b3c0894853c2315d673af0354bb9", func := "platter/platterlaw04.CodesRows", spec := "codesRows", unfollowed := true, recurses := true, plainKeys := false, apart := false }
def CodesRowsSaid : Prop := codesRowsRow.holds Try.pinned (OpenSpec.ofChange codesRowsSpec)

/-- ITS FALSE NEIGHBOUR: 'it returns false'. Refute it at one input. -/
def codesRowsWrong : ChangeSpec := { name := "codesRows", fn := fun _ => fun
  | [d1, d2] => { results := [.lit (.bool false)], args := [d1, d2] }
  | _ => none }
def CodesRowsWrongFalsely : Prop := codesRowsRow.holds Try.pinned (OpenSpec.ofChange codesRowsWrong)

/-- 'platterlaw04.CodesFound': WHATEVER THE INPUT: true; the input reads as it did. -/
def codesFoundSpec : ChangeSpec := { name := "codesFound", fn := fun _ => fun
  | [d1, d2] => { results := [.lit (.bool true)], args := [d1, d2] }
  | _ => none }
def codesFoundRow : OpenClaim := { program := "ytgeodifpcminpaa", sum := "0ad3858e3cd7ba6ff272a1829ab7ce4a9475b3c0894853c2315d673af0354bb9", func := "platter/platterlaw04.CodesFound", spec := "codesFound", unfollowed := true, recurses := true, plainKeys := false, apart := false }
def CodesFoundSaid : Prop := codesFoundRow.holds Try.pinned (OpenSpec.ofChange codesFoundSpec)

/-- ITS FALSE NEIGHBOUR: 'it returns false'. Refute it at one input. -/
def codesFoundWrong : ChangeSpec := { name := "codesFound", fn := fun _ => fun
  | [d1, d2] => { results := [.lit (.bool false)], args := [d1, d2] }
  | _ => none }
def CodesFoundWrongFalsely : Prop := codesFoundRow.holds Try.pinned (OpenSpec.ofChange codesFoundWrong)

/-- 'platterlaw04.CodesNear': WHATEVER THE INPUT: true; the input reads as it did. -/
def codesNearSpec : ChangeSpec := { name := "codesNear", fn := fun _ => fun
  | [d1, d2, d3] => { results := [.lit (.bool true)], args := [d1, d2, d3] }
  | _ => none }
def codesNearRow : OpenClaim := { program := "ytgeodifpcminpaa", sum := "0ad3858e3cd7ba6ff272a1829ab7ce4a9475b3c0894853c2315d673af0354bb9", func := "platter/platterlaw04.CodesNear", spec := "codesNear", unfollowed := true, recurses := true, plainKeys := false, apart := false }
def CodesNearSaid : Prop := codesNearRow.holds Try.pinned (OpenSpec.ofChange codesNearSpec)

/-- ITS FALSE NEIGHBOUR: 'it returns false'. Refute it at one input. -/
def codesNearWrong : ChangeSpec := { name := "codesNear", fn := fun _ => fun
  | [d1, d2, d3] => { results := [.lit (.bool false)], args := [d1, d2, d3] }
  | _ => none }
def CodesNearWrongFalsely : Prop := codesNearRow.holds Try.pinned (OpenSpec.ofChange codesNearWrong)

/-- 'platterlaw04.CodesMarks': WHATEVER THE INPUT: true; the input reads as it did. -/
def codesMarksSpec : ChangeSpec := { name := "codesMarks", fn := fun _ => fun
  | [d1, d2] => { results := [.lit (.bool true)], args := [d1, d2] }
  | _ => none }
def codesMarksRow : OpenClaim := { program := "ytgeodifpcminpaa", sum := "0ad3858e3cd7ba6ff272a1829ab7ce4a9475b3c0894853c2315d673af0354bb9", func := "platter/platterlaw04.CodesMarks", spec := "codesMarks", unfollowed := true, recurses := true, plainKeys := false, apart := false }
def CodesMarksSaid : Prop := codesMarksRow.holds Try.pinned (OpenSpec.ofChange codesMarksSpec)

/-- ITS FALSE NEIGHBOUR: 'it returns false'. Refute it at one input. -/
def codesMarksWrong : ChangeSpec := { name := "codesMarks", fn := fun _ => fun
  | [d1, d2] => { results := [.lit (.bool false)], args := [d1, d2] }
  | _ => none }
def CodesMarksWrongFalsely : Prop := codesMarksRow.holds Try.pinned (OpenSpec.ofChange codesMarksWrong)

/-- 'platterlaw04.CodesRead': WHATEVER THE INPUT: true; the input reads as it did. -/
def codesReadSpec : ChangeSpec := { name := "codesRead", fn := fun _ => fun
  | [d1, d2, d3] => { results := [.lit (.bool true)], args := [d1, d2, d3] }
  | _ => none }
def codesReadRow : OpenClaim := { program := "ytgeodifpcminpaa", sum := "0ad3858e3cd7ba6ff272a1829ab7ce4a9475b3c0894853c2315d673af0354bb9", func := "platter/platterlaw04.CodesRead", spec := "codesRead", unfollowed := true, recurses := true, plainKeys := false, apart := false }
def CodesReadSaid : Prop := codesReadRow.holds Try.pinned (OpenSpec.ofChange codesReadSpec)

/-- ITS FALSE NEIGHBOUR: 'it returns false'. Refute it at one input. -/
def codesReadWrong : ChangeSpec := { name := "codesRead", fn := fun _ => fun
  | [d1, d2, d3] => { results := [.lit (.bool false)], args := [d1, d2, d3] }
  | _ => none }
def CodesReadWrongFalsely : Prop := codesReadRow.holds Try.pinned (OpenSpec.ofChange codesReadWrong)

/-- 'platterlaw04.CodesRuns': WHATEVER THE INPUT: true; the input reads as it did. -/
def codesRunsSpec : ChangeSpec := { name := "codesRuns", fn := fun _ => fun
  | [d1, d2] => { results := [.lit (.bool true)], args := [d1, d2] }
  | _ => none }
def codesRunsRow : OpenClaim := { program := "ytgeodifpcminpaa", sum := "0ad3858e3cd7ba6ff272a1829ab7ce4a9475b3c0894853c2315d673af0354bb9", func := "platter/platterlaw04.CodesRuns", spec := "codesRuns", unfollowed := true, recurses := true, plainKeys := false, apart := false }
def CodesRunsSaid : Prop := codesRunsRow.holds Try.pinned (OpenSpec.ofChange codesRunsSpec)

/-- ITS FALSE NEIGHBOUR: 'it returns false'. Refute it at one input. -/
def codesRunsWrong : ChangeSpec := { name := "codesRuns", fn := fun _ => fun
  | [d1, d2] => { results := [.lit (.bool false)], args := [d1, d2] }
  | _ => none }
def CodesRunsWrongFalsely : Prop := codesRunsRow.holds Try.pinned (OpenSpec.ofChange codesRunsWrong)

/-- 'platterlaw04.CodesRule': WHATEVER THE INPUT: true; the input reads as it did. -/
def codesRuleSpec : ChangeSpec := { name := "codesRule", fn := fun _ => fun
  | [d1, d2, d3] => { results := [.lit (.bool true)], args := [d1, d2, d3] }
  | _ => none }
def codesRuleRow : OpenClaim := { program := "ytgeodifpcminpaa", sum := "0ad3858e3cd7ba6ff272a1829ab7ce4a9475b3c0894853c2315d673af0354bb9", func := "platter/platterlaw04.CodesRule", spec := "codesRule", unfollowed := true, recurses := true, plainKeys := false, apart := false }
def CodesRuleSaid : Prop := codesRuleRow.holds Try.pinned (OpenSpec.ofChange codesRuleSpec)

/-- ITS FALSE NEIGHBOUR: 'it returns false'. Refute it at one input. -/
def codesRuleWrong : ChangeSpec := { name := "codesRule", fn := fun _ => fun
  | [d1, d2, d3] => { results := [.lit (.bool false)], args := [d1, d2, d3] }
  | _ => none }
def CodesRuleWrongFalsely : Prop := codesRuleRow.holds Try.pinned (OpenSpec.ofChange codesRuleWrong)

/-- 'platterlaw04.CodesHolds': WHATEVER THE INPUT: true; the input reads as it did. -/
def codesHoldsSpec : ChangeSpec := { name := "codesHolds", fn := fun _ => fun
  | [d] => { results := [.lit (.bool true)], args := [d] }
  | _ => none }
def codesHoldsRow : OpenClaim := { program := "ytgeodifpcminpaa", sum := "0ad3858e3cd7ba6ff272a1829ab7ce4a9475b3c0894853c2315d673af0354bb9", func := "platter/platterlaw04.CodesHolds", spec := "codesHolds", unfollowed := true, recurses := true, plainKeys := false, apart := false }
def CodesHoldsSaid : Prop := codesHoldsRow.holds Try.pinned (OpenSpec.ofChange codesHoldsSpec)

/-- ITS FALSE NEIGHBOUR: 'it returns false'. Refute it at one input. -/
def codesHoldsWrong : ChangeSpec := { name := "codesHolds", fn := fun _ => fun
  | [d] => { results := [.lit (.bool false)], args := [d] }
  | _ => none }
def CodesHoldsWrongFalsely : Prop := codesHoldsRow.holds Try.pinned (OpenSpec.ofChange codesHoldsWrong)

/- THE SECOND FORM. 'bulk': how many values and letters a reading holds, each counted each time it is reached (what is shared counts as often as it is met; a slice's spare places count too). A statement '..UptoSaid' is the law's where the arguments, and the package variables that the reading takes, are together of bulk at most 1048576: NARROWER than '..Said'. Prove '..Said' where nothing that the law and all that it calls make is longer than what came in: it says more and counts as full. Else prove '..UptoSaid'. A law counts once. -/
mutual
def uptoBulk {H : Type} : DataW H → Nat
  | .lit (.string bytes) => bytes.length + 1
  | .lit _ => 1
  | .nil => 1
  | .ptr d => uptoBulk d + 1
  | .slice elems spare => uptoBulkAll elems + uptoBulkAll spare + 1
  | .agg parts => uptoBulkAll parts + 1
  | .iface _ d => uptoBulk d + 1
  | .map entries => uptoBulkEntries entries + 1
  | .held _ => 1
def uptoBulkAll {H : Type} : List (DataW H) → Nat
  | [] => 0
  | d :: r => uptoBulk d + uptoBulkAll r
def uptoBulkEntries {H : Type} : List (Lit × DataW H) → Nat
  | [] => 0
  | x :: r => uptoBulkEntry x + uptoBulkEntries r
def uptoBulkEntry {H : Type} : Lit × DataW H → Nat
  | (.string bytes, d) => bytes.length + uptoBulk d + 1
  | (_, d) => uptoBulk d + 1
 end
def uptoSmall : (H : Type) → List (DataW H) → Bool := fun _ ds => decide (uptoBulkAll ds ≤ 1048576)
def OpenSpec.upto (s : _root_.Go.ChangeSpec) : _root_.Go.OpenSpec := { _root_.Go.OpenSpec.ofChange s with cond := some uptoSmall }

/-- 'platterlaw04.CodesJoined', WHERE WHAT IT READS IS OF BULK AT MOST 1048576: true; the input reads as it did. -/
def codesJoinedUptoRow : OpenClaim := { program := "ytgeodifpcminpaa", sum := "0ad3858e3cd7ba6ff272a1829ab7ce4a9475b3c0894853c2315d673af0354bb9", func := "platter/platterlaw04.CodesJoined", spec := "codesJoined", unfollowed := true, recurses := true, plainKeys := false, apart := false, narrowed := true }
def CodesJoinedUptoSaid : Prop := codesJoinedUptoRow.holds Try.pinned (OpenSpec.upto codesJoinedSpec)

/-- 'platterlaw04.CodesThere', WHERE WHAT IT READS IS OF BULK AT MOST 1048576: true; the input reads as it did. -/
def codesThereUptoRow : OpenClaim := { program := "ytgeodifpcminpaa", sum := "0ad3858e3cd7ba6ff272a1829ab7ce4a9475b3c0894853c2315d673af0354bb9", func := "platter/platterlaw04.CodesThere", spec := "codesThere", unfollowed := true, recurses := true, plainKeys := false, apart := false, narrowed := true }
def CodesThereUptoSaid : Prop := codesThereUptoRow.holds Try.pinned (OpenSpec.upto codesThereSpec)

/-- 'platterlaw04.CodesRows', WHERE WHAT IT READS IS OF BULK AT MOST 1048576: true; the input reads as it did. -/
def codesRowsUptoRow : OpenClaim := { program := "ytgeodifpcminpaa", sum := "0ad3858e3cd7ba6ff272a1829ab7ce4a9475b3c0894853c2315d673af0354bb9", func := "platter/platterlaw04.CodesRows", spec := "codesRows", unfollowed := true, recurses := true, plainKeys := false, apart := false, narrowed := true }
def CodesRowsUptoSaid : Prop := codesRowsUptoRow.holds Try.pinned (OpenSpec.upto codesRowsSpec)

/-- 'platterlaw04.CodesFound', WHERE WHAT IT READS IS OF BULK AT MOST 1048576: true; the input reads as it did. -/
def codesFoundUptoRow : OpenClaim := { program := "ytgeodifpcminpaa", sum := "0ad3858e3cd7ba6ff272a1829ab7ce4a9475b3c0894853c2315d673af0354bb9", func := "platter/platterlaw04.CodesFound", spec := "codesFound", unfollowed := true, recurses := true, plainKeys := false, apart := false, narrowed := true }
def CodesFoundUptoSaid : Prop := codesFoundUptoRow.holds Try.pinned (OpenSpec.upto codesFoundSpec)

/-- 'platterlaw04.CodesNear', WHERE WHAT IT READS IS OF BULK AT MOST 1048576: true; the input reads as it did. -/
def codesNearUptoRow : OpenClaim := { program := "ytgeodifpcminpaa", sum := "0ad3858e3cd7ba6ff272a1829ab7ce4a9475b3c0894853c2315d673af0354bb9", func := "platter/platterlaw04.CodesNear", spec := "codesNear", unfollowed := true, recurses := true, plainKeys := false, apart := false, narrowed := true }
def CodesNearUptoSaid : Prop := codesNearUptoRow.holds Try.pinned (OpenSpec.upto codesNearSpec)

/-- 'platterlaw04.CodesMarks', WHERE WHAT IT READS IS OF BULK AT MOST 1048576: true; the input reads as it did. -/
def codesMarksUptoRow : OpenClaim := { program := "ytgeodifpcminpaa", sum := "0ad3858e3cd7ba6ff272a1829ab7ce4a9475b3c0894853c2315d673af0354bb9", func := "platter/platterlaw04.CodesMarks", spec := "codesMarks", unfollowed := true, recurses := true, plainKeys := false, apart := false, narrowed := true }
def CodesMarksUptoSaid : Prop := codesMarksUptoRow.holds Try.pinned (OpenSpec.upto codesMarksSpec)

/-- 'platterlaw04.CodesRead', WHERE WHAT IT READS IS OF BULK AT MOST 1048576: true; the input reads as it did. -/
def codesReadUptoRow : OpenClaim := { program := "ytgeodifpcminpaa", sum := "0ad3858e3cd7ba6ff272a1829ab7ce4a9475b3c0894853c2315d673af0354bb9", func := "platter/platterlaw04.CodesRead", spec := "codesRead", unfollowed := true, recurses := true, plainKeys := false, apart := false, narrowed := true }
def CodesReadUptoSaid : Prop := codesReadUptoRow.holds Try.pinned (OpenSpec.upto codesReadSpec)

/-- 'platterlaw04.CodesRuns', WHERE WHAT IT READS IS OF BULK AT MOST 1048576: true; the input reads as it did. -/
def codesRunsUptoRow : OpenClaim := { program := "ytgeodifpcminpaa", sum := "0ad3858e3cd7ba6ff272a1829ab7ce4a9475b3c0894853c2315d673af0354bb9", func := "platter/platterlaw04.CodesRuns", spec := "codesRuns", unfollowed := true, recurses := true, plainKeys := false, apart := false, narrowed := true }
def CodesRunsUptoSaid : Prop := codesRunsUptoRow.holds Try.pinned (OpenSpec.upto codesRunsSpec)

/-- 'platterlaw04.CodesRule', WHERE WHAT IT READS IS OF BULK AT MOST 1048576: true; the input reads as it did. -/
def codesRuleUptoRow : OpenClaim := { program := "ytgeodifpcminpaa", sum := "0ad3858e3cd7ba6ff272a1829ab7ce4a9475b3c0894853c2315d673af0354bb9", func := "platter/platterlaw04.CodesRule", spec := "codesRule", unfollowed := true, recurses := true, plainKeys := false, apart := false, narrowed := true }
def CodesRuleUptoSaid : Prop := codesRuleUptoRow.holds Try.pinned (OpenSpec.upto codesRuleSpec)

/-- 'platterlaw04.CodesHolds', WHERE WHAT IT READS IS OF BULK AT MOST 1048576: true; the input reads as it did. -/
def codesHoldsUptoRow : OpenClaim := { program := "ytgeodifpcminpaa", sum := "0ad3858e3cd7ba6ff272a1829ab7ce4a9475b3c0894853c2315d673af0354bb9", func := "platter/platterlaw04.CodesHolds", spec := "codesHolds", unfollowed := true, recurses := true, plainKeys := false, apart := false, narrowed := true }
def CodesHoldsUptoSaid : Prop := codesHoldsUptoRow.holds Try.pinned (OpenSpec.upto codesHoldsSpec)

end Rows
end Go.Proofs.Ytgeodifpcminpaa
