/-
  NARROWER THAN 'FOR EVERY INPUT', by the rows' own cells (each row's printed sentence says how): JournalReplay: laid · JournalAgain: laid · JournalWrites: laid · JournalKept: laid · JournalCut: laid · JournalOld: laid · JournalRoom: laid · JournalRuns: laid · JournalScan: laid.
  DERIVED. THE GIVEN ROWS OF THIS SEAT. 9 by the template 'for every input the law returns true; each argument reads behind the call as it read before'; 0 by the template 'total and deterministic' (their statements: YtiphmemigdplgaaDoorTotals.lean).
  GIVEN WITH THE SEED: the statements are not yours to turn. If you find one false, say at which input.
  Laid BY PROGRAM, IN A SANDBOX (cutbox-rows.mjs): the forced cells as the released guide's own fill.sh prints them over the translation 79f6d1bbcb1daf08… (all of the seat's roots in one cut). By AI agents, Wed Nov 11 2026. No macro, syntax, notation, axiom, sorry.
-/
import Derived.Test.YtiphmemigdplgaaDoorChecked
import GoSem.Claim
import GoSem.ClaimJoined
import GoSem.ClaimMapViews
import Derived.JoinedTies
import Derived.KernelRfl
namespace Go.Proofs.YtiphmemigdplgaaDoor
/- THE CELL 'sum', in the pinned program and in every row, IS THE sha256 OF THE DUMP (.gsa) THAT YtiphmemigdplgaaDoorProg.lean LOADS. Nothing in Lean hashes anything: it is a label: what it is worth is what the hold of that sum in a sandbox is worth. -/
noncomputable def Tryd.pinned : Pinned := { name := "ytiphmemigdplgaadoor", sum := "79f6d1bbcb1daf0860a0198ea67d8b7d2411779035194cd4d1fe891ffb9077ff", checked := Tryd.checked }
namespace Rows
def none {H : Type} : Left H := { results := [], args := [] }

/- WHAT THE LISTED PACKAGE-LEVEL VARIABLES READ AS WHEN THE CALL BEGINS. Each datum BY PROGRAM (the guide's laid-datum.mjs) off the statement by which the dump's own 'gosem.cut.vars' lays the variable. In a bare row this is a premise. The card (YtiphmemigdplgaaDoorCards.lean) ties it to the program's text. -/
def laid_platter_journal_empty {H : Type} : DataW H := .agg [.lit (.int .i64 (-1)), .lit (.int .i64 0), .lit (.int .i64 0), .lit (.int .i64 0), .lit (.bool false)]
def laid_platter_journal_bad {H : Type} : DataW H := .agg [.lit (.int .i64 0), .lit (.int .i64 0), .lit (.int .i64 0), .lit (.int .i64 0), .lit (.bool true)]

/-- 'platterlaw16.JournalReplay': WHATEVER THE INPUT: true; the input reads as it did. -/
def journalReplaySpec : ChangeSpec := { name := "journalReplay", fn := fun _ => fun
  | [d1, d2, d3] => { results := [.lit (.bool true)], args := [d1, d2, d3] }
  | _ => none }
def journalReplayRow : OpenClaim := { program := "ytiphmemigdplgaadoor", sum := "79f6d1bbcb1daf0860a0198ea67d8b7d2411779035194cd4d1fe891ffb9077ff", func := "platter/platterlaw16.JournalReplay", spec := "journalReplay", unfollowed := true, recurses := true, named := ["platter/journal.empty", "platter/journal.bad"], apart := false, laid := [("platter/journal.empty", laid_platter_journal_empty), ("platter/journal.bad", laid_platter_journal_bad)] }
def JournalReplaySaid : Prop := journalReplayRow.holds Tryd.pinned (OpenSpec.ofChange journalReplaySpec)

/-- ITS FALSE NEIGHBOUR: 'it returns false'. Refute it at one input. -/
def journalReplayWrong : ChangeSpec := { name := "journalReplay", fn := fun _ => fun
  | [d1, d2, d3] => { results := [.lit (.bool false)], args := [d1, d2, d3] }
  | _ => none }
def JournalReplayWrongFalsely : Prop := journalReplayRow.holds Tryd.pinned (OpenSpec.ofChange journalReplayWrong)

/-- 'platterlaw16.JournalAgain': WHATEVER THE INPUT: true; the input reads as it did. -/
def journalAgainSpec : ChangeSpec := { name := "journalAgain", fn := fun _ => fun
  | [d1, d2] => { results := [.lit (.bool true)], args := [d1, d2] }
  | _ => none }
def journalAgainRow : OpenClaim := { program := "ytiphmemigdplgaadoor", sum := "79f6d1bbcb1daf0860a0198ea67d8b7d2411779035194cd4d1fe891ffb9077ff", func := "platter/platterlaw16.JournalAgain", spec := "journalAgain", unfollowed := true, recurses := true, named := ["platter/journal.empty", "platter/journal.bad"], apart := false, laid := [("platter/journal.empty", laid_platter_journal_empty), ("platter/journal.bad", laid_platter_journal_bad)] }
def JournalAgainSaid : Prop := journalAgainRow.holds Tryd.pinned (OpenSpec.ofChange journalAgainSpec)

/-- ITS FALSE NEIGHBOUR: 'it returns false'. Refute it at one input. -/
def journalAgainWrong : ChangeSpec := { name := "journalAgain", fn := fun _ => fun
  | [d1, d2] => { results := [.lit (.bool false)], args := [d1, d2] }
  | _ => none }
def JournalAgainWrongFalsely : Prop := journalAgainRow.holds Tryd.pinned (OpenSpec.ofChange journalAgainWrong)

/-- 'platterlaw16.JournalWrites': WHATEVER THE INPUT: true; the input reads as it did. -/
def journalWritesSpec : ChangeSpec := { name := "journalWrites", fn := fun _ => fun
  | [d1, d2] => { results := [.lit (.bool true)], args := [d1, d2] }
  | _ => none }
def journalWritesRow : OpenClaim := { program := "ytiphmemigdplgaadoor", sum := "79f6d1bbcb1daf0860a0198ea67d8b7d2411779035194cd4d1fe891ffb9077ff", func := "platter/platterlaw16.JournalWrites", spec := "journalWrites", unfollowed := true, recurses := true, named := ["platter/journal.empty", "platter/journal.bad"], apart := false, laid := [("platter/journal.empty", laid_platter_journal_empty), ("platter/journal.bad", laid_platter_journal_bad)] }
def JournalWritesSaid : Prop := journalWritesRow.holds Tryd.pinned (OpenSpec.ofChange journalWritesSpec)

/-- ITS FALSE NEIGHBOUR: 'it returns false'. Refute it at one input. -/
def journalWritesWrong : ChangeSpec := { name := "journalWrites", fn := fun _ => fun
  | [d1, d2] => { results := [.lit (.bool false)], args := [d1, d2] }
  | _ => none }
def JournalWritesWrongFalsely : Prop := journalWritesRow.holds Tryd.pinned (OpenSpec.ofChange journalWritesWrong)

/-- 'platterlaw16.JournalKept': WHATEVER THE INPUT: true; the input reads as it did. -/
def journalKeptSpec : ChangeSpec := { name := "journalKept", fn := fun _ => fun
  | [d1, d2] => { results := [.lit (.bool true)], args := [d1, d2] }
  | _ => none }
def journalKeptRow : OpenClaim := { program := "ytiphmemigdplgaadoor", sum := "79f6d1bbcb1daf0860a0198ea67d8b7d2411779035194cd4d1fe891ffb9077ff", func := "platter/platterlaw16.JournalKept", spec := "journalKept", unfollowed := true, recurses := true, named := ["platter/journal.empty", "platter/journal.bad"], apart := false, laid := [("platter/journal.empty", laid_platter_journal_empty), ("platter/journal.bad", laid_platter_journal_bad)] }
def JournalKeptSaid : Prop := journalKeptRow.holds Tryd.pinned (OpenSpec.ofChange journalKeptSpec)

/-- ITS FALSE NEIGHBOUR: 'it returns false'. Refute it at one input. -/
def journalKeptWrong : ChangeSpec := { name := "journalKept", fn := fun _ => fun
  | [d1, d2] => { results := [.lit (.bool false)], args := [d1, d2] }
  | _ => none }
def JournalKeptWrongFalsely : Prop := journalKeptRow.holds Tryd.pinned (OpenSpec.ofChange journalKeptWrong)

/-- 'platterlaw16.JournalCut': WHATEVER THE INPUT: true; the input reads as it did. -/
def journalCutSpec : ChangeSpec := { name := "journalCut", fn := fun _ => fun
  | [d1, d2] => { results := [.lit (.bool true)], args := [d1, d2] }
  | _ => none }
def journalCutRow : OpenClaim := { program := "ytiphmemigdplgaadoor", sum := "79f6d1bbcb1daf0860a0198ea67d8b7d2411779035194cd4d1fe891ffb9077ff", func := "platter/platterlaw16.JournalCut", spec := "journalCut", unfollowed := true, recurses := true, named := ["platter/journal.empty", "platter/journal.bad"], apart := false, laid := [("platter/journal.empty", laid_platter_journal_empty), ("platter/journal.bad", laid_platter_journal_bad)] }
def JournalCutSaid : Prop := journalCutRow.holds Tryd.pinned (OpenSpec.ofChange journalCutSpec)

/-- ITS FALSE NEIGHBOUR: 'it returns false'. Refute it at one input. -/
def journalCutWrong : ChangeSpec := { name := "journalCut", fn := fun _ => fun
  | [d1, d2] => { results := [.lit (.bool false)], args := [d1, d2] }
  | _ => none }
def JournalCutWrongFalsely : Prop := journalCutRow.holds Tryd.pinned (OpenSpec.ofChange journalCutWrong)

/-- 'platterlaw16.JournalOld': WHATEVER THE INPUT: true; the input reads as it did. -/
def journalOldSpec : ChangeSpec := { name := "journalOld", fn := fun _ => fun
  | [d1, d2, d3] => { results := [.lit (.bool true)], args := [d1, d2, d3] }
  | _ => none }
def journalOldRow : OpenClaim := { program := "ytiphmemigdplgaadoor", sum := "79f6d1bbcb1daf0860a0198ea67d8b7d2411779035194cd4d1fe891ffb9077ff", func := "platter/platterlaw16.JournalOld", spec := "journalOld", unfollowed := true, recurses := true, named := ["platter/journal.empty", "platter/journal.bad"], apart := false, laid := [("platter/journal.empty", laid_platter_journal_empty), ("platter/journal.bad", laid_platter_journal_bad)] }
def JournalOldSaid : Prop := journalOldRow.holds Tryd.pinned (OpenSpec.ofChange journalOldSpec)

/-- ITS FALSE NEIGHBOUR: 'it returns false'. Refute it at one input. -/
def journalOldWrong : ChangeSpec := { name := "journalOld", fn := fun _ => fun
  | [d1, d2, d3] => { results := [.lit (.bool false)], args := [d1, d2, d3] }
  | _ => none }
def JournalOldWrongFalsely : Prop := journalOldRow.holds Tryd.pinned (OpenSpec.ofChange journalOldWrong)

/-- 'platterlaw16.JournalRoom': WHATEVER THE INPUT: true; the input reads as it did. -/
def journalRoomSpec : ChangeSpec := { name := "journalRoom", fn := fun _ => fun
  | [d1, d2] => { results := [.lit (.bool true)], args := [d1, d2] }
  | _ => none }
def journalRoomRow : OpenClaim := { program := "ytiphmemigdplgaadoor", sum := "79f6d1bbcb1daf0860a0198ea67d8b7d2411779035194cd4d1fe891ffb9077ff", func := "platter/platterlaw16.JournalRoom", spec := "journalRoom", unfollowed := true, recurses := true, named := ["platter/journal.empty", "platter/journal.bad"], apart := false, laid := [("platter/journal.empty", laid_platter_journal_empty), ("platter/journal.bad", laid_platter_journal_bad)] }
def JournalRoomSaid : Prop := journalRoomRow.holds Tryd.pinned (OpenSpec.ofChange journalRoomSpec)

/-- ITS FALSE NEIGHBOUR: 'it returns false'. Refute it at one input. -/
def journalRoomWrong : ChangeSpec := { name := "journalRoom", fn := fun _ => fun
  | [d1, d2] => { results := [.lit (.bool false)], args := [d1, d2] }
  | _ => none }
def JournalRoomWrongFalsely : Prop := journalRoomRow.holds Tryd.pinned (OpenSpec.ofChange journalRoomWrong)

/-- 'platterlaw16.JournalRuns': WHATEVER THE INPUT: true; the input reads as it did. -/
def journalRunsSpec : ChangeSpec := { name := "journalRuns", fn := fun _ => fun
  | [d] => { results := [.lit (.bool true)], args := [d] }
  | _ => none }
def journalRunsRow : OpenClaim := { program := "ytiphmemigdplgaadoor", sum := "79f6d1bbcb1daf0860a0198ea67d8b7d2411779035194cd4d1fe891ffb9077ff", func := "platter/platterlaw16.JournalRuns", spec := "journalRuns", unfollowed := true, recurses := true, named := ["platter/journal.empty", "platter/journal.bad"], apart := false, laid := [("platter/journal.empty", laid_platter_journal_empty), ("platter/journal.bad", laid_platter_journal_bad)] }
def JournalRunsSaid : Prop := journalRunsRow.holds Tryd.pinned (OpenSpec.ofChange journalRunsSpec)

/-- ITS FALSE NEIGHBOUR: 'it returns false'. Refute it at one input. -/
def journalRunsWrong : ChangeSpec := { name := "journalRuns", fn := fun _ => fun
  | [d] => { results := [.lit (.bool false)], args := [d] }
  | _ => none }
def JournalRunsWrongFalsely : Prop := journalRunsRow.holds Tryd.pinned (OpenSpec.ofChange journalRunsWrong)

/-- 'platterlaw16.JournalScan': WHATEVER THE INPUT: true; the input reads as it did. -/
def journalScanSpec : ChangeSpec := { name := "journalScan", fn := fun _ => fun
  | [d] => { results := [.lit (.bool true)], args := [d] }
  | _ => none }
def journalScanRow : OpenClaim := { program := "ytiphmemigdplgaadoor", sum := "79f6d1bbcb1daf0860a0198ea67d8b7d2411779035194cd4d1fe891ffb9077ff", func := "platter/platterlaw16.JournalScan", spec := "journalScan", unfollowed := true, recurses := true, named := ["platter/journal.empty", "platter/journal.bad"], apart := false, laid := [("platter/journal.empty", laid_platter_journal_empty), ("platter/journal.bad", laid_platter_journal_bad)] }
def JournalScanSaid : Prop := journalScanRow.holds Tryd.pinned (OpenSpec.ofChange journalScanSpec)

/-- ITS FALSE NEIGHBOUR: 'it returns false'. Refute it at one input. -/
def journalScanWrong : ChangeSpec := { name := "journalScan", fn := fun _ => fun
  | [d] => { results := [.lit (.bool false)], args := [d] }
  | _ => none }
def JournalScanWrongFalsely : Prop := journalScanRow.holds Tryd.pinned (OpenSpec.ofChange journalScanWrong)

/- THE SECOND FORM. 'bulk': how many values and letters a reading holds, each counted each time it is reached (what is shared counts as often as it is met; a slice's spare places count too). A statement '..UptoSaid' is the law's where the arguments, and the package variables that the reading takes, are together of bulk at most 1048576: NARROWER than '..Said'. Prove '..Said' where nothing that the law and all that it calls make is longer than what came in: it says more and counts as full. Else prove '..UptoSaid'. A law counts once. -/
mutual
def uptoBulk {H : Type} : DataW H → Nat
  | .lit (.string bytes) => bytes.length + 1
  | .lit _ => 1
  | .nil => 1
  | .ptr d => uptoBulk d + 1
  | .slice elems spare => uptoBulkAll elems + uptoBulkAll spare + 1
  | .agg parts => uptoBulkAll parts + 1
  | .iface _ d => uptoBulk d + 1
  | .map entries => uptoBulkEntries entries + 1
  | .held _ => 1
def uptoBulkAll {H : Type} : List (DataW H) → Nat
  | [] => 0
  | d :: r => uptoBulk d + uptoBulkAll r
def uptoBulkEntries {H : Type} : List (Lit × DataW H) → Nat
  | [] => 0
  | x :: r => uptoBulkEntry x + uptoBulkEntries r
def uptoBulkEntry {H : Type} : Lit × DataW H → Nat
  | (.string bytes, d) => bytes.length + uptoBulk d + 1
  | (_, d) => uptoBulk d + 1
 end
def uptoSmall : (H : Type) → List (DataW H) → Bool := fun _ ds => decide (uptoBulkAll ds ≤ 1048576)
def OpenSpec.upto (s : _root_.Go.ChangeSpec) : _root_.Go.OpenSpec := { _root_.Go.OpenSpec.ofChange s with cond := some uptoSmall }

/-- 'platterlaw16.JournalReplay', WHERE WHAT IT READS IS OF BULK AT MOST 1048576: true; the input reads as it did. -/
def journalReplayUptoRow : OpenClaim := { program := "ytiphmemigdplgaadoor", sum := "79f6d1bbcb1daf0860a0198ea67d8b7d2411779035194cd4d1fe891ffb9077ff", func := "platter/platterlaw16.JournalReplay", spec := "journalReplay", unfollowed := true, recurses := true, named := ["platter/journal.empty", "platter/journal.bad"], apart := false, laid := [("platter/journal.empty", laid_platter_journal_empty), ("platter/journal.bad", laid_platter_journal_bad)], narrowed := true }
def JournalReplayUptoSaid : Prop := journalReplayUptoRow.holds Tryd.pinned (OpenSpec.upto journalReplaySpec)

/-- 'platterlaw16.JournalAgain', WHERE WHAT IT READS IS OF BULK AT MOST 1048576: true; the input reads as it did. -/
def journalAgainUptoRow : OpenClaim := { program := "ytiphmemigdplgaadoor", sum := "79f6d1bbcb1daf0860a0198ea67d8b7d2411779035194cd4d1fe891ffb9077ff", func := "platter/platterlaw16.JournalAgain", spec := "journalAgain", unfollowed := true, recurses := true, named := ["platter/journal.empty", "platter/journal.bad"], apart := false, laid := [("platter/journal.empty", laid_platter_journal_empty), ("platter/journal.bad", laid_platter_journal_bad)], narrowed := true }
def JournalAgainUptoSaid : Prop := journalAgainUptoRow.holds Tryd.pinned (OpenSpec.upto journalAgainSpec)

/-- 'platterlaw16.JournalWrites', WHERE WHAT IT READS IS OF BULK AT MOST 1048576: true; the input reads as it did. -/
def journalWritesUptoRow : OpenClaim := { program := "ytiphmemigdplgaadoor", sum := "79f6d1bbcb1daf0860a0198ea67d8b7d2411779035194cd4d1fe891ffb9077ff", func := "platter/platterlaw16.JournalWrites", spec := "journalWrites", unfollowed := true, recurses := true, named := ["platter/journal.empty", "platter/journal.bad"], apart := false, laid := [("platter/journal.empty", laid_platter_journal_empty), ("platter/journal.bad", laid_platter_journal_bad)], narrowed := true }
def JournalWritesUptoSaid : Prop := journalWritesUptoRow.holds Tryd.pinned (OpenSpec.upto journalWritesSpec)

/-- 'platterlaw16.JournalKept', WHERE WHAT IT READS IS OF BULK AT MOST 1048576: true; the input reads as it did. -/
def journalKeptUptoRow : OpenClaim := { program := "ytiphmemigdplgaadoor", sum := "79f6d1bbcb1daf0860a0198ea67d8b7d2411779035194cd4d1fe891ffb9077ff", func := "platter/platterlaw16.JournalKept", spec := "journalKept", unfollowed := true, recurses := true, named := ["platter/journal.empty", "platter/journal.bad"], apart := false, laid := [("platter/journal.empty", laid_platter_journal_empty), ("platter/journal.bad", laid_platter_journal_bad)], narrowed := true }
def JournalKeptUptoSaid : Prop := journalKeptUptoRow.holds Tryd.pinned (OpenSpec.upto journalKeptSpec)

/-- 'platterlaw16.JournalCut', WHERE WHAT IT READS IS OF BULK AT MOST 1048576: true; the input reads as it did. -/
def journalCutUptoRow : OpenClaim := { program := "ytiphmemigdplgaadoor", sum := "79f6d1bbcb1daf0860a0198ea67d8b7d2411779035194cd4d1fe891ffb9077ff", func := "platter/platterlaw16.JournalCut", spec := "journalCut", unfollowed := true, recurses := true, named := ["platter/journal.empty", "platter/journal.bad"], apart := false, laid := [("platter/journal.empty", laid_platter_journal_empty), ("platter/journal.bad", laid_platter_journal_bad)], narrowed := true }
def JournalCutUptoSaid : Prop := journalCutUptoRow.holds Tryd.pinned (OpenSpec.upto journalCutSpec)

/-- 'platterlaw16.JournalOld', WHERE WHAT IT READS IS OF BULK AT MOST 1048576: true; the input reads as it did. -/
def journalOldUptoRow : OpenClaim := { program := "ytiphmemigdplgaadoor", sum := "79f6d1bbcb1daf0860a0198ea67d8b7d2411779035194cd4d1fe891ffb9077ff", func := "platter/platterlaw16.JournalOld", spec := "journalOld", unfollowed := true, recurses := true, named := ["platter/journal.empty", "platter/journal.bad"], apart := false, laid := [("platter/journal.empty", laid_platter_journal_empty), ("platter/journal.bad", laid_platter_journal_bad)], narrowed := true }
def JournalOldUptoSaid : Prop := journalOldUptoRow.holds Tryd.pinned (OpenSpec.upto journalOldSpec)

/-- 'platterlaw16.JournalRoom', WHERE WHAT IT READS IS OF BULK AT MOST 1048576: true; the input reads as it did. -/
def journalRoomUptoRow : OpenClaim := { program := "ytiphmemigdplgaadoor", sum := "79f6d1bbcb1daf0860a0198ea67d8b7d2411779035194cd4d1fe891ffb9077ff", func := "platter/platterlaw16.JournalRoom", spec := "journalRoom", unfollowed := true, recurses := true, named := ["platter/journal.empty", "platter/journal.bad"], apart := false, laid := [("platter/journal.empty", laid_platter_journal_empty), ("platter/journal.bad", laid_platter_journal_bad)], narrowed := true }
def JournalRoomUptoSaid : Prop := journalRoomUptoRow.holds Tryd.pinned (OpenSpec.upto journalRoomSpec)

/-- 'platterlaw16.JournalRuns', WHERE WHAT IT READS IS OF BULK AT MOST 1048576: true; the input reads as it did. -/
def journalRunsUptoRow : OpenClaim := { program := "ytiphmemigdplgaadoor", sum := "79f6d1bbcb1daf0860a0198ea67d8b7d2411779035194cd4d1fe891ffb9077ff", func := "platter/platterlaw16.JournalRuns", spec := "journalRuns", unfollowed := true, recurses := true, named := ["platter/journal.empty", "platter/journal.bad"], apart := false, laid := [("platter/journal.empty", laid_platter_journal_empty), ("platter/journal.bad", laid_platter_journal_bad)], narrowed := true }
def JournalRunsUptoSaid : Prop := journalRunsUptoRow.holds Tryd.pinned (OpenSpec.upto journalRunsSpec)

/-- 'platterlaw16.JournalScan', WHERE WHAT IT READS IS OF BULK AT MOST 1048576: true; the input reads as it did. -/
def journalScanUptoRow : OpenClaim := { program := "ytiphmemigdplgaadoor", sum := "79f6d1bbcb1daf0860a0198ea67d8b7d2411779035194cd4d1fe891ffb9077ff", func := "platter/platterlaw16.JournalScan", spec := "journalScan", unfollowed := true, recurses := true, named := ["platter/journal.empty", "platter/journal.bad"], apart := false, laid := [("platter/journal.empty", laid_platter_journal_empty), ("platter/journal.bad", laid_platter_journal_bad)], narrowed := true }
def JournalScanUptoSaid : Prop := journalScanUptoRow.holds Tryd.pinned (OpenSpec.upto journalScanSpec)

end Rows
end Go.Proofs.YtiphmemigdplgaaDoor
