/-
  No cell of these rows narrows 'for every input' (looked for: loops, veiled, ifaces, maps, wideKeys, modest, calm, conditions, laid).
  DERIVED. THE GIVEN ROWS OF THIS SEAT. 10 by the template 'for every input the law returns true; each argument reads behind the call as it read before'; 0 by the template 'total and deterministic' (their statements: YtddmlbflglpgbaaTotals.lean).
  GIVEN WITH THE SEED: the statements are not yours to turn. If you find one false, say at which input.
  Laid BY PROGRAM, IN A SANDBOX (cutbox-rows.mjs): the forced cells as the released guide's own fill.sh prints them over the translation 1fad16c391eaf376… (all of the seat's roots in one cut). By AI agents, Wed Nov 11 2026. No macro, syntax, notation, axiom, sorry.
-/
import Derived.Test.YtddmlbflglpgbaaChecked
import GoSem.Claim
import GoSem.ClaimJoined
import GoSem.ClaimMapViews
import Derived.JoinedTies
import Derived.KernelRfl
namespace Go.Proofs.Ytddmlbflglpgbaa
/- THE CELL 'sum', in the pinned program and in every row, IS THE sha256 OF THE DUMP (.gsa) THAT YtddmlbflglpgbaaProg.lean LOADS. Nothing in Lean hashes anything: it is a label: what it is worth is what the hold of that sum in a sandbox is worth. -/
noncomputable def Try.pinned : Pinned := { name := "ytddmlbflglpgbaa", sum := "1fad16c391eaf3760e7b753c16dee1cb969f4b63b8d67bff30a36f2d855393c5", checked := Try.checked }
namespace Rows
def none {H : Type} : Left H := { results := [], args := [] }

/-- 'platterlaw01.ZonesSkews': WHATEVER THE INPUT: true; the input reads as it did. -/
def zonesSkewsSpec : ChangeSpec := { name := "zonesSkews", fn := fun _ => fun
  | [d1, d2] => { results := [.lit (.bool true)], args := [d1, d2] }
  | _ => none }
def zonesSkewsRow : OpenClaim := { program := "ytddmlbflglpgbaa", sum := "1fad16c391eaf3760e7b753c16dee1cb969f4b63b8d67bff30a36f2d855393c5", func := "platter/platterlaw01.ZonesSkews", spec := "zonesSkews", unfollowed := true, recurses := true, apart := false }
def ZonesSkewsSaid : Prop := zonesSkewsRow.holds Try.pinned (OpenSpec.ofChange zonesSkewsSpec)

/-- ITS FALSE NEIGHBOUR: 'it returns false'. Refute it at one input. -/
def zonesSkewsWrong : ChangeSpec := { name := "zonesSkews", fn := fun _ => fun
  | [d1, d2] => { results := [.lit (.bool false)], args := [d1, d2] }
  | _ => none }
def ZonesSkewsWrongFalsely : Prop := zonesSkewsRow.holds Try.pinned (OpenSpec.ofChange zonesSkewsWrong)

/-- 'platterlaw01.ZonesTrue': WHATEVER THE INPUT: true; the input reads as it did. -/
def zonesTrueSpec : ChangeSpec := { name := "zonesTrue", fn := fun _ => fun
  | [d1, d2] => { results := [.lit (.bool true)], args := [d1, d2] }
  | _ => none }
def zonesTrueRow : OpenClaim := { program := "ytddmlbflglpgbaa", sum := "1fad16c391eaf3760e7b753c16dee1cb969f4b63b8d67bff30a36f2d855393c5", func := "platter/platterlaw01.ZonesTrue", spec := "zonesTrue", unfollowed := true, recurses := true, apart := false }
def ZonesTrueSaid : Prop := zonesTrueRow.holds Try.pinned (OpenSpec.ofChange zonesTrueSpec)

/-- ITS FALSE NEIGHBOUR: 'it returns false'. Refute it at one input. -/
def zonesTrueWrong : ChangeSpec := { name := "zonesTrue", fn := fun _ => fun
  | [d1, d2] => { results := [.lit (.bool false)], args := [d1, d2] }
  | _ => none }
def ZonesTrueWrongFalsely : Prop := zonesTrueRow.holds Try.pinned (OpenSpec.ofChange zonesTrueWrong)

/-- 'platterlaw01.ZonesParts': WHATEVER THE INPUT: true; the input reads as it did. -/
def zonesPartsSpec : ChangeSpec := { name := "zonesParts", fn := fun _ => fun
  | [d1, d2] => { results := [.lit (.bool true)], args := [d1, d2] }
  | _ => none }
def zonesPartsRow : OpenClaim := { program := "ytddmlbflglpgbaa", sum := "1fad16c391eaf3760e7b753c16dee1cb969f4b63b8d67bff30a36f2d855393c5", func := "platter/platterlaw01.ZonesParts", spec := "zonesParts", unfollowed := true, recurses := true, apart := false }
def ZonesPartsSaid : Prop := zonesPartsRow.holds Try.pinned (OpenSpec.ofChange zonesPartsSpec)

/-- ITS FALSE NEIGHBOUR: 'it returns false'. Refute it at one input. -/
def zonesPartsWrong : ChangeSpec := { name := "zonesParts", fn := fun _ => fun
  | [d1, d2] => { results := [.lit (.bool false)], args := [d1, d2] }
  | _ => none }
def ZonesPartsWrongFalsely : Prop := zonesPartsRow.holds Try.pinned (OpenSpec.ofChange zonesPartsWrong)

/-- 'platterlaw01.ZonesBest': WHATEVER THE INPUT: true; the input reads as it did. -/
def zonesBestSpec : ChangeSpec := { name := "zonesBest", fn := fun _ => fun
  | [d1, d2, d3] => { results := [.lit (.bool true)], args := [d1, d2, d3] }
  | _ => none }
def zonesBestRow : OpenClaim := { program := "ytddmlbflglpgbaa", sum := "1fad16c391eaf3760e7b753c16dee1cb969f4b63b8d67bff30a36f2d855393c5", func := "platter/platterlaw01.ZonesBest", spec := "zonesBest", unfollowed := true, recurses := true, apart := false }
def ZonesBestSaid : Prop := zonesBestRow.holds Try.pinned (OpenSpec.ofChange zonesBestSpec)

/-- ITS FALSE NEIGHBOUR: 'it returns false'. Refute it at one input. -/
def zonesBestWrong : ChangeSpec := { name := "zonesBest", fn := fun _ => fun
  | [d1, d2, d3] => { results := [.lit (.bool false)], args := [d1, d2, d3] }
  | _ => none }
def ZonesBestWrongFalsely : Prop := zonesBestRow.holds Try.pinned (OpenSpec.ofChange zonesBestWrong)

/-- 'platterlaw01.ZonesRuns': WHATEVER THE INPUT: true; the input reads as it did. -/
def zonesRunsSpec : ChangeSpec := { name := "zonesRuns", fn := fun _ => fun
  | [d1, d2, d3] => { results := [.lit (.bool true)], args := [d1, d2, d3] }
  | _ => none }
def zonesRunsRow : OpenClaim := { program := "ytddmlbflglpgbaa", sum := "1fad16c391eaf3760e7b753c16dee1cb969f4b63b8d67bff30a36f2d855393c5", func := "platter/platterlaw01.ZonesRuns", spec := "zonesRuns", unfollowed := true, recurses := true, apart := false }
def ZonesRunsSaid : Prop := zonesRunsRow.holds Try.pinned (OpenSpec.ofChange zonesRunsSpec)

/-- ITS FALSE NEIGHBOUR: 'it returns false'. Refute it at one input. -/
def zonesRunsWrong : ChangeSpec := { name := "zonesRuns", fn := fun _ => fun
  | [d1, d2, d3] => { results := [.lit (.bool false)], args := [d1, d2, d3] }
  | _ => none }
def ZonesRunsWrongFalsely : Prop := zonesRunsRow.holds Try.pinned (OpenSpec.ofChange zonesRunsWrong)

/-- 'platterlaw01.ZonesNoTurn': WHATEVER THE INPUT: true; the input reads as it did. -/
def zonesNoTurnSpec : ChangeSpec := { name := "zonesNoTurn", fn := fun _ => fun
  | [d] => { results := [.lit (.bool true)], args := [d] }
  | _ => none }
def zonesNoTurnRow : OpenClaim := { program := "ytddmlbflglpgbaa", sum := "1fad16c391eaf3760e7b753c16dee1cb969f4b63b8d67bff30a36f2d855393c5", func := "platter/platterlaw01.ZonesNoTurn", spec := "zonesNoTurn", unfollowed := true, recurses := true, apart := false }
def ZonesNoTurnSaid : Prop := zonesNoTurnRow.holds Try.pinned (OpenSpec.ofChange zonesNoTurnSpec)

/-- ITS FALSE NEIGHBOUR: 'it returns false'. Refute it at one input. -/
def zonesNoTurnWrong : ChangeSpec := { name := "zonesNoTurn", fn := fun _ => fun
  | [d] => { results := [.lit (.bool false)], args := [d] }
  | _ => none }
def ZonesNoTurnWrongFalsely : Prop := zonesNoTurnRow.holds Try.pinned (OpenSpec.ofChange zonesNoTurnWrong)

/-- 'platterlaw01.ZonesOnce': WHATEVER THE INPUT: true; the input reads as it did. -/
def zonesOnceSpec : ChangeSpec := { name := "zonesOnce", fn := fun _ => fun
  | [d1, d2, d3] => { results := [.lit (.bool true)], args := [d1, d2, d3] }
  | _ => none }
def zonesOnceRow : OpenClaim := { program := "ytddmlbflglpgbaa", sum := "1fad16c391eaf3760e7b753c16dee1cb969f4b63b8d67bff30a36f2d855393c5", func := "platter/platterlaw01.ZonesOnce", spec := "zonesOnce", unfollowed := true, recurses := true, apart := false }
def ZonesOnceSaid : Prop := zonesOnceRow.holds Try.pinned (OpenSpec.ofChange zonesOnceSpec)

/-- ITS FALSE NEIGHBOUR: 'it returns false'. Refute it at one input. -/
def zonesOnceWrong : ChangeSpec := { name := "zonesOnce", fn := fun _ => fun
  | [d1, d2, d3] => { results := [.lit (.bool false)], args := [d1, d2, d3] }
  | _ => none }
def ZonesOnceWrongFalsely : Prop := zonesOnceRow.holds Try.pinned (OpenSpec.ofChange zonesOnceWrong)

/-- 'platterlaw01.ZonesPlaces': WHATEVER THE INPUT: true; the input reads as it did. -/
def zonesPlacesSpec : ChangeSpec := { name := "zonesPlaces", fn := fun _ => fun
  | [d1, d2, d3] => { results := [.lit (.bool true)], args := [d1, d2, d3] }
  | _ => none }
def zonesPlacesRow : OpenClaim := { program := "ytddmlbflglpgbaa", sum := "1fad16c391eaf3760e7b753c16dee1cb969f4b63b8d67bff30a36f2d855393c5", func := "platter/platterlaw01.ZonesPlaces", spec := "zonesPlaces", unfollowed := true, recurses := true, apart := false }
def ZonesPlacesSaid : Prop := zonesPlacesRow.holds Try.pinned (OpenSpec.ofChange zonesPlacesSpec)

/-- ITS FALSE NEIGHBOUR: 'it returns false'. Refute it at one input. -/
def zonesPlacesWrong : ChangeSpec := { name := "zonesPlaces", fn := fun _ => fun
  | [d1, d2, d3] => { results := [.lit (.bool false)], args := [d1, d2, d3] }
  | _ => none }
def ZonesPlacesWrongFalsely : Prop := zonesPlacesRow.holds Try.pinned (OpenSpec.ofChange zonesPlacesWrong)

/-- 'platterlaw01.ZonesAngles': WHATEVER THE INPUT: true; the input reads as it did. -/
def zonesAnglesSpec : ChangeSpec := { name := "zonesAngles", fn := fun _ => fun
  | [d1, d2, d3] => { results := [.lit (.bool true)], args := [d1, d2, d3] }
  | _ => none }
def zonesAnglesRow : OpenClaim := { program := "ytddmlbflglpgbaa", sum := "1fad16c391eaf3760e7b753c16dee1cb969f4b63b8d67bff30a36f2d855393c5", func := "platter/platterlaw01.ZonesAngles", spec := "zonesAngles", unfollowed := true, recurses := true, apart := false }
def ZonesAnglesSaid : Prop := zonesAnglesRow.holds Try.pinned (OpenSpec.ofChange zonesAnglesSpec)

/-- ITS FALSE NEIGHBOUR: 'it returns false'. Refute it at one input. -/
def zonesAnglesWrong : ChangeSpec := { name := "zonesAngles", fn := fun _ => fun
  | [d1, d2, d3] => { results := [.lit (.bool false)], args := [d1, d2, d3] }
  | _ => none }
def ZonesAnglesWrongFalsely : Prop := zonesAnglesRow.holds Try.pinned (OpenSpec.ofChange zonesAnglesWrong)

/-- 'platterlaw01.ZonesStands': WHATEVER THE INPUT: true; the input reads as it did. -/
def zonesStandsSpec : ChangeSpec := { name := "zonesStands", fn := fun _ => fun
  | [d1, d2, d3] => { results := [.lit (.bool true)], args := [d1, d2, d3] }
  | _ => none }
def zonesStandsRow : OpenClaim := { program := "ytddmlbflglpgbaa", sum := "1fad16c391eaf3760e7b753c16dee1cb969f4b63b8d67bff30a36f2d855393c5", func := "platter/platterlaw01.ZonesStands", spec := "zonesStands", unfollowed := true, recurses := true, apart := false }
def ZonesStandsSaid : Prop := zonesStandsRow.holds Try.pinned (OpenSpec.ofChange zonesStandsSpec)

/-- ITS FALSE NEIGHBOUR: 'it returns false'. Refute it at one input. -/
def zonesStandsWrong : ChangeSpec := { name := "zonesStands", fn := fun _ => fun
  | [d1, d2, d3] => { results := [.lit (.bool false)], args := [d1, d2, d3] }
  | _ => none }
def ZonesStandsWrongFalsely : Prop := zonesStandsRow.holds Try.pinned (OpenSpec.ofChange zonesStandsWrong)

/- THE SECOND FORM. 'bulk': how many values and letters a reading holds, each counted each time it is reached (what is shared counts as often as it is met; a slice's spare places count too). A statement '..UptoSaid' is the law's where the arguments, and the package variables that the reading takes, are together of bulk at most 1048576: NARROWER than '..Said'. Prove '..Said' where nothing that the law and all that it calls make is longer than what came in: it says more and counts as full. Else prove '..UptoSaid'. A law counts once. -/
mutual
def uptoBulk {H : Type} : DataW H → Nat
  | .lit (.string bytes) => bytes.length + 1
  | .lit _ => 1
  | .nil => 1
  | .ptr d => uptoBulk d + 1
  | .slice elems spare => uptoBulkAll elems + uptoBulkAll spare + 1
  | .agg parts => uptoBulkAll parts + 1
  | .iface _ d => uptoBulk d + 1
  | .map entries => uptoBulkEntries entries + 1
  | .held _ => 1
def uptoBulkAll {H : Type} : List (DataW H) → Nat
  | [] => 0
  | d :: r => uptoBulk d + uptoBulkAll r
def uptoBulkEntries {H : Type} : List (Lit × DataW H) → Nat
  | [] => 0
  | x :: r => uptoBulkEntry x + uptoBulkEntries r
def uptoBulkEntry {H : Type} : Lit × DataW H → Nat
  | (.string bytes, d) => bytes.length + uptoBulk d + 1
  | (_, d) => uptoBulk d + 1
 end
def uptoSmall : (H : Type) → List (DataW H) → Bool := fun _ ds => decide (uptoBulkAll ds ≤ 1048576)
def OpenSpec.upto (s : _root_.Go.ChangeSpec) : _root_.Go.OpenSpec := { _root_.Go.OpenSpec.ofChange s with cond := some uptoSmall }

/-- 'platterlaw01.ZonesSkews', WHERE WHAT IT READS IS OF BULK AT MOST 1048576: true; the input reads as it did. -/
def zonesSkewsUptoRow : OpenClaim := { program := "ytddmlbflglpgbaa", sum := "1fad16c391eaf3760e7b753c16dee1cb969f4b63b8d67bff30a36f2d855393c5", func := "platter/platterlaw01.ZonesSkews", spec := "zonesSkews", unfollowed := true, recurses := true, apart := false, narrowed := true }
def ZonesSkewsUptoSaid : Prop := zonesSkewsUptoRow.holds Try.pinned (OpenSpec.upto zonesSkewsSpec)

/-- 'platterlaw01.ZonesTrue', WHERE WHAT IT READS IS OF BULK AT MOST 1048576: true; the input reads as it did. -/
def zonesTrueUptoRow : OpenClaim := { program := "ytddmlbflglpgbaa", sum := "1fad16c391eaf3760e7b753c16dee1cb969f4b63b8d67bff30a36f2d855393c5", func := "platter/platterlaw01.ZonesTrue", spec := "zonesTrue", unfollowed := true, recurses := true, apart := false, narrowed := true }
def ZonesTrueUptoSaid : Prop := zonesTrueUptoRow.holds Try.pinned (OpenSpec.upto zonesTrueSpec)

/-- 'platterlaw01.ZonesParts', WHERE WHAT IT READS IS OF BULK AT MOST 1048576: true; the input reads as it did. -/
def zonesPartsUptoRow : OpenClaim := { program := "ytddmlbflglpgbaa", sum := "1fad16c391eaf3760e7b753c16dee1cb969f4b63b8d67bff30a36f2d855393c5", func := "platter/platterlaw01.ZonesParts", spec := "zonesParts", unfollowed := true, recurses := true, apart := false, narrowed := true }
def ZonesPartsUptoSaid : Prop := zonesPartsUptoRow.holds Try.pinned (OpenSpec.upto zonesPartsSpec)

/-- 'platterlaw01.ZonesBest', WHERE WHAT IT READS IS OF BULK AT MOST 1048576: true; the input reads as it did. -/
def zonesBestUptoRow : OpenClaim := { program := "ytddmlbflglpgbaa", sum := "1fad16c391eaf3760e7b753c16dee1cb969f4b63b8d67bff30a36f2d855393c5", func := "platter/platterlaw01.ZonesBest", spec := "zonesBest", unfollowed := true, recurses := true, apart := false, narrowed := true }
def ZonesBestUptoSaid : Prop := zonesBestUptoRow.holds Try.pinned (OpenSpec.upto zonesBestSpec)

/-- 'platterlaw01.ZonesRuns', WHERE WHAT IT READS IS OF BULK AT MOST 1048576: true; the input reads as it did. -/
def zonesRunsUptoRow : OpenClaim := { program := "ytddmlbflglpgbaa", sum := "1fad16c391eaf3760e7b753c16dee1cb969f4b63b8d67bff30a36f2d855393c5", func := "platter/platterlaw01.ZonesRuns", spec := "zonesRuns", unfollowed := true, recurses := true, apart := false, narrowed := true }
def ZonesRunsUptoSaid : Prop := zonesRunsUptoRow.holds Try.pinned (OpenSpec.upto zonesRunsSpec)

/-- 'platterlaw01.ZonesNoTurn', WHERE WHAT IT READS IS OF BULK AT MOST 1048576: true; the input reads as it did. -/
def zonesNoTurnUptoRow : OpenClaim := { program := "ytddmlbflglpgbaa", sum := "1fad16c391eaf3760e7b753c16dee1cb969f4b63b8d67bff30a36f2d855393c5", func := "platter/platterlaw01.ZonesNoTurn", spec := "zonesNoTurn", unfollowed := true, recurses := true, apart := false, narrowed := true }
def ZonesNoTurnUptoSaid : Prop := zonesNoTurnUptoRow.holds Try.pinned (OpenSpec.upto zonesNoTurnSpec)

/-- 'platterlaw01.ZonesOnce', WHERE WHAT IT READS IS OF BULK AT MOST 1048576: true; the input reads as it did. -/
def zonesOnceUptoRow : OpenClaim := { program := "ytddmlbflglpgbaa", sum := "1fad16c391eaf3760e7b753c16dee1cb969f4b63b8d67bff30a36f2d855393c5", func := "platter/platterlaw01.ZonesOnce", spec := "zonesOnce", unfollowed := true, recurses := true, apart := false, narrowed := true }
def ZonesOnceUptoSaid : Prop := zonesOnceUptoRow.holds Try.pinned (OpenSpec.upto zonesOnceSpec)

/-- 'platterlaw01.ZonesPlaces', WHERE WHAT IT READS IS OF BULK AT MOST 1048576: true; the input reads as it did. -/
def zonesPlacesUptoRow : OpenClaim := { program := "ytddmlbflglpgbaa", sum := "1fad16c391eaf3760e7b753c16dee1cb969f4b63b8d67bff30a36f2d855393c5", func := "platter/platterlaw01.ZonesPlaces", spec := "zonesPlaces", unfollowed := true, recurses := true, apart := false, narrowed := true }
def ZonesPlacesUptoSaid : Prop := zonesPlacesUptoRow.holds Try.pinned (OpenSpec.upto zonesPlacesSpec)

/-- 'platterlaw01.ZonesAngles', WHERE WHAT IT READS IS OF BULK AT MOST 1048576: true; the input reads as it did. -/
def zonesAnglesUptoRow : OpenClaim := { program := "ytddmlbflglpgbaa", sum := "1fad16c391eaf3760e7b753c16dee1cb969f4b63b8d67bff30a36f2d855393c5", func := "platter/platterlaw01.ZonesAngles", spec := "zonesAngles", unfollowed := true, recurses := true, apart := false, narrowed := true }
def ZonesAnglesUptoSaid : Prop := zonesAnglesUptoRow.holds Try.pinned (OpenSpec.upto zonesAnglesSpec)

/-- 'platterlaw01.ZonesStands', WHERE WHAT IT READS IS OF BULK AT MOST 1048576: true; the input reads as it did. -/
def zonesStandsUptoRow : OpenClaim := { program := "ytddmlbflglpgbaa", sum := "1fad16c391eaf3760e7b753c16dee1cb969f4b63b8d67bff30a36f2d855393c5", func := "platter/platterlaw01.ZonesStands", spec := "zonesStands", unfollowed := true, recurses := true, apart := false, narrowed := true }
def ZonesStandsUptoSaid : Prop := zonesStandsUptoRow.holds Try.pinned (OpenSpec.upto zonesStandsSpec)

end Rows
end Go.Proofs.Ytddmlbflglpgbaa
