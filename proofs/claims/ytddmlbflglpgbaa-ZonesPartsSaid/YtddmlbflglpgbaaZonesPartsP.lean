/- A part of the proof. -/
import Derived.Test.YtddmlbflglpgbaaRows
import Derived.Test.YtddmlbflglpgbaaZonesU
set_option linter.all false
namespace Go.Proofs.Ytddmlbflglpgbaa.parts
open Go.ChangeShapes Go.WideShapes Go.ChangeAt Go.RowKit Go.Pw

theorem own : ownKnob Try.prog.godebug = none := by kernel_rfl
theorem laidOut : laidOutB Try.prog = true := by kernel_rfl
theorem types5 : listM (tyOf Try.prog 20) Try.f5.params.toList = some [diskT, cutT] := by kernel_rfl
theorem read5 : (Try.f5.params.toList.all fun t => Try.prog.readableRec t && decide (t < Try.prog.types.size)) = true := by kernel_rfl
theorem size5 : Try.f5.params.size = 2 := by kernel_rfl

theorem ret5 (xs : List D) (h : TypedVs [diskT, cutT] xs) : Ret E0 5 xs (.bool true) := by
  match xs, h with
  | [x0, x1], h =>
    obtain ⟨h0, h1, _⟩ := h
    obtain ⟨d0, rfl⟩ := typed_disk h0
    obtain ⟨a1, b1, c1, p1, q1, rfl⟩ := typed_cut h1
    exact ZonesParts_ret d0 a1 b1 c1 p1 q1
  | [], h => exact h.elim
  | [_], h => exact h.2.elim
  | _ :: _ :: _ :: _, h => exact h.2.2.elim

set_option maxRecDepth 100000 in
theorem lifted (os : Os) (started : os.Started) (H : Type) (enc : TypeId × Value → H) :
    ReturnsInHanded {} Try.checked os 5 .any (Rows.zonesPartsSpec.pre6 enc Try.prog Try.f5 Rows.zonesPartsRow.domain false) (Rows.zonesPartsSpec.post enc Try.prog Try.f5 false true false false) := by
  refine returnsInHanded_of_change (C := Try.checked) own started (by kernel_rfl) Try.func5
    (ChangeSpec.witness6 (enc := enc) (C := Try.checked) false ⟨#[], #[.agg #[.int .i64 0, .int .i64 0, .slice none 0 0, .int .i64 0, .int .i64 0, .int .i64 0, .int .i64 0, .int .i64 0, .int .i64 0], .agg #[.int .i64 0, .int .i64 0, .int .i64 0, .int .i64 0, .int .i64 0]], []⟩ 8 (by kernel_rfl) (by kernel_rfl) (by kernel_rfl) (by kernel_rfl)) ?_
  intro W base args ds gs before hval hW hcnd _
  refine law_calls (E := E0) (s := Rows.zonesPartsSpec) (rt := 4) rfl (fun _ => rfl) laidOut (fun t ht => ?_) types5 (by kernel_rfl) (by kernel_rfl) rfl (fun ds hd => ?_) ret5 hval hW
  · have h1 := List.all_eq_true.1 read5 t ht
    rw [Bool.and_eq_true, decide_eq_true_eq] at h1
    exact h1
  · rw [size5] at hd
    match ds, hd with
    | [a0, a1], _ => rfl

theorem proved : Rows.ZonesPartsSaid :=
  OpenClaim.holds_of_wide 5 Try.f5 rfl rfl rfl rfl rfl rfl rfl ⟨rfl, rfl, rfl, rfl, rfl⟩ rfl rfl rfl rfl rfl (by kernel_rfl) Try.func5 (by kernel_rfl)
    (of_decide_eq_true (by kernel_rfl)) (by unfold Func.isWrapper; first | (rw [if_pos (by decide +kernel)]; kernel_rfl) | (rw [if_neg (by decide +kernel)]; exact ⟨rfl, rfl⟩))
    (fun os started H enc _ => lifted os started H enc)
#print axioms proved
end Go.Proofs.Ytddmlbflglpgbaa.parts
