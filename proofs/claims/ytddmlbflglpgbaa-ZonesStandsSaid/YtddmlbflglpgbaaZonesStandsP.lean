/- A part of the proof. -/
import Derived.Test.YtddmlbflglpgbaaRows
import Derived.Test.YtddmlbflglpgbaaZonesU
set_option linter.all false
namespace Go.Proofs.Ytddmlbflglpgbaa.stands
open Go.ChangeShapes Go.WideShapes Go.ChangeAt Go.RowKit Go.Pw

theorem own : ownKnob Try.prog.godebug = none := by kernel_rfl
theorem laidOut : laidOutB Try.prog = true := by kernel_rfl
theorem types12 : listM (tyOf Try.prog 20) Try.f12.params.toList = some [diskT, .int .i64, .int .i64] := by kernel_rfl
theorem read12 : (Try.f12.params.toList.all fun t => Try.prog.readableRec t && decide (t < Try.prog.types.size)) = true := by kernel_rfl
theorem size12 : Try.f12.params.size = 3 := by kernel_rfl

theorem ret12 (xs : List D) (h : TypedVs [diskT, .int .i64, .int .i64] xs) : Ret E0 12 xs (.bool true) := by
  match xs, h with
  | [x0, x1, x2], h =>
    obtain ⟨h0, h1, h2, _⟩ := h
    obtain ⟨d0, rfl⟩ := typed_disk h0
    obtain ⟨n1, rfl⟩ := typed_intV h1
    obtain ⟨n2, rfl⟩ := typed_intV h2
    exact ZonesStands_ret d0 n1 n2
  | [], h => exact h.elim
  | [_], h => exact h.2.elim
  | [_, _], h => exact h.2.2.elim
  | _ :: _ :: _ :: _ :: _, h => exact h.2.2.2.elim

set_option maxRecDepth 100000 in
theorem lifted (os : Os) (started : os.Started) (H : Type) (enc : TypeId × Value → H) :
    ReturnsInHanded {} Try.checked os 12 .any (Rows.zonesStandsSpec.pre6 enc Try.prog Try.f12 Rows.zonesStandsRow.domain false) (Rows.zonesStandsSpec.post enc Try.prog Try.f12 false true false false) := by
  refine returnsInHanded_of_change (C := Try.checked) own started (by kernel_rfl) Try.func12
    (ChangeSpec.witness6 (enc := enc) (C := Try.checked) false ⟨#[], #[.agg #[.int .i64 0, .int .i64 0, .slice none 0 0, .int .i64 0, .int .i64 0, .int .i64 0, .int .i64 0, .int .i64 0, .int .i64 0], .int .i64 0, .int .i64 0], []⟩ 8 (by kernel_rfl) (by kernel_rfl) (by kernel_rfl) (by kernel_rfl)) ?_
  intro W base args ds gs before hval hW hcnd _
  refine law_calls (E := E0) (s := Rows.zonesStandsSpec) (rt := 4) rfl (fun _ => rfl) laidOut (fun t ht => ?_) types12 (by kernel_rfl) (by kernel_rfl) rfl (fun ds hd => ?_) ret12 hval hW
  · have h1 := List.all_eq_true.1 read12 t ht
    rw [Bool.and_eq_true, decide_eq_true_eq] at h1
    exact h1
  · rw [size12] at hd
    match ds, hd with
    | [a0, a1, a2], _ => rfl

theorem proved : Rows.ZonesStandsSaid :=
  OpenClaim.holds_of_wide 12 Try.f12 rfl rfl rfl rfl rfl rfl rfl ⟨rfl, rfl, rfl, rfl, rfl⟩ rfl rfl rfl rfl rfl (by kernel_rfl) Try.func12 (by kernel_rfl)
    (of_decide_eq_true (by kernel_rfl)) (by unfold Func.isWrapper; first | (rw [if_pos (by decide +kernel)]; kernel_rfl) | (rw [if_neg (by decide +kernel)]; exact ⟨rfl, rfl⟩))
    (fun os started H enc _ => lifted os started H enc)
#print axioms proved
end Go.Proofs.Ytddmlbflglpgbaa.stands
