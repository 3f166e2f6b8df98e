/- A part of the proof. -/
import Derived.Test.YtddmlbflglpgbaaRows
import Derived.Test.YtddmlbflglpgbaaZonesU
set_option linter.all false
namespace Go.Proofs.Ytddmlbflglpgbaa.angles
open Go.ChangeShapes Go.WideShapes Go.ChangeAt Go.RowKit Go.Pw

theorem own : ownKnob Try.prog.godebug = none := by kernel_rfl
theorem laidOut : laidOutB Try.prog = true := by kernel_rfl
theorem types11 : listM (tyOf Try.prog 20) Try.f11.params.toList = some [diskT, .int .i64, .int .i64] := by kernel_rfl
theorem read11 : (Try.f11.params.toList.all fun t => Try.prog.readableRec t && decide (t < Try.prog.types.size)) = true := by kernel_rfl
theorem size11 : Try.f11.params.size = 3 := by kernel_rfl

theorem ret11 (xs : List D) (h : TypedVs [diskT, .int .i64, .int .i64] xs) : Ret E0 11 xs (.bool true) := by
  match xs, h with
  | [x0, x1, x2], h =>
    obtain ⟨h0, h1, h2, _⟩ := h
    obtain ⟨d0, rfl⟩ := typed_disk h0
    obtain ⟨n1, rfl⟩ := typed_intV h1
    obtain ⟨n2, rfl⟩ := typed_intV h2
    exact ZonesAngles_ret d0 n1 n2
  | [], h => exact h.elim
  | [_], h => exact h.2.elim
  | [_, _], h => exact h.2.2.elim
  | _ :: _ :: _ :: _ :: _, h => exact h.2.2.2.elim

set_option maxRecDepth 100000 in
theorem lifted (os : Os) (started : os.Started) (H : Type) (enc : TypeId × Value → H) :
    ReturnsInHanded {} Try.checked os 11 .any (Rows.zonesAnglesSpec.pre6 enc Try.prog Try.f11 Rows.zonesAnglesRow.domain false) (Rows.zonesAnglesSpec.post enc Try.prog Try.f11 false true false false) := by
  refine returnsInHanded_of_change (C := Try.checked) own started (by kernel_rfl) Try.func11
    (ChangeSpec.witness6 (enc := enc) (C := Try.checked) false ⟨#[], #[.agg #[.int .i64 0, .int .i64 0, .slice none 0 0, .int .i64 0, .int .i64 0, .int .i64 0, .int .i64 0, .int .i64 0, .int .i64 0], .int .i64 0, .int .i64 0], []⟩ 8 (by kernel_rfl) (by kernel_rfl) (by kernel_rfl) (by kernel_rfl)) ?_
  intro W base args ds gs before hval hW hcnd _
  refine law_calls (E := E0) (s := Rows.zonesAnglesSpec) (rt := 4) rfl (fun _ => rfl) laidOut (fun t ht => ?_) types11 (by kernel_rfl) (by kernel_rfl) rfl (fun ds hd => ?_) ret11 hval hW
  · have h1 := List.all_eq_true.1 read11 t ht
    rw [Bool.and_eq_true, decide_eq_true_eq] at h1
    exact h1
  · rw [size11] at hd
    match ds, hd with
    | [a0, a1, a2], _ => rfl

theorem proved : Rows.ZonesAnglesSaid :=
  OpenClaim.holds_of_wide 11 Try.f11 rfl rfl rfl rfl rfl rfl rfl ⟨rfl, rfl, rfl, rfl, rfl⟩ rfl rfl rfl rfl rfl (by kernel_rfl) Try.func11 (by kernel_rfl)
    (of_decide_eq_true (by kernel_rfl)) (by unfold Func.isWrapper; first | (rw [if_pos (by decide +kernel)]; kernel_rfl) | (rw [if_neg (by decide +kernel)]; exact ⟨rfl, rfl⟩))
    (fun os started H enc _ => lifted os started H enc)
#print axioms proved
end Go.Proofs.Ytddmlbflglpgbaa.angles
