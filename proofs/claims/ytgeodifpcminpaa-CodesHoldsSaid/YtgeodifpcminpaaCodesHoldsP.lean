/- A part of the proof. -/
import Derived.Test.YtgeodifpcminpaaRows
import Derived.Test.YtgeodifpcminpaaPgCodesJ
import Derived.Test.YtgeodifpcminpaaCodesId
set_option linter.all false
namespace Go.Proofs.Ytgeodifpcminpaa.holds
open Go.ChangeShapes Go.WideShapes Go.ChangeAt Go.RowKit Go.Pw

theorem own : ownKnob Try.prog.godebug = none := by kernel_rfl
theorem laidOut : laidOutB Try.prog = true := by kernel_rfl
theorem types12 : listM (tyOf Try.prog 20) Try.f12.params.toList = some [codeT] := by kernel_rfl
theorem read12 : (Try.f12.params.toList.all fun t => Try.prog.readableRec t && decide (t < Try.prog.types.size)) = true := by kernel_rfl
theorem size12 : Try.f12.params.size = 1 := by kernel_rfl

theorem ret12 (xs : List D) (h : TypedVs [codeT] xs) : Ret E0 12 xs (.bool true) := by
  match xs, h with
  | [x0], h =>
    obtain ⟨h0, _⟩ := h
    obtain ⟨c0, rfl⟩ := typed_code h0
    exact CodesHolds_ret c0
  | [], h => exact h.elim
  | _ :: _ :: _, h => exact h.2.elim

set_option maxRecDepth 100000 in
theorem lifted (os : Os) (started : os.Started) (H : Type) (enc : TypeId × Value → H) :
    ReturnsInHanded {} Try.checked os 12 .any (Rows.codesHoldsSpec.pre6 enc Try.prog Try.f12 Rows.codesHoldsRow.domain false) (Rows.codesHoldsSpec.post enc Try.prog Try.f12 false true false false) := by
  refine returnsInHanded_of_change (C := Try.checked) own started (by kernel_rfl) Try.func12
    (ChangeSpec.witness6 (enc := enc) (C := Try.checked) false ⟨#[], #[.agg #[.int .i64 0, .int .i64 0, .int .i64 0, .int .i64 0, .slice none 0 0, .slice none 0 0]], []⟩ 8 (by kernel_rfl) (by kernel_rfl) (by kernel_rfl) (by kernel_rfl)) ?_
  intro W base args ds gs before hval hW hcnd _
  refine law_calls (E := E0) (s := Rows.codesHoldsSpec) (rt := 4) rfl (fun _ => rfl) laidOut (fun t ht => ?_) types12 (by kernel_rfl) (by kernel_rfl) rfl (fun ds hd => ?_) ret12 hval hW
  · have h1 := List.all_eq_true.1 read12 t ht
    rw [Bool.and_eq_true, decide_eq_true_eq] at h1
    exact h1
  · rw [size12] at hd
    match ds, hd with
    | [a0], _ => rfl

theorem proved : Rows.CodesHoldsSaid :=
  OpenClaim.holds_of_wide 12 Try.f12 rfl rfl rfl rfl rfl rfl rfl ⟨rfl, rfl, rfl, rfl, rfl⟩ rfl rfl rfl rfl rfl (by kernel_rfl) Try.func12 (by kernel_rfl)
    (of_decide_eq_true (by kernel_rfl)) (by unfold Func.isWrapper; first | (rw [if_pos (by decide +kernel)]; kernel_rfl) | (rw [if_neg (by decide +kernel)]; exact ⟨rfl, rfl⟩))
    (fun os started H enc _ => lifted os started H enc)
#print axioms proved
end Go.Proofs.Ytgeodifpcminpaa.holds
