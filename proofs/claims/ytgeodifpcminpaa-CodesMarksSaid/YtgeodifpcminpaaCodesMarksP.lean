/- A part of the proof. -/
import Derived.Test.YtgeodifpcminpaaRows
import Derived.Test.YtgeodifpcminpaaCodesMb
set_option linter.all false
namespace Go.Proofs.Ytgeodifpcminpaa.marks
open Go.ChangeShapes Go.WideShapes Go.ChangeAt Go.RowKit Go.Pw

theorem own : ownKnob Try.prog.godebug = none := by kernel_rfl
theorem laidOut : laidOutB Try.prog = true := by kernel_rfl
theorem types8 : listM (tyOf Try.prog 20) Try.f8.params.toList = some [codeT, mrkT] := by kernel_rfl
theorem read8 : (Try.f8.params.toList.all fun t => Try.prog.readableRec t && decide (t < Try.prog.types.size)) = true := by kernel_rfl
theorem size8 : Try.f8.params.size = 2 := by kernel_rfl

theorem ret8 (xs : List D) (h : TypedVs [codeT, mrkT] xs) : Ret E0 8 xs (.bool true) := by
  match xs, h with
  | [x0, x1], h =>
    obtain ⟨h0, h1, _⟩ := h
    obtain ⟨c0, rfl⟩ := typed_code h0
    obtain ⟨n1, l1, k1, m1, e1, rfl⟩ := typed_mrk h1
    exact (fun c n l k m e => CodesMarks_ret c n k l m e) c0 n1 l1 k1 m1 e1
  | [], h => exact h.elim
  | [_], h => exact h.2.elim
  | _ :: _ :: _ :: _, h => exact h.2.2.elim

set_option maxRecDepth 100000 in
theorem lifted (os : Os) (started : os.Started) (H : Type) (enc : TypeId × Value → H) :
    ReturnsInHanded {} Try.checked os 8 .any (Rows.codesMarksSpec.pre6 enc Try.prog Try.f8 Rows.codesMarksRow.domain false) (Rows.codesMarksSpec.post enc Try.prog Try.f8 false true false false) := by
  refine returnsInHanded_of_change (C := Try.checked) own started (by kernel_rfl) Try.func8
    (ChangeSpec.witness6 (enc := enc) (C := Try.checked) false ⟨#[], #[.agg #[.int .i64 0, .int .i64 0, .int .i64 0, .int .i64 0, .slice none 0 0, .slice none 0 0], .agg #[.slice none 0 0, .slice none 0 0, .int .i64 0]], []⟩ 8 (by kernel_rfl) (by kernel_rfl) (by kernel_rfl) (by kernel_rfl)) ?_
  intro W base args ds gs before hval hW hcnd _
  refine law_calls (E := E0) (s := Rows.codesMarksSpec) (rt := 4) rfl (fun _ => rfl) laidOut (fun t ht => ?_) types8 (by kernel_rfl) (by kernel_rfl) rfl (fun ds hd => ?_) ret8 hval hW
  · have h1 := List.all_eq_true.1 read8 t ht
    rw [Bool.and_eq_true, decide_eq_true_eq] at h1
    exact h1
  · rw [size8] at hd
    match ds, hd with
    | [a0, a1], _ => rfl

theorem proved : Rows.CodesMarksSaid :=
  OpenClaim.holds_of_wide 8 Try.f8 rfl rfl rfl rfl rfl rfl rfl ⟨rfl, rfl, rfl, rfl, rfl⟩ rfl rfl rfl rfl rfl (by kernel_rfl) Try.func8 (by kernel_rfl)
    (of_decide_eq_true (by kernel_rfl)) (by unfold Func.isWrapper; first | (rw [if_pos (by decide +kernel)]; kernel_rfl) | (rw [if_neg (by decide +kernel)]; exact ⟨rfl, rfl⟩))
    (fun os started H enc _ => lifted os started H enc)
#print axioms proved
end Go.Proofs.Ytgeodifpcminpaa.marks
