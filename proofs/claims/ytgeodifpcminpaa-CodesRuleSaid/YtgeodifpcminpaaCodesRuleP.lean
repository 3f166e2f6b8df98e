/- A part of the proof. -/
import Derived.Test.YtgeodifpcminpaaRows
import Derived.Test.YtgeodifpcminpaaPgCodesJ
import Derived.Test.YtgeodifpcminpaaPgCodesHx
set_option linter.all false
namespace Go.Proofs.Ytgeodifpcminpaa.rule
open Go.ChangeShapes Go.WideShapes Go.ChangeAt Go.RowKit Go.Pw

theorem typed_intsV {x : D} (h : TypedV (.list (.int .i64)) x) : ∃ nl l, x = .list nl (ints l) := by
  obtain ⟨h, hx⟩ := h
  obtain ⟨nl, l, hn⟩ := typed_ints h
  rw [hn] at hx
  exact ⟨nl, l, hx⟩
theorem own : ownKnob Try.prog.godebug = none := by kernel_rfl
theorem laidOut : laidOutB Try.prog = true := by kernel_rfl
theorem types11 : listM (tyOf Try.prog 20) Try.f11.params.toList = some [codeT, .int .i64, .list (.int .i64)] := by kernel_rfl
theorem read11 : (Try.f11.params.toList.all fun t => Try.prog.readableRec t && decide (t < Try.prog.types.size)) = true := by kernel_rfl
theorem size11 : Try.f11.params.size = 3 := by kernel_rfl

theorem ret11 (xs : List D) (h : TypedVs [codeT, .int .i64, .list (.int .i64)] xs) : Ret E0 11 xs (.bool true) := by
  match xs, h with
  | [x0, x1, x2], h =>
    obtain ⟨h0, h1, h2, _⟩ := h
    obtain ⟨c0, rfl⟩ := typed_code h0
    obtain ⟨n1, rfl⟩ := typed_intV h1
    obtain ⟨b2, l2, rfl⟩ := typed_intsV h2
    exact CodesRule_ret c0 n1 b2 l2
  | [], h => exact h.elim
  | [_], h => exact h.2.elim
  | [_, _], h => exact h.2.2.elim
  | _ :: _ :: _ :: _ :: _, h => exact h.2.2.2.elim

set_option maxRecDepth 100000 in
theorem lifted (os : Os) (started : os.Started) (H : Type) (enc : TypeId × Value → H) :
    ReturnsInHanded {} Try.checked os 11 .any (Rows.codesRuleSpec.pre6 enc Try.prog Try.f11 Rows.codesRuleRow.domain false) (Rows.codesRuleSpec.post enc Try.prog Try.f11 false true false false) := by
  refine returnsInHanded_of_change (C := Try.checked) own started (by kernel_rfl) Try.func11
    (ChangeSpec.witness6 (enc := enc) (C := Try.checked) false ⟨#[], #[.agg #[.int .i64 0, .int .i64 0, .int .i64 0, .int .i64 0, .slice none 0 0, .slice none 0 0], .int .i64 0, .slice none 0 0], []⟩ 8 (by kernel_rfl) (by kernel_rfl) (by kernel_rfl) (by kernel_rfl)) ?_
  intro W base args ds gs before hval hW hcnd _
  refine law_calls (E := E0) (s := Rows.codesRuleSpec) (rt := 4) rfl (fun _ => rfl) laidOut (fun t ht => ?_) types11 (by kernel_rfl) (by kernel_rfl) rfl (fun ds hd => ?_) ret11 hval hW
  · have h1 := List.all_eq_true.1 read11 t ht
    rw [Bool.and_eq_true, decide_eq_true_eq] at h1
    exact h1
  · rw [size11] at hd
    match ds, hd with
    | [a0, a1, a2], _ => rfl

theorem proved : Rows.CodesRuleSaid :=
  OpenClaim.holds_of_wide 11 Try.f11 rfl rfl rfl rfl rfl rfl rfl ⟨rfl, rfl, rfl, rfl, rfl⟩ rfl rfl rfl rfl rfl (by kernel_rfl) Try.func11 (by kernel_rfl)
    (of_decide_eq_true (by kernel_rfl)) (by unfold Func.isWrapper; first | (rw [if_pos (by decide +kernel)]; kernel_rfl) | (rw [if_neg (by decide +kernel)]; exact ⟨rfl, rfl⟩))
    (fun os started H enc _ => lifted os started H enc)
#print axioms proved
end Go.Proofs.Ytgeodifpcminpaa.rule
