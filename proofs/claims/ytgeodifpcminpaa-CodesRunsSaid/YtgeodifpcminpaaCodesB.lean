/- A part of the proof. -/
import Derived.Test.YtgeodifpcminpaaCodesA
set_option linter.all false
open Go Go.Pw Go.Proofs
namespace Go.Pw
set_option linter.unusedSimpArgs false
set_option linter.unusedVariables false
set_option maxRecDepth 100000
set_option maxHeartbeats 800000
attribute [local congr] cg_pw cg_seqI cg_seqE cg_stepI cg_ev cg_evBin cg_condB cg_condV cg_thenQ cg_blockQ cg_onSome cg_onCells cg_onRow cg_onMap cg_onOpt cg_ghosts cg_ghost cg_evCall cg_part cg_rng cg_guardV cg_frzV cg_frpV cg_ownV cg_owcV cg_occV cg_occX cg_resK cg_res1
attribute [local irreducible] IntKind.wrap bitsOp Option.getD and or

def GCode.rowsOk (c : GCode) (j : Nat) : Bool := rowOk (2 ^ c.bits.toNat) (2 ^ c.out.toNat - 1) (c.words[j]?.getD default) && rowOk (2 ^ c.bits.toNat) (c.words.length - 1) (c.next[j]?.getD default)
theorem rowsOk_eq (c : GCode) (j : Nat) : c.rowsOk j = (decide (((c.words[j]?.getD default).2.length : Int) = 2 ^ c.bits.toNat) && ((c.words[j]?.getD default).2.all fun n => inR n 0 (2 ^ c.out.toNat - 1)) &&
    (decide (((c.next[j]?.getD default).2.length : Int) = 2 ^ c.bits.toNat) && (c.next[j]?.getD default).2.all c.isState)) := by
  have h : ∀ (n k : Nat), decide (n = 2 ^ k) = decide ((n : Int) = 2 ^ k) := fun n k => by
    have : ((2 ^ k : Nat) : Int) = (2 : Int) ^ k := by simp
    rw [← this, decide_eq_decide]; omega
  simp only [GCode.rowsOk, rowOk, h]; rfl
theorem ok_iff (c : GCode) (hh : c.head = true) : c.ok = true ↔ ∀ (j : Nat), j < c.words.length → c.rowsOk j = true := by
  have hl : c.next.length = c.words.length := by simp [GCode.head] at hh; exact hh.2
  simp only [GCode.ok, GCode.rowsOk, hh, Bool.true_and, Bool.and_eq_true, List.all_eq_true]
  constructor
  · intro h j h1
    exact ⟨h.1 _ (getD_mem h1), h.2 _ (getD_mem (by omega))⟩
  · intro h
    constructor
    · intro x hx; obtain ⟨j, hj, rfl⟩ := List.getElem_of_mem hx; have := (h j hj).1; simpa [hj] using this
    · intro x hx; obtain ⟨j, hj, rfl⟩ := List.getElem_of_mem hx; have := (h j (by omega)).2; simpa [hj] using this
theorem not_ok (c : GCode) (hh : c.head = true) (j : Nat) (hj : j < c.words.length) (hb : c.rowsOk j = false) : c.ok = false := by
  cases h : c.ok with
  | false => rfl
  | true => have := (ok_iff c hh).1 h j hj; rw [this] at hb; cases hb

theorem codes_Check_ret (c : GCode) : Ret E0 F_codes_Check [codeD c] (.int .i64 (errI c.ok 40)) := by
  refine ret_of_pw dec_codes_Check mixed (by simp) fun hwf => ?_
  simp only [wf_int, wf_bool, wf_ints, wf_list, wf_agg, wf_ptr, wf_fn, wf_tup, wf_all_cons, wf_all_nil, wf_all_map, inK_i64, maxLen_eq, List.length_map, ints_len, true_and, and_true, codeD_eq, codeC_eq, rowsD_eq] at hwf
  have noHead : c.head = false → errI c.ok 40 = 40 := fun h => by simp [errI, GCode.ok, h]
  rw [enter_eq]; unfold pc_codes_Check
  (try (simp -implicitDefEqProofs only [go_sem, codeD_eq, codeC_eq, rowsD_eq])); repeat' first | with_reducible exact True.intro | with_reducible refine And.intro ?_ ?_ | with_reducible intro _ | (((with_reducible refine isCall ?_); first | refine call_b (codes_within_ret _ _ _) rfl ?_ ?_ | refine call_d (codes_within_ret _ _ _) rfl ?_ | refine call_sb (codes_within_ret _ _ _) rfl ?_ ?_ | refine call_s (codes_within_ret _ _ _) rfl rfl ?_) <;> try (simp -implicitDefEqProofs only [go_sem, codeD_eq, codeC_eq, rowsD_eq])) | (((with_reducible refine vc_b ?_ ?_) <;> intro _) <;> try (simp -implicitDefEqProofs only [go_sem, codeD_eq, codeC_eq, rowsD_eq])) | simp (disch := omega) only [wrapI, wrapU, shl1, shl1', shl1'', shrN, shrN', and_one] | ((with_reducible refine isEx8 ?_); refine ⟨(_, _, _, _, _, _, _, _), rfl, ?_, ?_⟩) | ((with_reducible refine isEx7 ?_); refine ⟨(_, _, _, _, _, _, _), rfl, ?_, ?_⟩) | ((with_reducible refine isEx6 ?_); refine ⟨(_, _, _, _, _, _), rfl, ?_, ?_⟩) | ((with_reducible refine isEx5 ?_); refine ⟨(_, _, _, _, _), rfl, ?_, ?_⟩) | ((with_reducible refine isEx4 ?_); refine ⟨(_, _, _, _), rfl, ?_, ?_⟩) | ((with_reducible refine isEx3 ?_); refine ⟨(_, _, _), rfl, ?_, ?_⟩) | ((with_reducible refine isEx2 ?_); refine ⟨(_, _), rfl, ?_, ?_⟩) | ((with_reducible refine isEx ?_); refine ⟨_, rfl, ?_, ?_⟩)
  all_goals first | (rw [noHead (by cases hh : c.head; rfl; exfalso; simp only [GCode.head, inR, Bool.and_eq_true, decide_eq_true_eq, decide_eq_false_iff_not] at *; omega)]; done) | skip
  have hh : c.head = true := by simp only [GCode.head, inR, Bool.and_eq_true, decide_eq_true_eq, decide_eq_false_iff_not] at *; omega
  have ho : 1 ≤ c.out ∧ c.out ≤ 5 := by simp_all [inR]
  have hb : 1 ≤ c.bits ∧ c.bits ≤ 2 := by simp_all [inR]
  have hl : c.next.length = c.words.length := by omega
  have h12 := pow_12 hb
  have c1 := fun nl xs => codes_ContainsFunc_ret nl xs F_codes_Check_1 [.ptr (codeC c)] (fun n => !inR n 0 (2 ^ c.out.toNat - 1)) (by kernel_rfl) rfl (fun x _ => codes_Check_1_ret c x ho)
  have c2 := fun nl xs => codes_ContainsFunc_ret nl xs F_codes_Check_2 [.ptr (codeC c)] (fun n => !c.isState n) (by kernel_rfl) rfl (fun x _ => codes_Check_2_ret c x)
  simp only [any_not] at c1 c2
  have bad : ∀ j, j < c.words.length → c.rowsOk j = false → errI c.ok 40 = 40 := fun j hj h => by rw [errI, not_ok c hh j hj h]; rfl
  refine pw_loopS (α := Int) (l0 := ?l1) (m0 := ?m1) (fun x => [(63, .d (.int .i64 x))]) (fun x => []) (fun x => 0 ≤ x ∧ x ≤ c.words.length ∧ ∀ (j : Nat), (j : Int) < x → c.rowsOk j = true) (fun x => (c.words.length - x).toNat) ?a1_0 ?h01 ?he1 ?he21 ?hI1 ?step1
  case h01 => (simp -implicitDefEqProofs only [go_sem, codeD_eq, codeC_eq, rowsD_eq]; rfl)
  case he1 => rfl
  case he21 => rfl
  case' step1 => (rintro i hI; try dsimp only at hI)
  case' hI1 => try dsimp only
  · simp; omega
  · (try (simp -implicitDefEqProofs only [go_sem, rowsD_eq, rowD_eq])); repeat' first | with_reducible exact True.intro | with_reducible refine And.intro ?_ ?_ | with_reducible intro _ | (((with_reducible refine isCall ?_); first | refine call_b (codes_code_words_ret c (by omega)) rfl ?_ ?_ | refine call_d (codes_code_words_ret c (by omega)) rfl ?_ | refine call_sb (codes_code_words_ret c (by omega)) rfl ?_ ?_ | refine call_s (codes_code_words_ret c (by omega)) rfl rfl ?_ | refine call_b (c1 _ _) rfl ?_ ?_ | refine call_d (c1 _ _) rfl ?_ | refine call_sb (c1 _ _) rfl ?_ ?_ | refine call_s (c1 _ _) rfl rfl ?_ | refine call_b (c2 _ _) rfl ?_ ?_ | refine call_d (c2 _ _) rfl ?_ | refine call_sb (c2 _ _) rfl ?_ ?_ | refine call_s (c2 _ _) rfl rfl ?_) <;> try (simp -implicitDefEqProofs only [go_sem, rowsD_eq, rowD_eq])) | (((with_reducible refine vc_b ?_ ?_) <;> intro _) <;> try (simp -implicitDefEqProofs only [go_sem, rowsD_eq, rowD_eq])) | simp (disch := omega) only [wrapI, wrapU, shl1, shl1', shl1'', shrN, shrN', and_one] | ((with_reducible refine isEx8 ?_); refine ⟨(_, _, _, _, _, _, _, _), rfl, ?_, ?_⟩) | ((with_reducible refine isEx7 ?_); refine ⟨(_, _, _, _, _, _, _), rfl, ?_, ?_⟩) | ((with_reducible refine isEx6 ?_); refine ⟨(_, _, _, _, _, _), rfl, ?_, ?_⟩) | ((with_reducible refine isEx5 ?_); refine ⟨(_, _, _, _, _), rfl, ?_, ?_⟩) | ((with_reducible refine isEx4 ?_); refine ⟨(_, _, _, _), rfl, ?_, ?_⟩) | ((with_reducible refine isEx3 ?_); refine ⟨(_, _, _), rfl, ?_, ?_⟩) | ((with_reducible refine isEx2 ?_); refine ⟨(_, _), rfl, ?_, ?_⟩) | ((with_reducible refine isEx ?_); refine ⟨_, rfl, ?_, ?_⟩)
    all_goals first | omega | (simp; done) | (simp; omega) | skip
    all_goals try (refine congrArg (D.int .i64) (bad i.toNat (by omega) ?_).symm; rw [rowsOk_eq]; generalize ((c.words[i.toNat]?.getD default).2.all fun n => inR n 0 (2 ^ c.out.toNat - 1)) = A at *; generalize (c.next[i.toNat]?.getD default).2.all c.isState = B at *; cases A <;> cases B <;> simp_all; done)
    · rename_i j hj
      by_cases hji : j = i.toNat
      · subst hji; rw [rowsOk_eq]; generalize ((c.words[i.toNat]?.getD default).2.all fun n => inR n 0 (2 ^ c.out.toNat - 1)) = A at *; generalize (c.next[i.toNat]?.getD default).2.all c.isState = B at *; cases A <;> cases B <;> simp_all
      · exact hI.2.2 j (by omega)
    · have : c.ok = true := (ok_iff c hh).2 fun j hj => hI.2.2 j (by omega)
      rw [errI, this]; rfl

theorem codes_open_ret (c : GCode) (s : Int) : Ret E0 F_codes_open [codeD c, .int .i64 s] (.tup [codeD c, .int .i64 (if !c.ok then 40 else if !c.isState s then 41 else 0)]) := by
  refine ret_of_pw dec_codes_open mixed (by simp) fun hwf => ?_
  rw [enter_eq]; unfold pc_codes_open
  (try (simp -implicitDefEqProofs only [go_sem, codeD_eq, codeC_eq])); repeat' first | with_reducible exact True.intro | with_reducible refine And.intro ?_ ?_ | with_reducible intro _ | (((with_reducible refine isCall ?_); first | refine call_b (codes_Check_ret c) rfl ?_ ?_ | refine call_d (codes_Check_ret c) rfl ?_ | refine call_sb (codes_Check_ret c) rfl ?_ ?_ | refine call_s (codes_Check_ret c) rfl rfl ?_ | refine call_b (codes_code_state_ret c s) rfl ?_ ?_ | refine call_d (codes_code_state_ret c s) rfl ?_ | refine call_sb (codes_code_state_ret c s) rfl ?_ ?_ | refine call_s (codes_code_state_ret c s) rfl rfl ?_) <;> try (simp -implicitDefEqProofs only [go_sem, codeD_eq, codeC_eq])) | (((with_reducible refine vc_b ?_ ?_) <;> intro _) <;> try (simp -implicitDefEqProofs only [go_sem, codeD_eq, codeC_eq])) | simp (disch := omega) only [wrapI, wrapU, shl1, shl1', shl1'', shrN, shrN', and_one] | ((with_reducible refine isEx8 ?_); refine ⟨(_, _, _, _, _, _, _, _), rfl, ?_, ?_⟩) | ((with_reducible refine isEx7 ?_); refine ⟨(_, _, _, _, _, _, _), rfl, ?_, ?_⟩) | ((with_reducible refine isEx6 ?_); refine ⟨(_, _, _, _, _, _), rfl, ?_, ?_⟩) | ((with_reducible refine isEx5 ?_); refine ⟨(_, _, _, _, _), rfl, ?_, ?_⟩) | ((with_reducible refine isEx4 ?_); refine ⟨(_, _, _, _), rfl, ?_, ?_⟩) | ((with_reducible refine isEx3 ?_); refine ⟨(_, _, _), rfl, ?_, ?_⟩) | ((with_reducible refine isEx2 ?_); refine ⟨(_, _), rfl, ?_, ?_⟩) | ((with_reducible refine isEx ?_); refine ⟨_, rfl, ?_, ?_⟩)
  all_goals (cases hok : c.ok <;> cases hst : c.isState s <;> simp_all [errI, codeD_eq, codeC_eq])

end Go.Pw
