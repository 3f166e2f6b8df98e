/- A part of the proof. -/
import Derived.Test.YtgeodifpcminpaaPgCodesD
set_option linter.all false
open Go Go.Pw Go.Proofs
namespace Go.Pw
set_option linter.unusedSimpArgs false
set_option linter.unusedVariables false
set_option maxRecDepth 100000
set_option maxHeartbeats 1600000
attribute [local congr] cg_pw cg_seqI cg_seqE cg_stepI cg_ev cg_evBin cg_condB cg_condV cg_thenQ cg_blockQ cg_onSome cg_onCells cg_onRow cg_onMap cg_onOpt cg_ghosts cg_ghost cg_evCall cg_part cg_rng cg_guardV cg_frzV cg_frpV cg_ownV cg_owcV cg_occV cg_occX cg_resK cg_res1 cg_yldP cg_rndE cg_onlyN cg_onHist
attribute [local irreducible] IntKind.wrap bitsOp Option.getD and or

def GCode.far (c : GCode) : Bool := decide (20 < c.words.length) || decide (20 < c.next.length) || c.words.any (fun r => decide (20 < r.2.length)) || c.next.any (fun r => decide (20 < r.2.length))
theorem any_iff {l : Rows} {p : Bool × List Int → Bool} : l.any p = false ↔ ∀ (j : Nat), j < l.length → p (l[j]?.getD default) = false := by
  rw [List.any_eq_false]
  constructor
  · intro h j hj; simpa using h _ (getD_mem hj)
  · intro h x hx
    obtain ⟨j, hj, rfl⟩ := List.getElem_of_mem hx
    have := h j hj
    rw [List.getElem?_eq_getElem hj, Option.getD_some] at this
    simpa using this
theorem any_bad {l : Rows} {p : Bool × List Int → Bool} {j : Nat} (hj : j < l.length) (h : p (l[j]?.getD default) = true) : l.any p = true := by
  cases ha : l.any p with
  | true => rfl
  | false => rw [any_iff.1 ha j hj] at h; cases h

theorem law04_Far_ret (c : GCode) : Ret E0 F_law04_Far [codeD c] (.bool c.far) := by
  refine ret_of_pw dec_law04_Far mixed (by simp) fun hwf => ?_
  simp only [wf_int, wf_bool, wf_ints, wf_list, wf_agg, wf_ptr, wf_fn, wf_tup, wf_all_cons, wf_all_nil, wf_all_map, inK_i64, maxLen_eq, List.length_map, ints_len, true_and, and_true, codeD_eq, codeC_eq, rowsD_eq] at hwf
  rw [enter_eq]; unfold pc_law04_Far
  (try (simp -implicitDefEqProofs only [go_sem, codeD_eq, codeC_eq, rowsD_eq])); repeat' first | with_reducible exact True.intro | with_reducible refine And.intro ?_ ?_ | with_reducible intro _ | (((with_reducible refine vc_b ?_ ?_) <;> intro _) <;> try (simp -implicitDefEqProofs only [go_sem, codeD_eq, codeC_eq, rowsD_eq])) | simp (disch := omega) only [wrapI, wrapU, shl1, shl1', shl1'', shrN, shrN', and_one] | ((with_reducible refine isEx ?_); refine ⟨_, rfl, ?_, ?_⟩)
  · have : decide (20 < c.words.length) = true := by simp; omega
    simp only [GCode.far, this, Bool.true_or]
  · have : decide (20 < c.next.length) = true := by simp; omega
    simp only [GCode.far, this, Bool.true_or, Bool.or_true]
  · refine pw_loopS (α := Int) (l0 := ?l1) (m0 := ?m1) (fun x => [(3, .d (.int .i64 x))]) (fun x => []) (fun x => 0 ≤ x ∧ x ≤ c.words.length ∧ ∀ (j : Nat), (j : Int) < x → (c.words[j]?.getD default).2.length ≤ 20) (fun x => (c.words.length - x).toNat) ?a1_0 ?h01 ?he1 ?he21 ?hI1 ?step1
    case h01 => (simp -implicitDefEqProofs only [go_sem, codeD_eq, codeC_eq, rowsD_eq]; rfl)
    case he1 => rfl
    case he21 => rfl
    case' step1 => (rintro i hI; try dsimp only at hI)
    case' hI1 => try dsimp only
    · simp; omega
    by_cases hi : i < c.words.length
    · have hs : (c.words[i.toNat]?.getD default).2.length ≤ 20 → ∀ (j : Nat), (j : Int) < i + 1 → (c.words[j]?.getD default).2.length ≤ 20 := fun h1 j hj => by
        by_cases hji : j = i.toNat
        · subst hji; exact h1
        · exact hI.2.2 j (by omega)
      (try (simp -implicitDefEqProofs only [go_sem, rowsD_eq, rowD_eq])); repeat' first | with_reducible exact True.intro | with_reducible refine And.intro ?_ ?_ | with_reducible intro _ | (((with_reducible refine vc_b ?_ ?_) <;> intro _) <;> try (simp -implicitDefEqProofs only [go_sem, rowsD_eq, rowD_eq])) | simp (disch := omega) only [wrapI, wrapU, shl1, shl1', shl1'', shrN, shrN', and_one] | ((with_reducible refine isEx ?_); refine ⟨_, rfl, ?_, ?_⟩)
      all_goals (try simp (disch := omega) only [wrapI, wrapU, shl1, shl1', shl1'', shrN, shrN', and_one] at *)
      all_goals first | omega | (simp; done) | (simp; omega) | skip
      · have := any_bad (l := c.words) (p := fun r => decide (20 < r.2.length)) (j := i.toNat) (by omega) (by simp; omega)
        simp only [GCode.far, this, Bool.true_or, Bool.or_true]
      · exact hs (by omega) _ (by assumption)
    · have h1 : c.words.any (fun r => decide (20 < r.2.length)) = false := any_iff.2 fun j hj => by simpa using hI.2.2 j (by omega)
      (try (simp -implicitDefEqProofs only [go_sem, rowsD_eq])); repeat' first | with_reducible exact True.intro | with_reducible refine And.intro ?_ ?_ | with_reducible intro _ | (((with_reducible refine vc_b ?_ ?_) <;> intro _) <;> try (simp -implicitDefEqProofs only [go_sem, rowsD_eq])) | simp (disch := omega) only [wrapI, wrapU, shl1, shl1', shl1'', shrN, shrN', and_one] | ((with_reducible refine isEx ?_); refine ⟨_, rfl, ?_, ?_⟩)
      all_goals first | omega | (simp; done) | (simp; omega) | skip
      refine pw_loopS (α := Int) (l0 := ?l2) (m0 := ?m2) (fun x => [(4, .d (.int .i64 x))]) (fun x => []) (fun x => 0 ≤ x ∧ x ≤ c.next.length ∧ ∀ (j : Nat), (j : Int) < x → (c.next[j]?.getD default).2.length ≤ 20) (fun x => (c.next.length - x).toNat) ?a2_0 ?h02 ?he2 ?he22 ?hI2 ?step2
      case h02 => (simp -implicitDefEqProofs only [go_sem, codeD_eq, codeC_eq, rowsD_eq]; rfl)
      case he2 => rfl
      case he22 => rfl
      case' step2 => (rintro k hI2; try dsimp only at hI2)
      case' hI2 => try dsimp only
      · simp; omega
      by_cases hk : k < c.next.length
      · have hs : (c.next[k.toNat]?.getD default).2.length ≤ 20 → ∀ (j : Nat), (j : Int) < k + 1 → (c.next[j]?.getD default).2.length ≤ 20 := fun h1 j hj => by
          by_cases hji : j = k.toNat
          · subst hji; exact h1
          · exact hI2.2.2 j (by omega)
        (try (simp -implicitDefEqProofs only [go_sem, rowsD_eq, rowD_eq])); repeat' first | with_reducible exact True.intro | with_reducible refine And.intro ?_ ?_ | with_reducible intro _ | (((with_reducible refine vc_b ?_ ?_) <;> intro _) <;> try (simp -implicitDefEqProofs only [go_sem, rowsD_eq, rowD_eq])) | simp (disch := omega) only [wrapI, wrapU, shl1, shl1', shl1'', shrN, shrN', and_one] | ((with_reducible refine isEx ?_); refine ⟨_, rfl, ?_, ?_⟩)
        all_goals (try simp (disch := omega) only [wrapI, wrapU, shl1, shl1', shl1'', shrN, shrN', and_one] at *)
        all_goals first | omega | (simp; done) | (simp; omega) | skip
        · have := any_bad (l := c.next) (p := fun r => decide (20 < r.2.length)) (j := k.toNat) (by omega) (by simp; omega)
          simp only [GCode.far, this, Bool.true_or, Bool.or_true]
        · exact hs (by omega) _ (by assumption)
      · have h2 : c.next.any (fun r => decide (20 < r.2.length)) = false := any_iff.2 fun j hj => by simpa using hI2.2.2 j (by omega)
        (try (simp -implicitDefEqProofs only [go_sem, rowsD_eq])); repeat' first | with_reducible exact True.intro | with_reducible refine And.intro ?_ ?_ | with_reducible intro _ | (((with_reducible refine vc_b ?_ ?_) <;> intro _) <;> try (simp -implicitDefEqProofs only [go_sem, rowsD_eq])) | simp (disch := omega) only [wrapI, wrapU, shl1, shl1', shl1'', shrN, shrN', and_one] | ((with_reducible refine isEx ?_); refine ⟨_, rfl, ?_, ?_⟩)
        all_goals first | omega | (simp; done) | (simp; omega) | skip
        have h3 : decide (20 < c.words.length) = false := by simp; omega
        have h4 : decide (20 < c.next.length) = false := by simp; omega
        simp only [GCode.far, h1, h2, h3, h4]; simp

theorem law04_valid_ret (c : GCode) (s : Int) : Ret E0 F_law04_valid [codeD c, .int .i64 s] (.bool (!c.far && (c.ok && c.isState s))) := by
  refine ret_of_pw dec_law04_valid mixed (by simp) fun hwf => ?_
  rw [enter_eq]; unfold pc_law04_valid
  (try (simp -implicitDefEqProofs only [go_sem, codeD_eq, codeC_eq])); repeat' first | with_reducible exact True.intro | with_reducible refine And.intro ?_ ?_ | with_reducible intro _ | (((with_reducible refine isCall ?_); first | refine call_b (law04_Far_ret c) rfl ?_ ?_ | refine call_d (law04_Far_ret c) rfl ?_ | refine call_sb (law04_Far_ret c) rfl ?_ ?_ | refine call_s (law04_Far_ret c) rfl rfl ?_ | refine call_b (ref04_CheckState_ret c s) rfl ?_ ?_ | refine call_d (ref04_CheckState_ret c s) rfl ?_ | refine call_sb (ref04_CheckState_ret c s) rfl ?_ ?_ | refine call_s (ref04_CheckState_ret c s) rfl rfl ?_) <;> try (simp -implicitDefEqProofs only [go_sem, codeD_eq, codeC_eq])) | (((with_reducible refine vc_b ?_ ?_) <;> intro _) <;> try (simp -implicitDefEqProofs only [go_sem, codeD_eq, codeC_eq])) | simp (disch := omega) only [wrapI, wrapU, shl1, shl1', shl1'', shrN, shrN', and_one] 
  all_goals (cases hok : c.ok <;> cases hst : c.isState s <;> simp_all)

def exCode : GCode := ⟨1, 2, 1, 3, false, [(false, [2, 1]), (false, [0, 1])], false, [(false, [0, 1]), (false, [0, 1])]⟩
theorem law04_Example_ret : Ret E0 F_law04_Example [] (codeD exCode) := by
  refine ret_of_pw dec_law04_Example mixed (by simp) fun hwf => ?_
  rw [enter_eq]; unfold pc_law04_Example
  (try (simp -implicitDefEqProofs only [go_sem])); repeat' first | with_reducible exact True.intro | with_reducible refine And.intro ?_ ?_ | with_reducible intro _ | (((with_reducible refine vc_b ?_ ?_) <;> intro _) <;> try (simp -implicitDefEqProofs only [go_sem])) | simp (disch := omega) only [wrapI, wrapU, shl1, shl1', shl1'', shrN, shrN', and_one] 
  rfl

theorem ex_eq : codeD exCode = .agg [.int .i64 1, .int .i64 2, .int .i64 1, .int .i64 3, .list false [.list false [.int .i64 2, .int .i64 1], .list false [.int .i64 0, .int .i64 1]], .list false [.list false [.int .i64 0, .int .i64 1], .list false [.int .i64 0, .int .i64 1]]] := rfl
theorem law04_works_ret : Ret E0 F_law04_works [] (.bool true) := by
  refine ret_of_pw dec_law04_works mixed (by simp) fun hwf => ?_
  have ce := codes_Encode_ret exCode 0 false [1, 0, 1]
  have co := codes_Order_ret exCode
  have cf := codes_Find_ret false false [1, 0, 0, 0, 0, 1] [0, 1, 0, 0, 0, 0, 1, 0, 1] 2
  have e1 : exCode.encode 0 [1, 0, 1] = ([0, 1, 0, 0, 0, 1], 1, 0) := by decide +kernel
  have e2 : exCode.order = (1, 0) := by decide +kernel
  have e3 : findR [1, 0, 0, 0, 0, 1] [0, 1, 0, 0, 0, 0, 1, 0, 1] 2 = ([1, 3], 0) := by decide +kernel
  rw [e1] at ce
  rw [e2] at co
  rw [e3] at cf
  have s1 := law04_sameInts_ret false false [0, 1, 0, 0, 0, 1] [0, 1, 0, 0, 0, 1]
  have s2 := law04_sameInts_ret false false [1, 3] [1, 3]
  rw [enter_eq]; unfold pc_law04_works
  (try (simp -implicitDefEqProofs only [go_sem, ex_eq])); repeat' first | with_reducible exact True.intro | with_reducible refine And.intro ?_ ?_ | with_reducible intro _ | (((with_reducible refine isCall ?_); first | refine call_b (law04_Example_ret) rfl ?_ ?_ | refine call_d (law04_Example_ret) rfl ?_ | refine call_sb (law04_Example_ret) rfl ?_ ?_ | refine call_s (law04_Example_ret) rfl rfl ?_ | refine call_b (ce) rfl ?_ ?_ | refine call_d (ce) rfl ?_ | refine call_sb (ce) rfl ?_ ?_ | refine call_s (ce) rfl rfl ?_ | refine call_b (co) rfl ?_ ?_ | refine call_d (co) rfl ?_ | refine call_sb (co) rfl ?_ ?_ | refine call_s (co) rfl rfl ?_ | refine call_b (cf) rfl ?_ ?_ | refine call_d (cf) rfl ?_ | refine call_sb (cf) rfl ?_ ?_ | refine call_s (cf) rfl rfl ?_ | refine call_b (s1) rfl ?_ ?_ | refine call_d (s1) rfl ?_ | refine call_sb (s1) rfl ?_ ?_ | refine call_s (s1) rfl rfl ?_ | refine call_b (s2) rfl ?_ ?_ | refine call_d (s2) rfl ?_ | refine call_sb (s2) rfl ?_ ?_ | refine call_s (s2) rfl rfl ?_) <;> try (simp -implicitDefEqProofs only [go_sem, ex_eq])) | (((with_reducible refine vc_b ?_ ?_) <;> intro _) <;> try (simp -implicitDefEqProofs only [go_sem, ex_eq])) | simp (disch := omega) only [wrapI, wrapU, shl1, shl1', shl1'', shrN, shrN', and_one] 
  all_goals simp at *
end Go.Pw
