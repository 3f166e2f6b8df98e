/- A part of the proof. -/
import Derived.Test.YtgeodifpcminpaaCodesF
set_option linter.all false
open Go Go.Pw Go.Proofs
namespace Go.Pw
set_option linter.unusedSimpArgs false
set_option linter.unusedVariables false
set_option maxRecDepth 100000
set_option maxHeartbeats 1600000
attribute [local congr] cg_pw cg_seqI cg_seqE cg_stepI cg_ev cg_evBin cg_condB cg_condV cg_thenQ cg_blockQ cg_onSome cg_onCells cg_onRow cg_onMap cg_onOpt cg_ghosts cg_ghost cg_evCall cg_part cg_rng cg_guardV cg_frzV cg_frpV cg_ownV cg_owcV cg_occV cg_occX cg_resK cg_res1
attribute [local irreducible] IntKind.wrap bitsOp Option.getD and or

theorem law04_sameInts_ret (n1 n2 : Bool) (xs ys : List Int) : Ret E0 F_law04_sameInts [.list n1 (ints xs), .list n2 (ints ys)] (.bool (decide (xs = ys))) := by
  refine ret_of_pw dec_law04_sameInts mixed (by simp) fun hwf => ?_
  simp only [wf_int, wf_bool, wf_ints, wf_list, wf_agg, wf_ptr, wf_fn, wf_tup, wf_all_cons, wf_all_nil, wf_all_map, inK_i64, maxLen_eq, List.length_map, ints_len, true_and, and_true] at hwf
  rw [enter_eq]; unfold pc_law04_sameInts
  (try (simp -implicitDefEqProofs only [go_sem])); repeat' first | with_reducible exact True.intro | with_reducible refine And.intro ?_ ?_ | with_reducible intro _ | (((with_reducible refine vc_b ?_ ?_) <;> intro _) <;> try (simp -implicitDefEqProofs only [go_sem])) | simp (disch := omega) only [wrapI, wrapU, shl1, shl1', shl1'', shrN, shrN', and_one] | ((with_reducible refine isEx8 ?_); refine ⟨(_, _, _, _, _, _, _, _), rfl, ?_, ?_⟩) | ((with_reducible refine isEx7 ?_); refine ⟨(_, _, _, _, _, _, _), rfl, ?_, ?_⟩) | ((with_reducible refine isEx6 ?_); refine ⟨(_, _, _, _, _, _), rfl, ?_, ?_⟩) | ((with_reducible refine isEx5 ?_); refine ⟨(_, _, _, _, _), rfl, ?_, ?_⟩) | ((with_reducible refine isEx4 ?_); refine ⟨(_, _, _, _), rfl, ?_, ?_⟩) | ((with_reducible refine isEx3 ?_); refine ⟨(_, _, _), rfl, ?_, ?_⟩) | ((with_reducible refine isEx2 ?_); refine ⟨(_, _), rfl, ?_, ?_⟩) | ((with_reducible refine isEx ?_); refine ⟨_, rfl, ?_, ?_⟩)
  · refine pw_loopS (α := Int) (l0 := ?l1) (m0 := ?m1) (fun x => [(5, .d (.int .i64 x))]) (fun x => []) (fun x => 0 ≤ x ∧ x ≤ xs.length ∧ xs.take x.toNat = ys.take x.toNat) (fun x => (xs.length - x).toNat) ?a1_0 ?h01 ?he1 ?he21 ?hI1 ?step1
    case h01 => (simp -implicitDefEqProofs only [go_sem]; rfl)
    case he1 => rfl
    case he21 => rfl
    case' step1 => (rintro i hI; try dsimp only at hI)
    case' hI1 => try dsimp only
    · simp
    by_cases hi : i < xs.length
    · (try (simp -implicitDefEqProofs only [go_sem])); repeat' first | with_reducible exact True.intro | with_reducible refine And.intro ?_ ?_ | with_reducible intro _ | (((with_reducible refine vc_b ?_ ?_) <;> intro _) <;> try (simp -implicitDefEqProofs only [go_sem])) | simp (disch := omega) only [wrapI, wrapU, shl1, shl1', shl1'', shrN, shrN', and_one] | ((with_reducible refine isEx8 ?_); refine ⟨(_, _, _, _, _, _, _, _), rfl, ?_, ?_⟩) | ((with_reducible refine isEx7 ?_); refine ⟨(_, _, _, _, _, _, _), rfl, ?_, ?_⟩) | ((with_reducible refine isEx6 ?_); refine ⟨(_, _, _, _, _, _), rfl, ?_, ?_⟩) | ((with_reducible refine isEx5 ?_); refine ⟨(_, _, _, _, _), rfl, ?_, ?_⟩) | ((with_reducible refine isEx4 ?_); refine ⟨(_, _, _, _), rfl, ?_, ?_⟩) | ((with_reducible refine isEx3 ?_); refine ⟨(_, _, _), rfl, ?_, ?_⟩) | ((with_reducible refine isEx2 ?_); refine ⟨(_, _), rfl, ?_, ?_⟩) | ((with_reducible refine isEx ?_); refine ⟨_, rfl, ?_, ?_⟩)
      all_goals first | omega | (simp; done) | (simp; omega) | skip
      · rename_i h
        rw [show (i + 1).toNat = i.toNat + 1 by omega, take_get (by omega), take_get (by omega), hI.2.2, h]
      · have : xs ≠ ys := by rintro rfl; simp_all
        simp [this]
    · (try (simp -implicitDefEqProofs only [go_sem])); repeat' first | with_reducible exact True.intro | with_reducible refine And.intro ?_ ?_ | with_reducible intro _ | (((with_reducible refine vc_b ?_ ?_) <;> intro _) <;> try (simp -implicitDefEqProofs only [go_sem])) | simp (disch := omega) only [wrapI, wrapU, shl1, shl1', shl1'', shrN, shrN', and_one] | ((with_reducible refine isEx8 ?_); refine ⟨(_, _, _, _, _, _, _, _), rfl, ?_, ?_⟩) | ((with_reducible refine isEx7 ?_); refine ⟨(_, _, _, _, _, _, _), rfl, ?_, ?_⟩) | ((with_reducible refine isEx6 ?_); refine ⟨(_, _, _, _, _, _), rfl, ?_, ?_⟩) | ((with_reducible refine isEx5 ?_); refine ⟨(_, _, _, _, _), rfl, ?_, ?_⟩) | ((with_reducible refine isEx4 ?_); refine ⟨(_, _, _, _), rfl, ?_, ?_⟩) | ((with_reducible refine isEx3 ?_); refine ⟨(_, _, _), rfl, ?_, ?_⟩) | ((with_reducible refine isEx2 ?_); refine ⟨(_, _), rfl, ?_, ?_⟩) | ((with_reducible refine isEx ?_); refine ⟨_, rfl, ?_, ?_⟩)
      all_goals first | omega | (simp; done) | (simp; omega) | skip
      have h1 := hI.2.2
      rw [List.take_of_length_le (by omega), List.take_of_length_le (by omega)] at h1
      simp [h1]
  · have : xs ≠ ys := by rintro rfl; simp_all
    simp [this]

theorem ref04_Check_ret (c : GCode) : Ret E0 F_ref04_Check [codeD c] (.int .i64 (errI c.ok 40)) := by
  refine ret_of_pw dec_ref04_Check mixed (by simp) fun hwf => ?_
  simp only [wf_int, wf_bool, wf_ints, wf_list, wf_agg, wf_ptr, wf_fn, wf_tup, wf_all_cons, wf_all_nil, wf_all_map, inK_i64, maxLen_eq, List.length_map, ints_len, true_and, and_true, codeD_eq, codeC_eq, rowsD_eq] at hwf
  have noHead : c.head = false → errI c.ok 40 = 40 := fun h => by simp [errI, GCode.ok, h]
  rw [enter_eq]; unfold pc_ref04_Check
  (try (simp -implicitDefEqProofs only [go_sem, codeD_eq, codeC_eq, rowsD_eq])); repeat' first | with_reducible exact True.intro | with_reducible refine And.intro ?_ ?_ | with_reducible intro _ | (((with_reducible refine isCall ?_); first | refine call_b (ref04_within_ret _ _ _) rfl ?_ ?_ | refine call_d (ref04_within_ret _ _ _) rfl ?_ | refine call_sb (ref04_within_ret _ _ _) rfl ?_ ?_ | refine call_s (ref04_within_ret _ _ _) rfl rfl ?_) <;> try (simp -implicitDefEqProofs only [go_sem, codeD_eq, codeC_eq, rowsD_eq])) | (((with_reducible refine vc_b ?_ ?_) <;> intro _) <;> try (simp -implicitDefEqProofs only [go_sem, codeD_eq, codeC_eq, rowsD_eq])) | simp (disch := omega) only [wrapI, wrapU, shl1, shl1', shl1'', shrN, shrN', and_one] | ((with_reducible refine isEx8 ?_); refine ⟨(_, _, _, _, _, _, _, _), rfl, ?_, ?_⟩) | ((with_reducible refine isEx7 ?_); refine ⟨(_, _, _, _, _, _, _), rfl, ?_, ?_⟩) | ((with_reducible refine isEx6 ?_); refine ⟨(_, _, _, _, _, _), rfl, ?_, ?_⟩) | ((with_reducible refine isEx5 ?_); refine ⟨(_, _, _, _, _), rfl, ?_, ?_⟩) | ((with_reducible refine isEx4 ?_); refine ⟨(_, _, _, _), rfl, ?_, ?_⟩) | ((with_reducible refine isEx3 ?_); refine ⟨(_, _, _), rfl, ?_, ?_⟩) | ((with_reducible refine isEx2 ?_); refine ⟨(_, _), rfl, ?_, ?_⟩) | ((with_reducible refine isEx ?_); refine ⟨_, rfl, ?_, ?_⟩)
  all_goals first | (rw [noHead (by cases hh : c.head; rfl; exfalso; simp only [GCode.head, inR, Bool.and_eq_true, decide_eq_true_eq, decide_eq_false_iff_not] at *; omega)]; done) | skip
  have hh : c.head = true := by simp only [GCode.head, inR, Bool.and_eq_true, decide_eq_true_eq, decide_eq_false_iff_not] at *; omega
  have ho : 1 ≤ c.out ∧ c.out ≤ 5 := by simp_all [inR]
  have hb : 1 ≤ c.bits ∧ c.bits ≤ 2 := by simp_all [inR]
  have hl : c.next.length = c.words.length := by omega
  have h12 := pow_12 hb
  have hp1 := pow_le62 (k := c.out.toNat) (by omega)
  have hp2 := pow_pos2 c.out.toNat
  have bad : ∀ j, j < c.words.length → c.rowsOk j = false → errI c.ok 40 = 40 := fun j hj h => by rw [errI, not_ok c hh j hj h]; rfl
  refine pw_loopS (α := Int) (l0 := ?l2) (m0 := ?m2) (fun x => [(3, .d (.int .i64 x))]) (fun x => []) (fun x => 0 ≤ x ∧ x ≤ c.words.length ∧ ∀ (j : Nat), (j : Int) < x → c.rowsOk j = true) (fun x => (c.words.length - x).toNat) ?a2_0 ?h02 ?he2 ?he22 ?hI2 ?step2
  case h02 => (simp -implicitDefEqProofs only [go_sem, codeD_eq, codeC_eq, rowsD_eq]; rfl)
  case he2 => rfl
  case he22 => rfl
  case' step2 => (rintro i hI; try dsimp only at hI)
  case' hI2 => try dsimp only
  · simp; omega
  by_cases hi : i < c.words.length
  · obtain ⟨rw_, hrw⟩ : ∃ r, c.words[i.toNat]?.getD default = r := ⟨_, rfl⟩
    obtain ⟨rn, hrn⟩ : ∃ r, c.next[i.toNat]?.getD default = r := ⟨_, rfl⟩
    have hrow : c.rowsOk i.toNat = (decide ((rw_.2.length : Int) = 2 ^ c.bits.toNat) && (rw_.2.all fun n => inR n 0 (2 ^ c.out.toNat - 1)) && (decide ((rn.2.length : Int) = 2 ^ c.bits.toNat) && rn.2.all c.isState)) := by rw [rowsOk_eq, hrw, hrn]
    (try (simp -implicitDefEqProofs only [go_sem, rowsD_eq, rowD_eq, hrw, hrn])); repeat' first | with_reducible exact True.intro | with_reducible refine And.intro ?_ ?_ | with_reducible intro _ | (((with_reducible refine isCall ?_); first | refine call_b (ref04_within_ret _ _ _) rfl ?_ ?_ | refine call_d (ref04_within_ret _ _ _) rfl ?_ | refine call_sb (ref04_within_ret _ _ _) rfl ?_ ?_ | refine call_s (ref04_within_ret _ _ _) rfl rfl ?_) <;> try (simp -implicitDefEqProofs only [go_sem, rowsD_eq, rowD_eq, hrw, hrn])) | (((with_reducible refine vc_b ?_ ?_) <;> intro _) <;> try (simp -implicitDefEqProofs only [go_sem, rowsD_eq, rowD_eq, hrw, hrn])) | simp (disch := omega) only [wrapI, wrapU, shl1, shl1', shl1'', shrN, shrN', and_one] | ((with_reducible refine isEx8 ?_); refine ⟨(_, _, _, _, _, _, _, _), rfl, ?_, ?_⟩) | ((with_reducible refine isEx7 ?_); refine ⟨(_, _, _, _, _, _, _), rfl, ?_, ?_⟩) | ((with_reducible refine isEx6 ?_); refine ⟨(_, _, _, _, _, _), rfl, ?_, ?_⟩) | ((with_reducible refine isEx5 ?_); refine ⟨(_, _, _, _, _), rfl, ?_, ?_⟩) | ((with_reducible refine isEx4 ?_); refine ⟨(_, _, _, _), rfl, ?_, ?_⟩) | ((with_reducible refine isEx3 ?_); refine ⟨(_, _, _), rfl, ?_, ?_⟩) | ((with_reducible refine isEx2 ?_); refine ⟨(_, _), rfl, ?_, ?_⟩) | ((with_reducible refine isEx ?_); refine ⟨_, rfl, ?_, ?_⟩)
    all_goals (try simp (disch := omega) only [wrapI, wrapU, shl1, shl1', shl1'', shrN, shrN', and_one] at *)
    all_goals first | omega | (simp; done) | (simp; omega) | skip
    · refine pw_loopS (α := Int) (l0 := ?l3) (m0 := ?m3) (fun x => [(4, .d (.int .i64 x))]) (fun x => []) (fun x => 0 ≤ x ∧ x ≤ rw_.2.length ∧ ∀ (j : Nat), (j : Int) < x → inR (rw_.2[j]?.getD 0) 0 (2 ^ c.out.toNat - 1) = true ∧ c.isState (rn.2[j]?.getD 0) = true) (fun x => (rw_.2.length - x).toNat) ?a3_0 ?h03 ?he3 ?he23 ?hI3 ?step3
      case h03 => (simp -implicitDefEqProofs only [go_sem, codeD_eq, codeC_eq, rowsD_eq]; rfl)
      case he3 => rfl
      case he23 => rfl
      case' step3 => (rintro w hI2; try dsimp only at hI2)
      case' hI3 => try dsimp only
      · simp; omega
      by_cases hw : w < rw_.2.length
      · have hs : inR (rw_.2[w.toNat]?.getD 0) 0 (2 ^ c.out.toNat - 1) = true → c.isState (rn.2[w.toNat]?.getD 0) = true → ∀ (j : Nat), (j : Int) < w + 1 → inR (rw_.2[j]?.getD 0) 0 (2 ^ c.out.toNat - 1) = true ∧ c.isState (rn.2[j]?.getD 0) = true := fun h1 h2 j hj => by
          by_cases hjw : j = w.toNat
          · subst hjw; exact ⟨h1, h2⟩
          · exact hI2.2.2 j (by omega)
        (try (simp -implicitDefEqProofs only [go_sem, rowsD_eq, rowD_eq, hrw, hrn])); repeat' first | with_reducible exact True.intro | with_reducible refine And.intro ?_ ?_ | with_reducible intro _ | (((with_reducible refine isCall ?_); first | refine call_b (ref04_within_ret _ _ _) rfl ?_ ?_ | refine call_d (ref04_within_ret _ _ _) rfl ?_ | refine call_sb (ref04_within_ret _ _ _) rfl ?_ ?_ | refine call_s (ref04_within_ret _ _ _) rfl rfl ?_) <;> try (simp -implicitDefEqProofs only [go_sem, rowsD_eq, rowD_eq, hrw, hrn])) | (((with_reducible refine vc_b ?_ ?_) <;> intro _) <;> try (simp -implicitDefEqProofs only [go_sem, rowsD_eq, rowD_eq, hrw, hrn])) | simp (disch := omega) only [wrapI, wrapU, shl1, shl1', shl1'', shrN, shrN', and_one] | ((with_reducible refine isEx8 ?_); refine ⟨(_, _, _, _, _, _, _, _), rfl, ?_, ?_⟩) | ((with_reducible refine isEx7 ?_); refine ⟨(_, _, _, _, _, _, _), rfl, ?_, ?_⟩) | ((with_reducible refine isEx6 ?_); refine ⟨(_, _, _, _, _, _), rfl, ?_, ?_⟩) | ((with_reducible refine isEx5 ?_); refine ⟨(_, _, _, _, _), rfl, ?_, ?_⟩) | ((with_reducible refine isEx4 ?_); refine ⟨(_, _, _, _), rfl, ?_, ?_⟩) | ((with_reducible refine isEx3 ?_); refine ⟨(_, _, _), rfl, ?_, ?_⟩) | ((with_reducible refine isEx2 ?_); refine ⟨(_, _), rfl, ?_, ?_⟩) | ((with_reducible refine isEx ?_); refine ⟨_, rfl, ?_, ?_⟩)
        all_goals (try simp (disch := omega) only [wrapI, wrapU, shl1, shl1', shl1'', shrN, shrN', and_one] at *)
        all_goals first | omega | (simp; done) | (simp; omega) | skip
        · exact (hs (by assumption) (by show inR _ 0 _ = true; assumption) _ (by assumption)).1
        · exact (hs (by assumption) (by show inR _ 0 _ = true; assumption) _ (by assumption)).2
        · refine congrArg (D.int .i64) (bad i.toNat (by omega) ?_).symm
          rw [hrow, all_bad (l := rn.2) (p := c.isState) (j := w.toNat) (by omega) (by show inR _ 0 _ = false; assumption)]; simp
        · refine congrArg (D.int .i64) (bad i.toNat (by omega) ?_).symm
          rw [hrow, all_bad (l := rw_.2) (p := fun n => inR n 0 (2 ^ c.out.toNat - 1)) (j := w.toNat) (by omega) (by assumption)]; simp
      · have hT : rw_.2.length = 2 ^ c.bits.toNat → rn.2.length = 2 ^ c.bits.toNat → ∀ (j : Nat), (j : Int) < i + 1 → c.rowsOk j = true := fun h1 h2 j hj => by
          by_cases hji : j = i.toNat
          · subst hji
            have e1 : (rw_.2.length : Int) = 2 ^ c.bits.toNat := by omega
            have e2 : (rn.2.length : Int) = 2 ^ c.bits.toNat := by omega
            rw [hrow, all_iff.2 fun k hk => (hI2.2.2 k (by omega)).1, all_iff.2 fun k hk => (hI2.2.2 k (by omega)).2, e1, e2]; simp
          · exact hI.2.2 j (by omega)
        (try (simp -implicitDefEqProofs only [go_sem, rowsD_eq, rowD_eq, hrw, hrn])); repeat' first | with_reducible exact True.intro | with_reducible refine And.intro ?_ ?_ | with_reducible intro _ | (((with_reducible refine isCall ?_); first | refine call_b (ref04_within_ret _ _ _) rfl ?_ ?_ | refine call_d (ref04_within_ret _ _ _) rfl ?_ | refine call_sb (ref04_within_ret _ _ _) rfl ?_ ?_ | refine call_s (ref04_within_ret _ _ _) rfl rfl ?_) <;> try (simp -implicitDefEqProofs only [go_sem, rowsD_eq, rowD_eq, hrw, hrn])) | (((with_reducible refine vc_b ?_ ?_) <;> intro _) <;> try (simp -implicitDefEqProofs only [go_sem, rowsD_eq, rowD_eq, hrw, hrn])) | simp (disch := omega) only [wrapI, wrapU, shl1, shl1', shl1'', shrN, shrN', and_one] | ((with_reducible refine isEx8 ?_); refine ⟨(_, _, _, _, _, _, _, _), rfl, ?_, ?_⟩) | ((with_reducible refine isEx7 ?_); refine ⟨(_, _, _, _, _, _, _), rfl, ?_, ?_⟩) | ((with_reducible refine isEx6 ?_); refine ⟨(_, _, _, _, _, _), rfl, ?_, ?_⟩) | ((with_reducible refine isEx5 ?_); refine ⟨(_, _, _, _, _), rfl, ?_, ?_⟩) | ((with_reducible refine isEx4 ?_); refine ⟨(_, _, _, _), rfl, ?_, ?_⟩) | ((with_reducible refine isEx3 ?_); refine ⟨(_, _, _), rfl, ?_, ?_⟩) | ((with_reducible refine isEx2 ?_); refine ⟨(_, _), rfl, ?_, ?_⟩) | ((with_reducible refine isEx ?_); refine ⟨_, rfl, ?_, ?_⟩)
        all_goals (try simp (disch := omega) only [wrapI, wrapU, shl1, shl1', shl1'', shrN, shrN', and_one] at *)
        all_goals first | omega | (simp; done) | (simp; omega) | skip
        exact hT (by omega) (by omega) _ (by assumption)
    all_goals (refine congrArg (D.int .i64) (bad i.toNat (by omega) ?_).symm; rw [hrow]; simp_all; done)
  · (try (simp -implicitDefEqProofs only [go_sem, rowsD_eq])); repeat' first | with_reducible exact True.intro | with_reducible refine And.intro ?_ ?_ | with_reducible intro _ | (((with_reducible refine vc_b ?_ ?_) <;> intro _) <;> try (simp -implicitDefEqProofs only [go_sem, rowsD_eq])) | simp (disch := omega) only [wrapI, wrapU, shl1, shl1', shl1'', shrN, shrN', and_one] | ((with_reducible refine isEx8 ?_); refine ⟨(_, _, _, _, _, _, _, _), rfl, ?_, ?_⟩) | ((with_reducible refine isEx7 ?_); refine ⟨(_, _, _, _, _, _, _), rfl, ?_, ?_⟩) | ((with_reducible refine isEx6 ?_); refine ⟨(_, _, _, _, _, _), rfl, ?_, ?_⟩) | ((with_reducible refine isEx5 ?_); refine ⟨(_, _, _, _, _), rfl, ?_, ?_⟩) | ((with_reducible refine isEx4 ?_); refine ⟨(_, _, _, _), rfl, ?_, ?_⟩) | ((with_reducible refine isEx3 ?_); refine ⟨(_, _, _), rfl, ?_, ?_⟩) | ((with_reducible refine isEx2 ?_); refine ⟨(_, _), rfl, ?_, ?_⟩) | ((with_reducible refine isEx ?_); refine ⟨_, rfl, ?_, ?_⟩)
    all_goals first | omega | (simp; done) | (simp; omega) | skip
    have : c.ok = true := (ok_iff c hh).2 fun j hj => hI.2.2 j (by omega)
    rw [errI, this]; rfl

theorem ref04_CheckState_ret (c : GCode) (s : Int) : Ret E0 F_ref04_CheckState [codeD c, .int .i64 s] (.int .i64 (if !c.ok then 40 else if !c.isState s then 41 else 0)) := by
  refine ret_of_pw dec_ref04_CheckState mixed (by simp) fun hwf => ?_
  simp only [wf_int, wf_bool, wf_ints, wf_list, wf_agg, wf_ptr, wf_fn, wf_tup, wf_all_cons, wf_all_nil, wf_all_map, inK_i64, maxLen_eq, List.length_map, ints_len, true_and, and_true, codeD_eq, codeC_eq, rowsD_eq] at hwf
  rw [enter_eq]; unfold pc_ref04_CheckState
  (try (simp -implicitDefEqProofs only [go_sem, codeD_eq, codeC_eq, rowsD_eq])); repeat' first | with_reducible exact True.intro | with_reducible refine And.intro ?_ ?_ | with_reducible intro _ | (((with_reducible refine isCall ?_); first | refine call_b (ref04_Check_ret c) rfl ?_ ?_ | refine call_d (ref04_Check_ret c) rfl ?_ | refine call_sb (ref04_Check_ret c) rfl ?_ ?_ | refine call_s (ref04_Check_ret c) rfl rfl ?_ | refine call_b (ref04_within_ret _ _ _) rfl ?_ ?_ | refine call_d (ref04_within_ret _ _ _) rfl ?_ | refine call_sb (ref04_within_ret _ _ _) rfl ?_ ?_ | refine call_s (ref04_within_ret _ _ _) rfl rfl ?_) <;> try (simp -implicitDefEqProofs only [go_sem, codeD_eq, codeC_eq, rowsD_eq])) | (((with_reducible refine vc_b ?_ ?_) <;> intro _) <;> try (simp -implicitDefEqProofs only [go_sem, codeD_eq, codeC_eq, rowsD_eq])) | simp (disch := omega) only [wrapI, wrapU, shl1, shl1', shl1'', shrN, shrN', and_one] | ((with_reducible refine isEx8 ?_); refine ⟨(_, _, _, _, _, _, _, _), rfl, ?_, ?_⟩) | ((with_reducible refine isEx7 ?_); refine ⟨(_, _, _, _, _, _, _), rfl, ?_, ?_⟩) | ((with_reducible refine isEx6 ?_); refine ⟨(_, _, _, _, _, _), rfl, ?_, ?_⟩) | ((with_reducible refine isEx5 ?_); refine ⟨(_, _, _, _, _), rfl, ?_, ?_⟩) | ((with_reducible refine isEx4 ?_); refine ⟨(_, _, _, _), rfl, ?_, ?_⟩) | ((with_reducible refine isEx3 ?_); refine ⟨(_, _, _), rfl, ?_, ?_⟩) | ((with_reducible refine isEx2 ?_); refine ⟨(_, _), rfl, ?_, ?_⟩) | ((with_reducible refine isEx ?_); refine ⟨_, rfl, ?_, ?_⟩)
  all_goals (try simp (disch := omega) only [wrapI, wrapU, shl1, shl1', shl1'', shrN, shrN', and_one] at *)
  all_goals (cases hok : c.ok <;> cases hst : c.isState s <;> simp_all [errI, GCode.isState])

theorem ref04_IsData_ret (c : GCode) (nl : Bool) (l : List Int) (h : 1 ≤ c.bits ∧ c.bits ≤ 2) : Ret E0 F_ref04_IsData [codeD c, .list nl (ints l)] (.bool (c.isData l)) := by
  refine ret_of_pw dec_ref04_IsData mixed (by simp) fun hwf => ?_
  have h12 := pow_12 h
  simp only [wf_int, wf_bool, wf_ints, wf_list, wf_agg, wf_ptr, wf_fn, wf_tup, wf_all_cons, wf_all_nil, wf_all_map, inK_i64, maxLen_eq, List.length_map, ints_len, true_and, and_true, codeD_eq, codeC_eq, rowsD_eq] at hwf
  rw [enter_eq]; unfold pc_ref04_IsData
  simp -implicitDefEqProofs only [go_sem, codeD_eq, codeC_eq]
  refine pw_loopS (α := Int) (l0 := ?l4) (m0 := ?m4) (fun x => [(5, .d (.int .i64 x))]) (fun x => []) (fun x => 0 ≤ x ∧ x ≤ l.length ∧ ∀ (j : Nat), (j : Int) < x → c.isWord (l[j]?.getD 0) = true) (fun x => (l.length - x).toNat) ?a4_0 ?h04 ?he4 ?he24 ?hI4 ?step4
  case h04 => (simp -implicitDefEqProofs only [go_sem, codeD_eq, codeC_eq]; rfl)
  case he4 => rfl
  case he24 => rfl
  case' step4 => (rintro i hI; try dsimp only at hI)
  case' hI4 => try dsimp only
  · simp; omega
  by_cases hi : i < l.length
  · have hs : c.isWord (l[i.toNat]?.getD 0) = true → ∀ (j : Nat), (j : Int) < i + 1 → c.isWord (l[j]?.getD 0) = true := fun h1 j hj => by
      by_cases hji : j = i.toNat
      · subst hji; exact h1
      · exact hI.2.2 j (by omega)
    (try (simp -implicitDefEqProofs only [go_sem])); repeat' first | with_reducible exact True.intro | with_reducible refine And.intro ?_ ?_ | with_reducible intro _ | (((with_reducible refine isCall ?_); first | refine call_b (ref04_within_ret _ _ _) rfl ?_ ?_ | refine call_d (ref04_within_ret _ _ _) rfl ?_ | refine call_sb (ref04_within_ret _ _ _) rfl ?_ ?_ | refine call_s (ref04_within_ret _ _ _) rfl rfl ?_) <;> try (simp -implicitDefEqProofs only [go_sem])) | (((with_reducible refine vc_b ?_ ?_) <;> intro _) <;> try (simp -implicitDefEqProofs only [go_sem])) | simp (disch := omega) only [wrapI, wrapU, shl1, shl1', shl1'', shrN, shrN', and_one] | ((with_reducible refine isEx8 ?_); refine ⟨(_, _, _, _, _, _, _, _), rfl, ?_, ?_⟩) | ((with_reducible refine isEx7 ?_); refine ⟨(_, _, _, _, _, _, _), rfl, ?_, ?_⟩) | ((with_reducible refine isEx6 ?_); refine ⟨(_, _, _, _, _, _), rfl, ?_, ?_⟩) | ((with_reducible refine isEx5 ?_); refine ⟨(_, _, _, _, _), rfl, ?_, ?_⟩) | ((with_reducible refine isEx4 ?_); refine ⟨(_, _, _, _), rfl, ?_, ?_⟩) | ((with_reducible refine isEx3 ?_); refine ⟨(_, _, _), rfl, ?_, ?_⟩) | ((with_reducible refine isEx2 ?_); refine ⟨(_, _), rfl, ?_, ?_⟩) | ((with_reducible refine isEx ?_); refine ⟨_, rfl, ?_, ?_⟩)
    all_goals (try simp (disch := omega) only [wrapI, wrapU, shl1, shl1', shl1'', shrN, shrN', and_one] at *)
    all_goals first | omega | (simp; done) | (simp; omega) | skip
    · exact hs (by show inR _ 0 _ = true; assumption) _ (by assumption)
    · have := all_bad (l := l) (p := c.isWord) (j := i.toNat) (by omega) (by show inR _ 0 _ = false; assumption)
      simp [GCode.isData, this]
  · have hall : l.all c.isWord = true := all_iff.2 fun j hj => hI.2.2 j (by omega)
    (try (simp -implicitDefEqProofs only [go_sem])); repeat' first | with_reducible exact True.intro | with_reducible refine And.intro ?_ ?_ | with_reducible intro _ | (((with_reducible refine vc_b ?_ ?_) <;> intro _) <;> try (simp -implicitDefEqProofs only [go_sem])) | simp (disch := omega) only [wrapI, wrapU, shl1, shl1', shl1'', shrN, shrN', and_one] | ((with_reducible refine isEx8 ?_); refine ⟨(_, _, _, _, _, _, _, _), rfl, ?_, ?_⟩) | ((with_reducible refine isEx7 ?_); refine ⟨(_, _, _, _, _, _, _), rfl, ?_, ?_⟩) | ((with_reducible refine isEx6 ?_); refine ⟨(_, _, _, _, _, _), rfl, ?_, ?_⟩) | ((with_reducible refine isEx5 ?_); refine ⟨(_, _, _, _, _), rfl, ?_, ?_⟩) | ((with_reducible refine isEx4 ?_); refine ⟨(_, _, _, _), rfl, ?_, ?_⟩) | ((with_reducible refine isEx3 ?_); refine ⟨(_, _, _), rfl, ?_, ?_⟩) | ((with_reducible refine isEx2 ?_); refine ⟨(_, _), rfl, ?_, ?_⟩) | ((with_reducible refine isEx ?_); refine ⟨_, rfl, ?_, ?_⟩)
    all_goals first | omega | (simp; done) | (simp; omega) | skip
    all_goals (simp only [GCode.isData, hall]; simp; omega)
end Go.Pw
