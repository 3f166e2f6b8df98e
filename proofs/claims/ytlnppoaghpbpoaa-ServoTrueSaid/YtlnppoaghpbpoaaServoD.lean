/- A part of the proof. -/
import Derived.Test.YtlnppoaghpbpoaaServoC
set_option linter.all false
open Go Go.Pw Go.Proofs
namespace Go.Pw
set_option linter.unusedSimpArgs false
set_option linter.unusedVariables false
set_option maxRecDepth 100000
set_option maxHeartbeats 1600000
attribute [local congr] cg_pw cg_seqI cg_seqE cg_stepI cg_ev cg_evBin cg_condB cg_condV cg_thenQ cg_blockQ cg_onSome cg_onCells cg_onRow cg_onMap cg_onOpt cg_ghosts cg_ghost cg_evCall cg_part cg_rng cg_guardV cg_frzV cg_frpV cg_ownV cg_owcV cg_occV cg_occX cg_resK cg_res1
attribute [local irreducible] IntKind.wrap bitsOp Option.getD and or

theorem ref02_Check_ret (s : GServo) (nl : Bool) (l : List Pair) : Ret E0 F_ref02_Check [servoD s, .list nl (pairsD l)] (.int .i64 (s.check l)) := by
  refine ret_of_pw dec_ref02_Check mixed (by simp) fun hwf => ?_
  simp only [wf_int, wf_bool, wf_ints, wf_list, wf_agg, wf_ptr, wf_fn, wf_tup, wf_all_cons, wf_all_nil, wf_all_map, inK_i64, maxLen_eq, List.length_map, ints_len, true_and, and_true, pairsD_len] at hwf
  have c1 := ref02_IsServo_ret s
  rw [enter_eq]; unfold pc_ref02_Check GServo.check
  cases h : s.ok with
  | false =>
    rw [h] at c1
    (try (simp -implicitDefEqProofs only [go_sem, servoD_eq, servoC_eq, pairsD_len])); repeat' first | with_reducible exact True.intro | with_reducible refine And.intro ?_ ?_ | with_reducible intro _ | (((with_reducible refine isCall ?_); first | refine call_b (c1) rfl ?_ ?_ | refine call_d (c1) rfl ?_ | refine call_sb (c1) rfl ?_ ?_ | refine call_s (c1) rfl rfl ?_) <;> try (simp -implicitDefEqProofs only [go_sem, servoD_eq, servoC_eq, pairsD_len])) | (((with_reducible refine vc_b ?_ ?_) <;> intro _) <;> try (simp -implicitDefEqProofs only [go_sem, servoD_eq, servoC_eq, pairsD_len])) | simp (disch := omega) only [wrapI, wrapU, shl1, shl1', shl1'', shrN, shrN', and_one] | ((with_reducible refine isEx ?_); refine ⟨_, rfl, ?_, ?_⟩)
    all_goals first | omega | (simp; done) | (simp; omega) | skip
  | true =>
    rw [h] at c1
    by_cases h24 : 24 < l.length
    · (try (simp -implicitDefEqProofs only [go_sem, servoD_eq, servoC_eq, pairsD_len])); repeat' first | with_reducible exact True.intro | with_reducible refine And.intro ?_ ?_ | with_reducible intro _ | (((with_reducible refine isCall ?_); first | refine call_b (c1) rfl ?_ ?_ | refine call_d (c1) rfl ?_ | refine call_sb (c1) rfl ?_ ?_ | refine call_s (c1) rfl rfl ?_) <;> try (simp -implicitDefEqProofs only [go_sem, servoD_eq, servoC_eq, pairsD_len])) | (((with_reducible refine vc_b ?_ ?_) <;> intro _) <;> try (simp -implicitDefEqProofs only [go_sem, servoD_eq, servoC_eq, pairsD_len])) | simp (disch := omega) only [wrapI, wrapU, shl1, shl1', shl1'', shrN, shrN', and_one] | ((with_reducible refine isEx ?_); refine ⟨_, rfl, ?_, ?_⟩)
      all_goals first | omega | (simp [h24]; done) | skip
    · have h24' : ¬ (24 : Int) < l.length := by omega
      (try (simp -implicitDefEqProofs only [go_sem, servoD_eq, servoC_eq, pairsD_len, h24'])); repeat' first | with_reducible exact True.intro | with_reducible refine And.intro ?_ ?_ | with_reducible intro _ | (((with_reducible refine isCall ?_); first | refine call_b (c1) rfl ?_ ?_ | refine call_d (c1) rfl ?_ | refine call_sb (c1) rfl ?_ ?_ | refine call_s (c1) rfl rfl ?_) <;> try (simp -implicitDefEqProofs only [go_sem, servoD_eq, servoC_eq, pairsD_len, h24'])) | (((with_reducible refine vc_b ?_ ?_) <;> intro _) <;> try (simp -implicitDefEqProofs only [go_sem, servoD_eq, servoC_eq, pairsD_len, h24'])) | simp (disch := omega) only [wrapI, wrapU, shl1, shl1', shl1'', shrN, shrN', and_one] | ((with_reducible refine isEx ?_); refine ⟨_, rfl, ?_, ?_⟩)
      all_goals first | omega | (simp; done) | (simp; omega) | skip
      refine pw_loopS (α := Int) (l0 := ?l1) (m0 := ?m1) (fun x => [(5, .d (.int .i64 x))]) (fun x => []) (fun x => 0 ≤ x ∧ x ≤ l.length ∧ ∀ (j : Nat), (j : Int) < x → wedgeOk (l[j]?.getD default) = true) (fun x => (l.length - x).toNat) ?a1_0 ?h01 ?he1 ?he21 ?hI1 ?step1
      case h01 => (simp -implicitDefEqProofs only [go_sem, pairsD_len]; rfl)
      case he1 => rfl
      case he21 => rfl
      case' step1 => (rintro i hI; try dsimp only at hI)
      case' hI1 => try dsimp only
      · exact ⟨by omega, by omega, fun j hj => by omega⟩
      · obtain ⟨h1, h2, h3⟩ := hI
        by_cases hi : i < l.length
        · obtain ⟨w, hw⟩ : ∃ w, l[i.toNat]?.getD default = w := ⟨_, rfl⟩
          have k1 := ref02_within_ret w.1 (-1) 127
          have k2 := ref02_within_ret w.2 (-100) 100
          have hbad : wedgeOk w = false → l.all wedgeOk = false := fun hh => allD_bad (j := i.toNat) (by omega) (by rw [hw]; exact hh)
          have hgood : wedgeOk w = true → ∀ (j : Nat), (j : Int) < i + 1 → wedgeOk (l[j]?.getD default) = true := fun hh j hj => by
            rcases (show (j : Int) < i ∨ j = i.toNat by omega) with h | h
            · exact h3 j h
            · rw [h, hw]; exact hh
          have hwo : wedgeOk w = (inR w.1 (-1) 127 && inR w.2 (-100) 100) := rfl
          cases b1 : inR w.1 (-1) 127 with
          | false =>
            rw [b1] at k1
            rw [hbad (by rw [hwo, b1]; simp)]
            (try (simp -implicitDefEqProofs only [go_sem, pairsD_len, onSome_pairs, hw, pairD_eq])); repeat' first | with_reducible exact True.intro | with_reducible refine And.intro ?_ ?_ | with_reducible intro _ | (((with_reducible refine isCall ?_); first | refine call_b (k1) rfl ?_ ?_ | refine call_d (k1) rfl ?_ | refine call_sb (k1) rfl ?_ ?_ | refine call_s (k1) rfl rfl ?_ | refine call_b (k2) rfl ?_ ?_ | refine call_d (k2) rfl ?_ | refine call_sb (k2) rfl ?_ ?_ | refine call_s (k2) rfl rfl ?_) <;> try (simp -implicitDefEqProofs only [go_sem, pairsD_len, onSome_pairs, hw, pairD_eq])) | (((with_reducible refine vc_b ?_ ?_) <;> intro _) <;> try (simp -implicitDefEqProofs only [go_sem, pairsD_len, onSome_pairs, hw, pairD_eq])) | simp (disch := omega) only [wrapI, wrapU, shl1, shl1', shl1'', shrN, shrN', and_one] | ((with_reducible refine isEx ?_); refine ⟨_, rfl, ?_, ?_⟩)
            all_goals first | omega | (simp [h24]; done) | skip
          | true =>
            rw [b1] at k1
            cases b2 : inR w.2 (-100) 100 with
            | false =>
              rw [b2] at k2
              rw [hbad (by rw [hwo, b1, b2]; simp)]
              (try (simp -implicitDefEqProofs only [go_sem, pairsD_len, onSome_pairs, hw, pairD_eq])); repeat' first | with_reducible exact True.intro | with_reducible refine And.intro ?_ ?_ | with_reducible intro _ | (((with_reducible refine isCall ?_); first | refine call_b (k1) rfl ?_ ?_ | refine call_d (k1) rfl ?_ | refine call_sb (k1) rfl ?_ ?_ | refine call_s (k1) rfl rfl ?_ | refine call_b (k2) rfl ?_ ?_ | refine call_d (k2) rfl ?_ | refine call_sb (k2) rfl ?_ ?_ | refine call_s (k2) rfl rfl ?_) <;> try (simp -implicitDefEqProofs only [go_sem, pairsD_len, onSome_pairs, hw, pairD_eq])) | (((with_reducible refine vc_b ?_ ?_) <;> intro _) <;> try (simp -implicitDefEqProofs only [go_sem, pairsD_len, onSome_pairs, hw, pairD_eq])) | simp (disch := omega) only [wrapI, wrapU, shl1, shl1', shl1'', shrN, shrN', and_one] | ((with_reducible refine isEx ?_); refine ⟨_, rfl, ?_, ?_⟩)
              all_goals first | omega | (simp [h24]; done) | skip
            | true =>
              rw [b2] at k2
              have hg := hgood (by rw [hwo, b1, b2]; simp)
              (try (simp -implicitDefEqProofs only [go_sem, pairsD_len, onSome_pairs, hw, pairD_eq])); repeat' first | with_reducible exact True.intro | with_reducible refine And.intro ?_ ?_ | with_reducible intro _ | (((with_reducible refine isCall ?_); first | refine call_b (k1) rfl ?_ ?_ | refine call_d (k1) rfl ?_ | refine call_sb (k1) rfl ?_ ?_ | refine call_s (k1) rfl rfl ?_ | refine call_b (k2) rfl ?_ ?_ | refine call_d (k2) rfl ?_ | refine call_sb (k2) rfl ?_ ?_ | refine call_s (k2) rfl rfl ?_) <;> try (simp -implicitDefEqProofs only [go_sem, pairsD_len, onSome_pairs, hw, pairD_eq])) | (((with_reducible refine vc_b ?_ ?_) <;> intro _) <;> try (simp -implicitDefEqProofs only [go_sem, pairsD_len, onSome_pairs, hw, pairD_eq])) | simp (disch := omega) only [wrapI, wrapU, shl1, shl1', shl1'', shrN, shrN', and_one] | ((with_reducible refine isEx ?_); refine ⟨_, rfl, ?_, ?_⟩)
              all_goals first | omega | (simp [h24]; done) | (apply hg; assumption) | skip
        · have hall : l.all wedgeOk = true := allD_iff.2 fun j hj => h3 j (by omega)
          rw [hall]
          (try (simp -implicitDefEqProofs only [go_sem, pairsD_len])); repeat' first | with_reducible exact True.intro | with_reducible refine And.intro ?_ ?_ | with_reducible intro _ | (((with_reducible refine vc_b ?_ ?_) <;> intro _) <;> try (simp -implicitDefEqProofs only [go_sem, pairsD_len])) | simp (disch := omega) only [wrapI, wrapU, shl1, shl1', shl1'', shrN, shrN', and_one] | ((with_reducible refine isEx ?_); refine ⟨_, rfl, ?_, ?_⟩)
          all_goals first | omega | (simp [h24]; done) | skip
end Go.Pw
