/- A part of the proof. -/
import Derived.Test.YtiphmemigdplgaaDoorJournalI
set_option linter.all false
open Go Go.Pw Go.Proofs
namespace Go.Pw
set_option linter.unusedSimpArgs false
set_option linter.unusedVariables false
set_option maxRecDepth 100000
set_option maxHeartbeats 3200000
theorem P_home_at {xs : List Int} (h : ∀ j : Nat, j < xs.length → inZ (xs[j]?.getD 0) 0 999 = true) : xs.all (fun n => inZ n 0 999) = true := by
  rw [List.all_eq_true]
  intro x hx
  obtain ⟨i, hi, rfl⟩ := List.getElem_of_mem hx
  have := h i hi
  rwa [List.getElem?_eq_getElem hi, Option.getD_some] at this
theorem P_home_bad {xs : List Int} {i : Nat} (hi : i < xs.length) (h : inZ (xs[i]?.getD 0) 0 999 = false) : xs.all (fun n => inZ n 0 999) = false := by
  cases ha : xs.all (fun n => inZ n 0 999) with
  | false => rfl
  | true =>
    rw [List.all_eq_true] at ha
    rw [List.getElem?_eq_getElem hi, Option.getD_some, ha _ (List.getElem_mem hi)] at h
    cases h
attribute [local congr] cg_pw cg_seqI cg_seqE cg_stepI cg_ev cg_evBin cg_condB cg_condV cg_thenQ cg_blockQ cg_onSome cg_onCells cg_onRow cg_onMap cg_onOpt cg_ghosts cg_ghost cg_evCall cg_part cg_rng cg_guardV cg_frzV cg_frpV cg_ownV cg_owcV cg_occV cg_occX cg_resK cg_res1 cg_yldP cg_rndE cg_onlyN cg_onHist
attribute [local irreducible] IntKind.wrap bitsOp Option.getD and or

theorem ref16_Replay_ret (l : GLog) (nl : Bool) (home : List Int) (hh : nl = true → home = []) :
    Ret E0 F_ref16_Replay [logD l, .list nl (ints home)] (.tup [if l.replayE home = 0 then .list false (ints (l.repL home)) else .list true [], .int .i64 (l.replayE home)]) := by
  refine ret_of_pw dec_ref16_Replay mixed (by simp) fun hwf => ?_
  have c1 := ref16_CheckKept_ret l
  simp only [wf_int, wf_bool, wf_ints, wf_list, wf_agg, wf_ptr, wf_fn, wf_tup, wf_all_cons, wf_all_nil, wf_all_map, inK_i64, maxLen_eq, List.length_map, ints_len, true_and, and_true, logC_eq, recsD_len, zpsD_len] at hwf
  rw [enter_eq]; unfold pc_ref16_Replay
  by_cases he : l.openE = 0
  · obtain ⟨h1, h2⟩ := openE_0 he
    have g := check_good h1
    have b1 := g.b1; have b2 := g.b2
    rw [he] at c1
    rw [replayE_home he]
    unfold okHome
    (try (simp -implicitDefEqProofs only [go_sem, logD_eq, logC_eq])); repeat' first | with_reducible exact True.intro | with_reducible refine And.intro ?_ ?_ | with_reducible intro _ | (((with_reducible refine isCall ?_); first | refine call_b (c1) rfl ?_ ?_ | refine call_d (c1) rfl ?_ | refine call_sb (c1) rfl ?_ ?_ | refine call_s (c1) rfl rfl ?_) <;> try (simp -implicitDefEqProofs only [go_sem, logD_eq, logC_eq])) | (((with_reducible refine vc_b ?_ ?_) <;> intro _) <;> try (simp -implicitDefEqProofs only [go_sem, logD_eq, logC_eq])) | simp (disch := omega) only [wrapI, wrapU, shl1, shl1', shl1'', shrN, shrN', and_one] | ((with_reducible refine isEx2 ?_); refine ⟨(_, _), rfl, ?_, ?_⟩) | ((with_reducible refine isEx ?_); refine ⟨_, rfl, ?_, ?_⟩)
    refine pw_loopS (α := Int) (l0 := ?l1) (m0 := ?m1) (fun x => [(7, .d (.int .i64 x))]) (fun x => []) (fun x => (0 ≤ x ∧ x ≤ home.length) ∧ ∀ j : Nat, j < x.toNat → inZ (home[j]?.getD 0) 0 999 = true) (fun x => (home.length - x).toNat) ?a1_0 ?h01 ?he1 ?he21 ?hI1 ?step1
    case h01 => (simp -implicitDefEqProofs only [go_sem, logC_eq]; rfl)
    case he1 => rfl
    case he21 => rfl
    case' step1 => (rintro i hI; try dsimp only at hI)
    case' hI1 => try dsimp only
    · exact ⟨⟨by omega, by omega⟩, fun j hj => by omega⟩
    · obtain ⟨⟨q1, q2⟩, q3⟩ := hI
      by_cases hi : i < home.length
      · have w1 : IntKind.i64.wrap (i + 1) = i + 1 := wrapI _ (by omega)
        have c2 := ref16_within_ret (home[i.toNat]?.getD 0) 0 999
        cases hv : inZ (home[i.toNat]?.getD 0) 0 999 with
        | true =>
          rw [hv] at c2
          have hn : ∀ j : Nat, j < (i + 1).toNat → inZ (home[j]?.getD 0) 0 999 = true := fun j hj => by
            rcases (show j < i.toNat ∨ j = i.toNat by omega) with h1 | h1
            · exact q3 j h1
            · rw [h1]; exact hv
          (try (simp -implicitDefEqProofs only [go_sem, logC_eq, hi, q1, w1])); repeat' first | with_reducible exact True.intro | with_reducible refine And.intro ?_ ?_ | with_reducible intro _ | (((with_reducible refine isCall ?_); first | refine call_b (c2) rfl ?_ ?_ | refine call_d (c2) rfl ?_ | refine call_sb (c2) rfl ?_ ?_ | refine call_s (c2) rfl rfl ?_) <;> try (simp -implicitDefEqProofs only [go_sem, logC_eq, hi, q1, w1])) | (((with_reducible refine vc_b ?_ ?_) <;> intro _) <;> try (simp -implicitDefEqProofs only [go_sem, logC_eq, hi, q1, w1])) | simp (disch := omega) only [wrapI, wrapU, shl1, shl1', shl1'', shrN, shrN', and_one] | ((with_reducible refine isEx2 ?_); refine ⟨(_, _), rfl, ?_, ?_⟩) | ((with_reducible refine isEx ?_); refine ⟨_, rfl, ?_, ?_⟩)
          all_goals first | omega | (apply hn; assumption) | skip
        | false =>
          rw [hv] at c2
          rw [P_home_bad (by omega) hv, Bool.and_false, if_neg (by simp), if_neg (by simp)]
          (try (simp -implicitDefEqProofs only [go_sem, logC_eq, hi, q1])); repeat' first | with_reducible exact True.intro | with_reducible refine And.intro ?_ ?_ | with_reducible intro _ | (((with_reducible refine isCall ?_); first | refine call_b (c2) rfl ?_ ?_ | refine call_d (c2) rfl ?_ | refine call_sb (c2) rfl ?_ ?_ | refine call_s (c2) rfl rfl ?_) <;> try (simp -implicitDefEqProofs only [go_sem, logC_eq, hi, q1])) | (((with_reducible refine vc_b ?_ ?_) <;> intro _) <;> try (simp -implicitDefEqProofs only [go_sem, logC_eq, hi, q1])) | simp (disch := omega) only [wrapI, wrapU, shl1, shl1', shl1'', shrN, shrN', and_one] | ((with_reducible refine isEx2 ?_); refine ⟨(_, _), rfl, ?_, ?_⟩) | ((with_reducible refine isEx ?_); refine ⟨_, rfl, ?_, ?_⟩)
          all_goals first | omega | skip
      · replace hi := eq_false hi
        rw [P_home_at fun j hj => q3 j (by have := of_eq_false hi; omega), Bool.and_true]
        by_cases hlen : (home.length : Int) = l.blocks
        · rw [decide_eq_true hlen, if_pos rfl, if_pos rfl]
          have hnl : nl = false := by
            cases nl with
            | false => rfl
            | true => have := hh rfl; rw [this] at hlen; simp at hlen; omega
          subst hnl
          have hne : home ≠ [] := fun h => by rw [h] at hlen; simp at hlen; omega
          have hlb : home.length ≤ 1073741824 := by omega
          have c4 := ref16_kept_ret l g
          rw [h2, keptA_full h2] at c4
          have hkl := kept_len l
          have hmb := many_bound g
          have hkg := fun i hi => kept_good g h2 (i := i) hi
          unfold GLog.repL
          generalize l.kept = ks at *
          (try (simp -implicitDefEqProofs only [go_sem, logD_eq, logC_eq, hi, eq_true hlen, hne, hlb])); repeat' first | with_reducible exact True.intro | with_reducible refine And.intro ?_ ?_ | with_reducible intro _ | (((with_reducible refine isCall ?_); first | refine call_b (c4) rfl ?_ ?_ | refine call_d (c4) rfl ?_ | refine call_sb (c4) rfl ?_ ?_ | refine call_s (c4) rfl rfl ?_) <;> try (simp -implicitDefEqProofs only [go_sem, logD_eq, logC_eq, hi, eq_true hlen, hne, hlb])) | (((with_reducible refine vc_b ?_ ?_) <;> intro _) <;> try (simp -implicitDefEqProofs only [go_sem, logD_eq, logC_eq, hi, eq_true hlen, hne, hlb])) | simp (disch := omega) only [wrapI, wrapU, shl1, shl1', shl1'', shrN, shrN', and_one] | ((with_reducible refine isEx2 ?_); refine ⟨(_, _), rfl, ?_, ?_⟩) | ((with_reducible refine isEx ?_); refine ⟨_, rfl, ?_, ?_⟩)
          all_goals (try omega)
          refine pw_loopS (α := Int × (List Int)) (l0 := ?l2) (m0 := ?m2) (fun x => [(11, .d (.int .i64 x.1))]) (fun x => [(36, .row 3 1 false (ints x.2))]) (fun x => (0 ≤ x.1 ∧ x.1 ≤ ks.length) ∧ x.2 = repN ks home x.1.toNat) (fun x => (ks.length - x.1).toNat) (?a2_0, ?a2_1) ?h02 ?he2 ?he22 ?hI2 ?step2
          case h02 => (simp -implicitDefEqProofs only [go_sem, recsD_len]; rfl)
          case he2 => rfl
          case he22 => rfl
          case' step2 => (rintro ⟨k, cur⟩ hI2; try dsimp only at hI2)
          case' hI2 => try dsimp only
          · exact ⟨⟨by omega, by omega⟩, rfl⟩
          · obtain ⟨⟨p1, p2⟩, p3⟩ := hI2
            have hcl := repN_len ks home k.toNat
            rw [← p3] at hcl
            by_cases hk : k < ks.length
            · obtain ⟨r, hr, r1, r2, r3, r4⟩ := hkg k.toNat (by omega)
              have w1 : IntKind.i64.wrap (k + 1) = k + 1 := wrapI _ (by omega)
              have hnx : repN ks home (k + 1).toNat = cur.set r.blk.toNat r.val := by rw [show (k + 1).toNat = k.toNat + 1 by omega, repN, ← p3, hr]
              have hb1 : r.blk < cur.length := by omega
              have hb0 := r3.1
              (try (simp -implicitDefEqProofs only [go_sem, recsD_len, onSome_recs, hr, recD_eq, recC_eq, recsD_unif, w1, hk, hb1, hb0])); repeat' first | with_reducible exact True.intro | with_reducible refine And.intro ?_ ?_ | with_reducible intro _ | (((with_reducible refine vc_b ?_ ?_) <;> intro _) <;> try (simp -implicitDefEqProofs only [go_sem, recsD_len, onSome_recs, hr, recD_eq, recC_eq, recsD_unif, w1, hk, hb1, hb0])) | simp (disch := omega) only [wrapI, wrapU, shl1, shl1', shl1'', shrN, shrN', and_one] | ((with_reducible refine isEx2 ?_); refine ⟨(_, _), rfl, ?_, ?_⟩) | ((with_reducible refine isEx ?_); refine ⟨_, rfl, ?_, ?_⟩)
              all_goals first | omega | exact hnx.symm | exact .inl True.intro
            · have hie : k.toNat = ks.length := by omega
              rw [hie] at p3
              rw [← p3]
              (try (simp -implicitDefEqProofs only [go_sem, recsD_len, hk])); repeat' first | with_reducible exact True.intro | with_reducible refine And.intro ?_ ?_ | with_reducible intro _ | (((with_reducible refine vc_b ?_ ?_) <;> intro _) <;> try (simp -implicitDefEqProofs only [go_sem, recsD_len, hk])) | simp (disch := omega) only [wrapI, wrapU, shl1, shl1', shl1'', shrN, shrN', and_one] | ((with_reducible refine isEx2 ?_); refine ⟨(_, _), rfl, ?_, ?_⟩) | ((with_reducible refine isEx ?_); refine ⟨_, rfl, ?_, ?_⟩)
              all_goals first | omega | rfl | (simp; done)
        · rw [decide_eq_false hlen, if_neg (by simp), if_neg (by simp)]
          (try (simp -implicitDefEqProofs only [go_sem, logC_eq, hi, hlen])); repeat' first | with_reducible exact True.intro | with_reducible refine And.intro ?_ ?_ | with_reducible intro _ | (((with_reducible refine vc_b ?_ ?_) <;> intro _) <;> try (simp -implicitDefEqProofs only [go_sem, logC_eq, hi, hlen])) | simp (disch := omega) only [wrapI, wrapU, shl1, shl1', shl1'', shrN, shrN', and_one] | ((with_reducible refine isEx2 ?_); refine ⟨(_, _), rfl, ?_, ?_⟩) | ((with_reducible refine isEx ?_); refine ⟨_, rfl, ?_, ?_⟩)
          all_goals first | omega | rfl | (simp; done)
  · rw [replayE_open he, if_neg he]
    (try (simp -implicitDefEqProofs only [go_sem, logD_eq, logC_eq, he])); repeat' first | with_reducible exact True.intro | with_reducible refine And.intro ?_ ?_ | with_reducible intro _ | (((with_reducible refine isCall ?_); first | refine call_b (c1) rfl ?_ ?_ | refine call_d (c1) rfl ?_ | refine call_sb (c1) rfl ?_ ?_ | refine call_s (c1) rfl rfl ?_) <;> try (simp -implicitDefEqProofs only [go_sem, logD_eq, logC_eq, he])) | (((with_reducible refine vc_b ?_ ?_) <;> intro _) <;> try (simp -implicitDefEqProofs only [go_sem, logD_eq, logC_eq, he])) | simp (disch := omega) only [wrapI, wrapU, shl1, shl1', shl1'', shrN, shrN', and_one] | ((with_reducible refine isEx2 ?_); refine ⟨(_, _), rfl, ?_, ?_⟩) | ((with_reducible refine isEx ?_); refine ⟨_, rfl, ?_, ?_⟩)
    all_goals first | omega | rfl | (simp; done)
end Go.Pw
