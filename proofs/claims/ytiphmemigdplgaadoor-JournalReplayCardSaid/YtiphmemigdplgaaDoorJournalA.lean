/- A part of the proof. -/
import Derived.Test.YtiphmemigdplgaaDoorJzK
import Derived.Test.YtiphmemigdplgaaDoorJournalSpec
set_option linter.all false
open Go Go.Pw Go.Proofs
namespace Go.Pw
set_option linter.unusedSimpArgs false
set_option linter.unusedVariables false
set_option maxRecDepth 100000
set_option maxHeartbeats 1600000
attribute [local congr] cg_pw cg_seqI cg_seqE cg_stepI cg_ev cg_evBin cg_condB cg_condV cg_thenQ cg_blockQ cg_onSome cg_onCells cg_onRow cg_onMap cg_onOpt cg_ghosts cg_ghost cg_evCall cg_part cg_rng cg_guardV cg_frzV cg_frpV cg_ownV cg_owcV cg_occV cg_occX cg_resK cg_res1 cg_yldP cg_rndE cg_onlyN cg_onHist
attribute [local irreducible] IntKind.wrap bitsOp Option.getD and or

theorem journal_to_ret (n m : Int) : Ret E0 F_journal_to [.int .i64 n, .int .i64 m] (.bool (inZ n 0 m)) := by
  refine ret_of_pw dec_journal_to mixed (by simp) fun hwf => ?_
  rw [enter_eq]; unfold pc_journal_to inZ
  (try (simp -implicitDefEqProofs only [go_sem])); repeat' first | with_reducible exact True.intro | with_reducible refine And.intro ?_ ?_ | with_reducible intro _ | (((with_reducible refine vc_b ?_ ?_) <;> intro _) <;> try (simp -implicitDefEqProofs only [go_sem])) | simp (disch := omega) only [wrapI, wrapU, shl1, shl1', shl1'', shrN, shrN', and_one] 
  all_goals first | omega | (simp_all; done) | (simp_all; omega)

theorem ref16_within_ret (n lo hi : Int) : Ret E0 F_ref16_within [.int .i64 n, .int .i64 lo, .int .i64 hi] (.bool (inZ n lo hi)) := by
  refine ret_of_pw dec_ref16_within mixed (by simp) fun hwf => ?_
  rw [enter_eq]; unfold pc_ref16_within inZ
  (try (simp -implicitDefEqProofs only [go_sem])); repeat' first | with_reducible exact True.intro | with_reducible refine And.intro ?_ ?_ | with_reducible intro _ | (((with_reducible refine vc_b ?_ ?_) <;> intro _) <;> try (simp -implicitDefEqProofs only [go_sem])) | simp (disch := omega) only [wrapI, wrapU, shl1, shl1', shl1'', shrN, shrN', and_one] 
  all_goals first | omega | (simp_all; done) | (simp_all; omega)

theorem ref16_Empty_ret : Ret E0 F_ref16_Empty [] (recD emptyR) := by
  refine ret_of_pw dec_ref16_Empty mixed (by simp) fun hwf => ?_
  rw [enter_eq]; unfold pc_ref16_Empty
  (try (simp -implicitDefEqProofs only [go_sem])); repeat' first | with_reducible exact True.intro | with_reducible refine And.intro ?_ ?_ | with_reducible intro _ | (((with_reducible refine vc_b ?_ ?_) <;> intro _) <;> try (simp -implicitDefEqProofs only [go_sem])) | simp (disch := omega) only [wrapI, wrapU, shl1, shl1', shl1'', shrN, shrN', and_one] 
  all_goals rfl
theorem ref16_Torn_ret : Ret E0 F_ref16_Torn [] (recD badR) := by
  refine ret_of_pw dec_ref16_Torn mixed (by simp) fun hwf => ?_
  rw [enter_eq]; unfold pc_ref16_Torn
  (try (simp -implicitDefEqProofs only [go_sem])); repeat' first | with_reducible exact True.intro | with_reducible refine And.intro ?_ ?_ | with_reducible intro _ | (((with_reducible refine vc_b ?_ ?_) <;> intro _) <;> try (simp -implicitDefEqProofs only [go_sem])) | simp (disch := omega) only [wrapI, wrapU, shl1, shl1', shl1'', shrN, shrN', and_one] 
  all_goals rfl
theorem ref16_Has_ret (r : GRec) : Ret E0 F_ref16_Has [recD r] (.bool (!r.bad && decide (0 ≤ r.num))) := by
  refine ret_of_pw dec_ref16_Has mixed (by simp) fun hwf => ?_
  rw [enter_eq]; unfold pc_ref16_Has
  cases hb : r.bad with
  | true =>
    (try (simp -implicitDefEqProofs only [go_sem, recD_eq, recC_eq, hb])); repeat' first | with_reducible exact True.intro | with_reducible refine And.intro ?_ ?_ | with_reducible intro _ | (((with_reducible refine vc_b ?_ ?_) <;> intro _) <;> try (simp -implicitDefEqProofs only [go_sem, recD_eq, recC_eq, hb])) | simp (disch := omega) only [wrapI, wrapU, shl1, shl1', shl1'', shrN, shrN', and_one] 
    all_goals first | rfl | simp
  | false =>
    by_cases h0 : 0 ≤ r.num
    · (try (simp -implicitDefEqProofs only [go_sem, recD_eq, recC_eq, hb, h0])); repeat' first | with_reducible exact True.intro | with_reducible refine And.intro ?_ ?_ | with_reducible intro _ | (((with_reducible refine vc_b ?_ ?_) <;> intro _) <;> try (simp -implicitDefEqProofs only [go_sem, recD_eq, recC_eq, hb, h0])) | simp (disch := omega) only [wrapI, wrapU, shl1, shl1', shl1'', shrN, shrN', and_one] 
      all_goals first | rfl | (simp [h0])
    · (try (simp -implicitDefEqProofs only [go_sem, recD_eq, recC_eq, hb, h0])); repeat' first | with_reducible exact True.intro | with_reducible refine And.intro ?_ ?_ | with_reducible intro _ | (((with_reducible refine vc_b ?_ ?_) <;> intro _) <;> try (simp -implicitDefEqProofs only [go_sem, recD_eq, recC_eq, hb, h0])) | simp (disch := omega) only [wrapI, wrapU, shl1, shl1', shl1'', shrN, shrN', and_one] 
      all_goals first | rfl | (simp [h0])

theorem newN_next (s : List GRec) (i : Int) (h : 0 ≤ i) : newN s (i + 1).toNat = if !(s[i.toNat]?.getD default).bad && decide ((newN s i.toNat).num < (s[i.toNat]?.getD default).num) then s[i.toNat]?.getD default else newN s i.toNat := by
  rw [show (i + 1).toNat = i.toNat + 1 by omega, newN]

theorem journal_newest_ret (l : GLog) : Ret E0 F_journal_log_newest [.ptr (logC l)] (recD l.newest) := by
  refine ret_of_pw dec_journal_log_newest mixed (by simp) fun hwf => ?_
  simp only [wf_int, wf_bool, wf_ints, wf_list, wf_agg, wf_ptr, wf_fn, wf_tup, wf_all_cons, wf_all_nil, wf_all_map, inK_i64, maxLen_eq, List.length_map, ints_len, true_and, and_true, logC_eq, recsD_len, zpsD_len] at hwf
  rw [enter_eq]; unfold pc_journal_log_newest GLog.newest
  (try (simp -implicitDefEqProofs only [go_sem, logC_eq])); repeat' first | with_reducible exact True.intro | with_reducible refine And.intro ?_ ?_ | with_reducible intro _ | (((with_reducible refine vc_b ?_ ?_) <;> intro _) <;> try (simp -implicitDefEqProofs only [go_sem, logC_eq])) | simp (disch := omega) only [wrapI, wrapU, shl1, shl1', shl1'', shrN, shrN', and_one] | ((with_reducible refine isEx6 ?_); refine ⟨(_, _, _, _, _, _), rfl, ?_, ?_⟩)
  all_goals first | omega | (simp; done) | (simp; omega) | skip
  refine pw_loopS (α := Int × Int × Int × Int × Int × Bool) (l0 := ?l1) (m0 := ?m1) (fun x => [(13, .d (.int .i64 x.1))]) (fun x => [(3, .cells [.d (.int .i64 x.2.1), .d (.int .i64 x.2.2.1), .d (.int .i64 x.2.2.2.1), .d (.int .i64 x.2.2.2.2.1), .d (.bool x.2.2.2.2.2)])]) (fun x => (0 ≤ x.1 ∧ x.1 ≤ l.slots.length) ∧ newN l.slots x.1.toNat = ⟨x.2.1, x.2.2.1, x.2.2.2.1, x.2.2.2.2.1, x.2.2.2.2.2⟩) (fun x => (l.slots.length - x.1).toNat) (?a1_0, ?a1_1, ?a1_2, ?a1_3, ?a1_4, ?a1_5) ?h01 ?he1 ?he21 ?hI1 ?step1
  case h01 => (simp -implicitDefEqProofs only [go_sem, recsD_len]; rfl)
  case he1 => rfl
  case he21 => rfl
  case' step1 => (rintro ⟨i, a, b, c, d, e⟩ hI; try dsimp only at hI)
  case' hI1 => try dsimp only
  · exact ⟨⟨by omega, by omega⟩, rfl⟩
  · obtain ⟨⟨h1, h2⟩, h3⟩ := hI
    by_cases hi : i < l.slots.length
    · have w1 : IntKind.i64.wrap (i + 1) = i + 1 := wrapI _ (by omega)
      have hn := newN_next l.slots i h1
      rw [h3] at hn
      obtain ⟨r, hr⟩ : ∃ r, l.slots[i.toNat]?.getD default = r := ⟨_, rfl⟩
      rw [hr] at hn
      cases hb : r.bad with
      | true =>
        rw [hb] at hn
        simp only [Bool.not_true, Bool.false_and, Bool.false_eq_true, if_false] at hn
        (try (simp -implicitDefEqProofs only [go_sem, recsD_len, onSome_recs, hr, recD_eq, recC_eq, recsD_unif, hb, w1])); repeat' first | with_reducible exact True.intro | with_reducible refine And.intro ?_ ?_ | with_reducible intro _ | (((with_reducible refine vc_b ?_ ?_) <;> intro _) <;> try (simp -implicitDefEqProofs only [go_sem, recsD_len, onSome_recs, hr, recD_eq, recC_eq, recsD_unif, hb, w1])) | simp (disch := omega) only [wrapI, wrapU, shl1, shl1', shl1'', shrN, shrN', and_one] | ((with_reducible refine isEx6 ?_); refine ⟨(_, _, _, _, _, _), rfl, ?_, ?_⟩)
        all_goals first | omega | exact hn | skip
      | false =>
        rw [hb] at hn
        by_cases hlt : a < r.num
        · simp only [Bool.not_false, Bool.true_and, decide_eq_true hlt, if_true] at hn
          (try (simp -implicitDefEqProofs only [go_sem, recsD_len, onSome_recs, hr, recD_eq, recC_eq, recsD_unif, hb, w1, hlt])); repeat' first | with_reducible exact True.intro | with_reducible refine And.intro ?_ ?_ | with_reducible intro _ | (((with_reducible refine vc_b ?_ ?_) <;> intro _) <;> try (simp -implicitDefEqProofs only [go_sem, recsD_len, onSome_recs, hr, recD_eq, recC_eq, recsD_unif, hb, w1, hlt])) | simp (disch := omega) only [wrapI, wrapU, shl1, shl1', shl1'', shrN, shrN', and_one] | ((with_reducible refine isEx6 ?_); refine ⟨(_, _, _, _, _, _), rfl, ?_, ?_⟩)
          all_goals first | omega | (rw [hn, ← hb]) | skip
        · simp only [Bool.not_false, Bool.true_and, decide_eq_false hlt, Bool.false_eq_true, if_false] at hn
          (try (simp -implicitDefEqProofs only [go_sem, recsD_len, onSome_recs, hr, recD_eq, recC_eq, recsD_unif, hb, w1, hlt])); repeat' first | with_reducible exact True.intro | with_reducible refine And.intro ?_ ?_ | with_reducible intro _ | (((with_reducible refine vc_b ?_ ?_) <;> intro _) <;> try (simp -implicitDefEqProofs only [go_sem, recsD_len, onSome_recs, hr, recD_eq, recC_eq, recsD_unif, hb, w1, hlt])) | simp (disch := omega) only [wrapI, wrapU, shl1, shl1', shl1'', shrN, shrN', and_one] | ((with_reducible refine isEx6 ?_); refine ⟨(_, _, _, _, _, _), rfl, ?_, ?_⟩)
          all_goals first | omega | exact hn | skip
    · have hie : i.toNat = l.slots.length := by omega
      rw [hie] at h3
      rw [h3]
      (try (simp -implicitDefEqProofs only [go_sem, recsD_len, hi, recD_eq, recC_eq])); repeat' first | with_reducible exact True.intro | with_reducible refine And.intro ?_ ?_ | with_reducible intro _ | (((with_reducible refine vc_b ?_ ?_) <;> intro _) <;> try (simp -implicitDefEqProofs only [go_sem, recsD_len, hi, recD_eq, recC_eq])) | simp (disch := omega) only [wrapI, wrapU, shl1, shl1', shl1'', shrN, shrN', and_one] | ((with_reducible refine isEx6 ?_); refine ⟨(_, _, _, _, _, _), rfl, ?_, ?_⟩)
      all_goals first | omega | (simp; done) | (simp; omega) | skip
end Go.Pw
