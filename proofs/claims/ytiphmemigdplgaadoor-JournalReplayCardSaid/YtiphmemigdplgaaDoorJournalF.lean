/- A part of the proof. -/
import Derived.Test.YtiphmemigdplgaaDoorJournalE
set_option linter.all false
open Go Go.Pw Go.Proofs
namespace Go.Pw
set_option linter.unusedSimpArgs false
set_option linter.unusedVariables false
set_option maxRecDepth 100000
set_option maxHeartbeats 3200000
def GLog.recE (l : GLog) : List GRec := if l.openE = 0 then l.kept else []
def GLog.room (l : GLog) : Int := if l.openE = 0 then l.newest.tail + l.slots.length - l.newest.num - 1 else 0
theorem openE_0 {l : GLog} (h : l.openE = 0) : l.check = 0 ∧ l.full = true := by
  unfold GLog.openE at h
  by_cases hc : l.check = 0
  · refine ⟨hc, ?_⟩
    rw [if_neg (by simpa using hc)] at h
    cases hf : l.full with
    | true => rfl
    | false => rw [hf] at h; simp at h
  · rw [if_pos hc] at h; exact absurd h hc
theorem keptA_full {l : GLog} (h : l.full = true) : l.keptA = l.kept := by unfold GLog.keptA; rw [h]; rfl
attribute [local congr] cg_pw cg_seqI cg_seqE cg_stepI cg_ev cg_evBin cg_condB cg_condV cg_thenQ cg_blockQ cg_onSome cg_onCells cg_onRow cg_onMap cg_onOpt cg_ghosts cg_ghost cg_evCall cg_part cg_rng cg_guardV cg_frzV cg_frpV cg_ownV cg_owcV cg_occV cg_occX cg_resK cg_res1 cg_yldP cg_rndE cg_onlyN cg_onHist
attribute [local irreducible] IntKind.wrap bitsOp Option.getD and or

theorem journal_Recover_ret (l : GLog) (hs : l.sn = true → l.slots = []) (hz : l.disk.zn = true → l.disk.zones = []) : Ret E0 F_journal_Recover [logD l] (.tup [.list l.recE.isEmpty (recsD l.recE), .int .i64 l.openE]) := by
  refine ret_of_pw dec_journal_Recover mixed (by simp) fun hwf => ?_
  have c1 := journal_open_ret l hs hz
  rw [enter_eq]; unfold pc_journal_Recover GLog.recE
  unfold openR at c1
  by_cases he : l.openE = 0
  · obtain ⟨h1, h2⟩ := openE_0 he
    have c2 := journal_kept_ret l.cp (cp_good (check_good h1))
    rw [cp_full, cp_keptA, h2, keptA_full h2] at c2
    rw [if_pos he] at c1
    rw [if_pos he]
    rw [he] at c1 ⊢
    (try (simp -implicitDefEqProofs only [go_sem, logD_eq, logC_eq, GLog.cp])); repeat' first | with_reducible exact True.intro | with_reducible refine And.intro ?_ ?_ | with_reducible intro _ | (((with_reducible refine isCall ?_); first | refine call_b (c1) rfl ?_ ?_ | refine call_d (c1) rfl ?_ | refine call_sb (c1) rfl ?_ ?_ | refine call_s (c1) rfl rfl ?_ | refine call_b (c2) rfl ?_ ?_ | refine call_d (c2) rfl ?_ | refine call_sb (c2) rfl ?_ ?_ | refine call_s (c2) rfl rfl ?_) <;> try (simp -implicitDefEqProofs only [go_sem, logD_eq, logC_eq, GLog.cp])) | (((with_reducible refine vc_b ?_ ?_) <;> intro _) <;> try (simp -implicitDefEqProofs only [go_sem, logD_eq, logC_eq, GLog.cp])) | simp (disch := omega) only [wrapI, wrapU, shl1, shl1', shl1'', shrN, shrN', and_one] 
    all_goals first | omega | rfl | (simp; done)
  · rw [if_neg he] at c1
    rw [if_neg he]
    (try (simp -implicitDefEqProofs only [go_sem, logD_eq, logC_eq, he, recsD_nil])); repeat' first | with_reducible exact True.intro | with_reducible refine And.intro ?_ ?_ | with_reducible intro _ | (((with_reducible refine isCall ?_); first | refine call_b (c1) rfl ?_ ?_ | refine call_d (c1) rfl ?_ | refine call_sb (c1) rfl ?_ ?_ | refine call_s (c1) rfl rfl ?_) <;> try (simp -implicitDefEqProofs only [go_sem, logD_eq, logC_eq, he, recsD_nil])) | (((with_reducible refine vc_b ?_ ?_) <;> intro _) <;> try (simp -implicitDefEqProofs only [go_sem, logD_eq, logC_eq, he, recsD_nil])) | simp (disch := omega) only [wrapI, wrapU, shl1, shl1', shl1'', shrN, shrN', and_one] 
    all_goals first | omega | rfl | (simp; done)

theorem journal_limit_ret (l : GLog) (g : l.Good) : Ret E0 F_journal_log_limit [.ptr (logC l)] (.int .i64 (l.newest.tail + l.slots.length)) := by
  refine ret_of_pw dec_journal_log_limit mixed (by simp) fun hwf => ?_
  have c1 := journal_newest_ret l
  obtain ⟨n1, n2, n3⟩ := newest_good g
  have m1 := g.m1; have m2 := g.m2
  obtain ⟨⟨na, nb, nc, nd, ne⟩, hR⟩ : ∃ R, l.newest = R := ⟨_, rfl⟩
  rw [hR] at c1 n2 n3 ⊢
  rw [recD_eq, recC_eq] at c1
  have w1 : IntKind.i64.wrap (nd + l.slots.length) = nd + l.slots.length := wrapI _ (by simp only at n2 n3; omega)
  rw [enter_eq]; unfold pc_journal_log_limit
  (try (simp -implicitDefEqProofs only [go_sem, logC_eq, recsD_len, w1])); repeat' first | with_reducible exact True.intro | with_reducible refine And.intro ?_ ?_ | with_reducible intro _ | (((with_reducible refine isCall ?_); first | refine call_b (c1) rfl ?_ ?_ | refine call_d (c1) rfl ?_ | refine call_sb (c1) rfl ?_ ?_ | refine call_s (c1) rfl rfl ?_) <;> try (simp -implicitDefEqProofs only [go_sem, logC_eq, recsD_len, w1])) | (((with_reducible refine vc_b ?_ ?_) <;> intro _) <;> try (simp -implicitDefEqProofs only [go_sem, logC_eq, recsD_len, w1])) | simp (disch := omega) only [wrapI, wrapU, shl1, shl1', shl1'', shrN, shrN', and_one] 
  all_goals first | omega | rfl | (simp; done)

theorem journal_Room_ret (l : GLog) (hs : l.sn = true → l.slots = []) (hz : l.disk.zn = true → l.disk.zones = []) : Ret E0 F_journal_Room [logD l] (.tup [.int .i64 l.room, .int .i64 l.openE]) := by
  refine ret_of_pw dec_journal_Room mixed (by simp) fun hwf => ?_
  have c1 := journal_open_ret l hs hz
  rw [enter_eq]; unfold pc_journal_Room GLog.room
  unfold openR at c1
  by_cases he : l.openE = 0
  · obtain ⟨h1, h2⟩ := openE_0 he
    have g := cp_good (check_good h1)
    have c2 := journal_limit_ret l.cp g
    have c3 := journal_newest_ret l.cp
    obtain ⟨n1, n2, n3⟩ := newest_good g
    have m1 := g.m1; have m2 := g.m2
    rw [cp_newest] at c2 c3 n2 n3
    obtain ⟨⟨na, nb, nc, nd, ne⟩, hR⟩ : ∃ R, l.newest = R := ⟨_, rfl⟩
    rw [hR] at c2 c3 n2 n3 ⊢
    rw [recD_eq, recC_eq] at c3
    have e1 : l.cp.slots.length = l.slots.length := rfl
    rw [e1] at c2 m1 m2
    simp only at n2 n3 c2
    have w1 : IntKind.i64.wrap (nd + l.slots.length - na) = nd + l.slots.length - na := wrapI _ (by omega)
    have w2 : IntKind.i64.wrap (nd + l.slots.length - na - 1) = nd + l.slots.length - na - 1 := wrapI _ (by omega)
    rw [if_pos he] at c1
    rw [if_pos he]
    rw [he] at c1 ⊢
    (try (simp -implicitDefEqProofs only [go_sem, logD_eq, logC_eq, GLog.cp, w1, w2])); repeat' first | with_reducible exact True.intro | with_reducible refine And.intro ?_ ?_ | with_reducible intro _ | (((with_reducible refine isCall ?_); first | refine call_b (c1) rfl ?_ ?_ | refine call_d (c1) rfl ?_ | refine call_sb (c1) rfl ?_ ?_ | refine call_s (c1) rfl rfl ?_ | refine call_b (c2) rfl ?_ ?_ | refine call_d (c2) rfl ?_ | refine call_sb (c2) rfl ?_ ?_ | refine call_s (c2) rfl rfl ?_ | refine call_b (c3) rfl ?_ ?_ | refine call_d (c3) rfl ?_ | refine call_sb (c3) rfl ?_ ?_ | refine call_s (c3) rfl rfl ?_) <;> try (simp -implicitDefEqProofs only [go_sem, logD_eq, logC_eq, GLog.cp, w1, w2])) | (((with_reducible refine vc_b ?_ ?_) <;> intro _) <;> try (simp -implicitDefEqProofs only [go_sem, logD_eq, logC_eq, GLog.cp, w1, w2])) | simp (disch := omega) only [wrapI, wrapU, shl1, shl1', shl1'', shrN, shrN', and_one] 
    all_goals first | omega | rfl | (simp; done)
  · rw [if_neg he] at c1
    rw [if_neg he]
    (try (simp -implicitDefEqProofs only [go_sem, logD_eq, logC_eq, he])); repeat' first | with_reducible exact True.intro | with_reducible refine And.intro ?_ ?_ | with_reducible intro _ | (((with_reducible refine isCall ?_); first | refine call_b (c1) rfl ?_ ?_ | refine call_d (c1) rfl ?_ | refine call_sb (c1) rfl ?_ ?_ | refine call_s (c1) rfl rfl ?_) <;> try (simp -implicitDefEqProofs only [go_sem, logD_eq, logC_eq, he])) | (((with_reducible refine vc_b ?_ ?_) <;> intro _) <;> try (simp -implicitDefEqProofs only [go_sem, logD_eq, logC_eq, he])) | simp (disch := omega) only [wrapI, wrapU, shl1, shl1', shl1'', shrN, shrN', and_one] 
    all_goals first | omega | rfl | (simp; done)

theorem ref16_Newest_ret (l : GLog) : Ret E0 F_ref16_Newest [logD l] (.tup [.int .i64 l.newest.num, .int .i64 l.newest.tail]) := by
  refine ret_of_pw dec_ref16_Newest mixed (by simp) fun hwf => ?_
  simp only [wf_int, wf_bool, wf_ints, wf_list, wf_agg, wf_ptr, wf_fn, wf_tup, wf_all_cons, wf_all_nil, wf_all_map, inK_i64, maxLen_eq, List.length_map, ints_len, true_and, and_true, logD_eq, logC_eq, recsD_len, zpsD_len] at hwf
  rw [enter_eq]; unfold pc_ref16_Newest GLog.newest
  have c1 := fun r => ref16_Has_ret r
  (try (simp -implicitDefEqProofs only [go_sem, logD_eq, logC_eq])); repeat' first | with_reducible exact True.intro | with_reducible refine And.intro ?_ ?_ | with_reducible intro _ | (((with_reducible refine vc_b ?_ ?_) <;> intro _) <;> try (simp -implicitDefEqProofs only [go_sem, logD_eq, logC_eq])) | simp (disch := omega) only [wrapI, wrapU, shl1, shl1', shl1'', shrN, shrN', and_one] | ((with_reducible refine isEx3 ?_); refine ⟨(_, _, _), rfl, ?_, ?_⟩)
  all_goals first | omega | (simp; done) | (simp; omega) | skip
  refine pw_loopS (α := Int × Int × Int) (l0 := ?l1) (m0 := ?m1) (fun x => [(4, .d (.int .i64 x.1)), (2, .d (.int .i64 x.2.1)), (3, .d (.int .i64 x.2.2))]) (fun x => []) (fun x => (0 ≤ x.1 ∧ x.1 ≤ l.slots.length) ∧ (newN l.slots x.1.toNat).num = x.2.1 ∧ (newN l.slots x.1.toNat).tail = x.2.2) (fun x => (l.slots.length - x.1).toNat) (?a1_0, ?a1_1, ?a1_2) ?h01 ?he1 ?he21 ?hI1 ?step1
  case h01 => (simp -implicitDefEqProofs only [go_sem, recsD_len, logC_eq]; rfl)
  case he1 => rfl
  case he21 => rfl
  case' step1 => (rintro ⟨i, a, d⟩ hI; try dsimp only at hI)
  case' hI1 => try dsimp only
  · exact ⟨⟨by omega, by omega⟩, rfl, rfl⟩
  · obtain ⟨⟨h1, h2⟩, h3, h4⟩ := hI
    by_cases hi : i < l.slots.length
    · have w1 : IntKind.i64.wrap (i + 1) = i + 1 := wrapI _ (by omega)
      have hn := newN_next l.slots i h1
      have hge := newN_ge l.slots i.toNat
      rw [h3] at hn hge
      have c2 := c1 (l.slots[i.toNat]?.getD default)
      obtain ⟨r, hr⟩ : ∃ r, l.slots[i.toNat]?.getD default = r := ⟨_, rfl⟩
      rw [hr] at hn c2
      rw [recD_eq, recC_eq] at c2
      cases hb : r.bad with
      | true =>
        rw [hb] at hn c2
        simp only [Bool.not_true, Bool.false_and, Bool.false_eq_true, if_false] at hn c2
        have f3 : (newN l.slots (i + 1).toNat).num = a := by rw [hn, h3]
        have f4 : (newN l.slots (i + 1).toNat).tail = d := by rw [hn, h4]
        (try (simp -implicitDefEqProofs only [go_sem, recsD_len, onSome_recs, hr, recD_eq, recC_eq, recsD_unif, hb, w1, logC_eq, hi])); repeat' first | with_reducible exact True.intro | with_reducible refine And.intro ?_ ?_ | with_reducible intro _ | (((with_reducible refine isCall ?_); first | refine call_b (c2) rfl ?_ ?_ | refine call_d (c2) rfl ?_ | refine call_sb (c2) rfl ?_ ?_ | refine call_s (c2) rfl rfl ?_) <;> try (simp -implicitDefEqProofs only [go_sem, recsD_len, onSome_recs, hr, recD_eq, recC_eq, recsD_unif, hb, w1, logC_eq, hi])) | (((with_reducible refine vc_b ?_ ?_) <;> intro _) <;> try (simp -implicitDefEqProofs only [go_sem, recsD_len, onSome_recs, hr, recD_eq, recC_eq, recsD_unif, hb, w1, logC_eq, hi])) | simp (disch := omega) only [wrapI, wrapU, shl1, shl1', shl1'', shrN, shrN', and_one] | ((with_reducible refine isEx3 ?_); refine ⟨(_, _, _), rfl, ?_, ?_⟩)
        all_goals first | omega
      | false =>
        rw [hb] at hn c2
        by_cases hlt : a < r.num
        · have hz : 0 ≤ r.num := by omega
          simp only [Bool.not_false, Bool.true_and, decide_eq_true hlt, decide_eq_true hz, if_true] at hn c2
          have f3 : (newN l.slots (i + 1).toNat).num = r.num := by rw [hn]
          have f4 : (newN l.slots (i + 1).toNat).tail = r.tail := by rw [hn]
          (try (simp -implicitDefEqProofs only [go_sem, recsD_len, onSome_recs, hr, recD_eq, recC_eq, recsD_unif, hb, w1, hlt, logC_eq, hi])); repeat' first | with_reducible exact True.intro | with_reducible refine And.intro ?_ ?_ | with_reducible intro _ | (((with_reducible refine isCall ?_); first | refine call_b (c2) rfl ?_ ?_ | refine call_d (c2) rfl ?_ | refine call_sb (c2) rfl ?_ ?_ | refine call_s (c2) rfl rfl ?_) <;> try (simp -implicitDefEqProofs only [go_sem, recsD_len, onSome_recs, hr, recD_eq, recC_eq, recsD_unif, hb, w1, hlt, logC_eq, hi])) | (((with_reducible refine vc_b ?_ ?_) <;> intro _) <;> try (simp -implicitDefEqProofs only [go_sem, recsD_len, onSome_recs, hr, recD_eq, recC_eq, recsD_unif, hb, w1, hlt, logC_eq, hi])) | simp (disch := omega) only [wrapI, wrapU, shl1, shl1', shl1'', shrN, shrN', and_one] | ((with_reducible refine isEx3 ?_); refine ⟨(_, _, _), rfl, ?_, ?_⟩)
          all_goals first | omega
        · simp only [Bool.not_false, Bool.true_and, decide_eq_false hlt, Bool.false_eq_true, if_false] at hn c2
          have f3 : (newN l.slots (i + 1).toNat).num = a := by rw [hn, h3]
          have f4 : (newN l.slots (i + 1).toNat).tail = d := by rw [hn, h4]
          (try (simp -implicitDefEqProofs only [go_sem, recsD_len, onSome_recs, hr, recD_eq, recC_eq, recsD_unif, hb, w1, hlt, logC_eq, hi])); repeat' first | with_reducible exact True.intro | with_reducible refine And.intro ?_ ?_ | with_reducible intro _ | (((with_reducible refine isCall ?_); first | refine call_b (c2) rfl ?_ ?_ | refine call_d (c2) rfl ?_ | refine call_sb (c2) rfl ?_ ?_ | refine call_s (c2) rfl rfl ?_) <;> try (simp -implicitDefEqProofs only [go_sem, recsD_len, onSome_recs, hr, recD_eq, recC_eq, recsD_unif, hb, w1, hlt, logC_eq, hi])) | (((with_reducible refine vc_b ?_ ?_) <;> intro _) <;> try (simp -implicitDefEqProofs only [go_sem, recsD_len, onSome_recs, hr, recD_eq, recC_eq, recsD_unif, hb, w1, hlt, logC_eq, hi])) | simp (disch := omega) only [wrapI, wrapU, shl1, shl1', shl1'', shrN, shrN', and_one] | ((with_reducible refine isEx3 ?_); refine ⟨(_, _, _), rfl, ?_, ?_⟩)
          all_goals first | omega
    · have hie : i.toNat = l.slots.length := by omega
      rw [hie] at h3 h4
      rw [h3, h4]
      (try (simp -implicitDefEqProofs only [go_sem, recsD_len, hi, logC_eq])); repeat' first | with_reducible exact True.intro | with_reducible refine And.intro ?_ ?_ | with_reducible intro _ | (((with_reducible refine vc_b ?_ ?_) <;> intro _) <;> try (simp -implicitDefEqProofs only [go_sem, recsD_len, hi, logC_eq])) | simp (disch := omega) only [wrapI, wrapU, shl1, shl1', shl1'', shrN, shrN', and_one] | ((with_reducible refine isEx3 ?_); refine ⟨(_, _, _), rfl, ?_, ?_⟩)
      all_goals first | omega | (simp; done) | (simp; omega) | skip
end Go.Pw
