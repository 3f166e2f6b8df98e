/- A part of the proof. -/
import Derived.Test.YtiphmemigdplgaaDoorPgJzC
import Derived.Test.YtiphmemigdplgaaDoorPgZonesSpec
set_option linter.all false
section
open Go Go.Pw Go.Proofs
namespace Go.Pw
set_option linter.unusedSimpArgs false
set_option linter.unusedVariables false
set_option maxRecDepth 100000
set_option maxHeartbeats 1600000
attribute [local congr] cg_pw cg_seqI cg_seqE cg_stepI cg_ev cg_evBin cg_condB cg_condV cg_thenQ cg_blockQ cg_onSome cg_onCells cg_onRow cg_onMap cg_onOpt cg_ghosts cg_ghost cg_evCall cg_part cg_rng cg_guardV cg_frzV cg_frpV cg_ownV cg_owcV cg_occV cg_occX cg_resK cg_res1 cg_yldP cg_rndE cg_onlyN cg_onHist
attribute [local irreducible] IntKind.wrap bitsOp Option.getD and or

theorem journal_to_ret (n m : Int) : Ret E0 F_journal_to [.int .i64 n, .int .i64 m] (.bool (inZ n 0 m)) := by
  refine ret_of_pw dec_journal_to mixed (by simp) fun hwf => ?_
  rw [enter_eq]; unfold pc_journal_to inZ
  (try (simp -implicitDefEqProofs only [go_sem])); repeat' first | with_reducible exact True.intro | with_reducible refine And.intro ?_ ?_ | with_reducible intro _ | (((with_reducible refine vc_b ?_ ?_) <;> intro _) <;> try (simp -implicitDefEqProofs only [go_sem])) | simp (disch := omega) only [wrapI, wrapU, shl1, shl1', shl1'', shrN, shrN', and_one] 
  all_goals first | omega | (simp_all; done) | (simp_all; omega)

theorem ref16_within_ret (n lo hi : Int) : Ret E0 F_ref16_within [.int .i64 n, .int .i64 lo, .int .i64 hi] (.bool (inZ n lo hi)) := by
  refine ret_of_pw dec_ref16_within mixed (by simp) fun hwf => ?_
  rw [enter_eq]; unfold pc_ref16_within inZ
  (try (simp -implicitDefEqProofs only [go_sem])); repeat' first | with_reducible exact True.intro | with_reducible refine And.intro ?_ ?_ | with_reducible intro _ | (((with_reducible refine vc_b ?_ ?_) <;> intro _) <;> try (simp -implicitDefEqProofs only [go_sem])) | simp (disch := omega) only [wrapI, wrapU, shl1, shl1', shl1'', shrN, shrN', and_one] 
  all_goals first | omega | (simp_all; done) | (simp_all; omega)

theorem ref16_Empty_ret : Ret E0 F_ref16_Empty [] (recD emptyR) := by
  refine ret_of_pw dec_ref16_Empty mixed (by simp) fun hwf => ?_
  rw [enter_eq]; unfold pc_ref16_Empty
  (try (simp -implicitDefEqProofs only [go_sem])); repeat' first | with_reducible exact True.intro | with_reducible refine And.intro ?_ ?_ | with_reducible intro _ | (((with_reducible refine vc_b ?_ ?_) <;> intro _) <;> try (simp -implicitDefEqProofs only [go_sem])) | simp (disch := omega) only [wrapI, wrapU, shl1, shl1', shl1'', shrN, shrN', and_one] 
  all_goals rfl
theorem ref16_Torn_ret : Ret E0 F_ref16_Torn [] (recD badR) := by
  refine ret_of_pw dec_ref16_Torn mixed (by simp) fun hwf => ?_
  rw [enter_eq]; unfold pc_ref16_Torn
  (try (simp -implicitDefEqProofs only [go_sem])); repeat' first | with_reducible exact True.intro | with_reducible refine And.intro ?_ ?_ | with_reducible intro _ | (((with_reducible refine vc_b ?_ ?_) <;> intro _) <;> try (simp -implicitDefEqProofs only [go_sem])) | simp (disch := omega) only [wrapI, wrapU, shl1, shl1', shl1'', shrN, shrN', and_one] 
  all_goals rfl
theorem ref16_Has_ret (r : GRec) : Ret E0 F_ref16_Has [recD r] (.bool (!r.bad && decide (0 ≤ r.num))) := by
  refine ret_of_pw dec_ref16_Has mixed (by simp) fun hwf => ?_
  rw [enter_eq]; unfold pc_ref16_Has
  cases hb : r.bad with
  | true =>
    (try (simp -implicitDefEqProofs only [go_sem, recD_eq, recC_eq, hb])); repeat' first | with_reducible exact True.intro | with_reducible refine And.intro ?_ ?_ | with_reducible intro _ | (((with_reducible refine vc_b ?_ ?_) <;> intro _) <;> try (simp -implicitDefEqProofs only [go_sem, recD_eq, recC_eq, hb])) | simp (disch := omega) only [wrapI, wrapU, shl1, shl1', shl1'', shrN, shrN', and_one] 
    all_goals first | rfl | simp
  | false =>
    by_cases h0 : 0 ≤ r.num
    · (try (simp -implicitDefEqProofs only [go_sem, recD_eq, recC_eq, hb, h0])); repeat' first | with_reducible exact True.intro | with_reducible refine And.intro ?_ ?_ | with_reducible intro _ | (((with_reducible refine vc_b ?_ ?_) <;> intro _) <;> try (simp -implicitDefEqProofs only [go_sem, recD_eq, recC_eq, hb, h0])) | simp (disch := omega) only [wrapI, wrapU, shl1, shl1', shl1'', shrN, shrN', and_one] 
      all_goals first | rfl | (simp [h0])
    · (try (simp -implicitDefEqProofs only [go_sem, recD_eq, recC_eq, hb, h0])); repeat' first | with_reducible exact True.intro | with_reducible refine And.intro ?_ ?_ | with_reducible intro _ | (((with_reducible refine vc_b ?_ ?_) <;> intro _) <;> try (simp -implicitDefEqProofs only [go_sem, recD_eq, recC_eq, hb, h0])) | simp (disch := omega) only [wrapI, wrapU, shl1, shl1', shl1'', shrN, shrN', and_one] 
      all_goals first | rfl | (simp [h0])

theorem newN_next (s : List GRec) (i : Int) (h : 0 ≤ i) : newN s (i + 1).toNat = if !(s[i.toNat]?.getD default).bad && decide ((newN s i.toNat).num < (s[i.toNat]?.getD default).num) then s[i.toNat]?.getD default else newN s i.toNat := by
  rw [show (i + 1).toNat = i.toNat + 1 by omega, newN]

theorem journal_newest_ret (l : GLog) : Ret E0 F_journal_log_newest [.ptr (logC l)] (recD l.newest) := by
  refine ret_of_pw dec_journal_log_newest mixed (by simp) fun hwf => ?_
  simp only [wf_int, wf_bool, wf_ints, wf_list, wf_agg, wf_ptr, wf_fn, wf_tup, wf_all_cons, wf_all_nil, wf_all_map, inK_i64, maxLen_eq, List.length_map, ints_len, true_and, and_true, logC_eq, recsD_len, zpsD_len] at hwf
  rw [enter_eq]; unfold pc_journal_log_newest GLog.newest
  (try (simp -implicitDefEqProofs only [go_sem, logC_eq])); repeat' first | with_reducible exact True.intro | with_reducible refine And.intro ?_ ?_ | with_reducible intro _ | (((with_reducible refine vc_b ?_ ?_) <;> intro _) <;> try (simp -implicitDefEqProofs only [go_sem, logC_eq])) | simp (disch := omega) only [wrapI, wrapU, shl1, shl1', shl1'', shrN, shrN', and_one] | ((with_reducible refine isEx6 ?_); refine ⟨(_, _, _, _, _, _), rfl, ?_, ?_⟩)
  all_goals first | omega | (simp; done) | (simp; omega) | skip
  refine pw_loopS (α := Int × Int × Int × Int × Int × Bool) (l0 := ?l1) (m0 := ?m1) (fun x => [(13, .d (.int .i64 x.1))]) (fun x => [(3, .cells [.d (.int .i64 x.2.1), .d (.int .i64 x.2.2.1), .d (.int .i64 x.2.2.2.1), .d (.int .i64 x.2.2.2.2.1), .d (.bool x.2.2.2.2.2)])]) (fun x => (0 ≤ x.1 ∧ x.1 ≤ l.slots.length) ∧ newN l.slots x.1.toNat = ⟨x.2.1, x.2.2.1, x.2.2.2.1, x.2.2.2.2.1, x.2.2.2.2.2⟩) (fun x => (l.slots.length - x.1).toNat) (?a1_0, ?a1_1, ?a1_2, ?a1_3, ?a1_4, ?a1_5) ?h01 ?he1 ?he21 ?hI1 ?step1
  case h01 => (simp -implicitDefEqProofs only [go_sem, recsD_len]; rfl)
  case he1 => rfl
  case he21 => rfl
  case' step1 => (rintro ⟨i, a, b, c, d, e⟩ hI; try dsimp only at hI)
  case' hI1 => try dsimp only
  · exact ⟨⟨by omega, by omega⟩, rfl⟩
  · obtain ⟨⟨h1, h2⟩, h3⟩ := hI
    by_cases hi : i < l.slots.length
    · have w1 : IntKind.i64.wrap (i + 1) = i + 1 := wrapI _ (by omega)
      have hn := newN_next l.slots i h1
      rw [h3] at hn
      obtain ⟨r, hr⟩ : ∃ r, l.slots[i.toNat]?.getD default = r := ⟨_, rfl⟩
      rw [hr] at hn
      cases hb : r.bad with
      | true =>
        rw [hb] at hn
        simp only [Bool.not_true, Bool.false_and, Bool.false_eq_true, if_false] at hn
        (try (simp -implicitDefEqProofs only [go_sem, recsD_len, onSome_recs, hr, recD_eq, recC_eq, recsD_unif, hb, w1])); repeat' first | with_reducible exact True.intro | with_reducible refine And.intro ?_ ?_ | with_reducible intro _ | (((with_reducible refine vc_b ?_ ?_) <;> intro _) <;> try (simp -implicitDefEqProofs only [go_sem, recsD_len, onSome_recs, hr, recD_eq, recC_eq, recsD_unif, hb, w1])) | simp (disch := omega) only [wrapI, wrapU, shl1, shl1', shl1'', shrN, shrN', and_one] | ((with_reducible refine isEx6 ?_); refine ⟨(_, _, _, _, _, _), rfl, ?_, ?_⟩)
        all_goals first | omega | exact hn | skip
      | false =>
        rw [hb] at hn
        by_cases hlt : a < r.num
        · simp only [Bool.not_false, Bool.true_and, decide_eq_true hlt, if_true] at hn
          (try (simp -implicitDefEqProofs only [go_sem, recsD_len, onSome_recs, hr, recD_eq, recC_eq, recsD_unif, hb, w1, hlt])); repeat' first | with_reducible exact True.intro | with_reducible refine And.intro ?_ ?_ | with_reducible intro _ | (((with_reducible refine vc_b ?_ ?_) <;> intro _) <;> try (simp -implicitDefEqProofs only [go_sem, recsD_len, onSome_recs, hr, recD_eq, recC_eq, recsD_unif, hb, w1, hlt])) | simp (disch := omega) only [wrapI, wrapU, shl1, shl1', shl1'', shrN, shrN', and_one] | ((with_reducible refine isEx6 ?_); refine ⟨(_, _, _, _, _, _), rfl, ?_, ?_⟩)
          all_goals first | omega | (rw [hn, ← hb]) | skip
        · simp only [Bool.not_false, Bool.true_and, decide_eq_false hlt, Bool.false_eq_true, if_false] at hn
          (try (simp -implicitDefEqProofs only [go_sem, recsD_len, onSome_recs, hr, recD_eq, recC_eq, recsD_unif, hb, w1, hlt])); repeat' first | with_reducible exact True.intro | with_reducible refine And.intro ?_ ?_ | with_reducible intro _ | (((with_reducible refine vc_b ?_ ?_) <;> intro _) <;> try (simp -implicitDefEqProofs only [go_sem, recsD_len, onSome_recs, hr, recD_eq, recC_eq, recsD_unif, hb, w1, hlt])) | simp (disch := omega) only [wrapI, wrapU, shl1, shl1', shl1'', shrN, shrN', and_one] | ((with_reducible refine isEx6 ?_); refine ⟨(_, _, _, _, _, _), rfl, ?_, ?_⟩)
          all_goals first | omega | exact hn | skip
    · have hie : i.toNat = l.slots.length := by omega
      rw [hie] at h3
      rw [h3]
      (try (simp -implicitDefEqProofs only [go_sem, recsD_len, hi, recD_eq, recC_eq])); repeat' first | with_reducible exact True.intro | with_reducible refine And.intro ?_ ?_ | with_reducible intro _ | (((with_reducible refine vc_b ?_ ?_) <;> intro _) <;> try (simp -implicitDefEqProofs only [go_sem, recsD_len, hi, recD_eq, recC_eq])) | simp (disch := omega) only [wrapI, wrapU, shl1, shl1', shl1'', shrN, shrN', and_one] | ((with_reducible refine isEx6 ?_); refine ⟨(_, _, _, _, _, _), rfl, ?_, ?_⟩)
      all_goals first | omega | (simp; done) | (simp; omega) | skip
end Go.Pw
end
section
open Go Go.Pw Go.Proofs
namespace Go.Pw
set_option linter.unusedSimpArgs false
set_option linter.unusedVariables false
set_option maxRecDepth 100000
set_option maxHeartbeats 3200000
theorem isEmptyR_iff (r : GRec) : isEmptyR r = true ↔ (r.num = -1 ∧ r.blk = 0 ∧ r.val = 0 ∧ r.tail = 0 ∧ r.bad = false) := by
  unfold isEmptyR; simp [and_assoc]
theorem isBadR_iff (r : GRec) : isBadR r = true ↔ (r.num = 0 ∧ r.blk = 0 ∧ r.val = 0 ∧ r.tail = 0 ∧ r.bad = true) := by
  unfold isBadR; simp [and_assoc]
theorem check_bad {l : GLog} (hd : l.disk.ok = true) {i : Int} (h0 : 0 ≤ i ∧ i < l.slots.length) (h : slotOk l.blocks l.slots.length i (l.slots[i.toNat]?.getD default) = false) : l.check = 160 := by
  unfold GLog.check
  rw [hd, allOk_bad (i := i.toNat) (by omega) (by rw [show ((i.toNat : Nat) : Int) = i by omega]; exact h)]
  simp
theorem allOk_next {l : GLog} {i : Int} (h0 : 0 ≤ i) (ha : l.allOk i.toNat = true) (h : slotOk l.blocks l.slots.length i (l.slots[i.toNat]?.getD default) = true) : l.allOk (i + 1).toNat = true := by
  rw [show (i + 1).toNat = i.toNat + 1 by omega, GLog.allOk, ha, show ((i.toNat : Nat) : Int) = i by omega, h]; rfl
theorem slot_empty {b : Int} {m : Nat} {i : Int} {r : GRec} (h : isEmptyR r = true) : slotOk b m i r = true := by unfold slotOk; rw [h, Bool.true_or]
theorem slot_bad {b : Int} {m : Nat} {i : Int} {r : GRec} (h : isBadR r = true) : slotOk b m i r = true := by unfold slotOk; rw [h]; simp
theorem slot_rec {b : Int} {m : Nat} {i : Int} {r : GRec} (h1 : isEmptyR r = false) (h2 : isBadR r = false) : slotOk b m i r = recOk b m i r := by unfold slotOk; rw [h1, h2]; simp
attribute [local congr] cg_pw cg_seqI cg_seqE cg_stepI cg_ev cg_evBin cg_condB cg_condV cg_thenQ cg_blockQ cg_onSome cg_onCells cg_onRow cg_onMap cg_onOpt cg_ghosts cg_ghost cg_evCall cg_part cg_rng cg_guardV cg_frzV cg_frpV cg_ownV cg_owcV cg_occV cg_occX cg_resK cg_res1 cg_yldP cg_rndE cg_onlyN cg_onHist
attribute [local irreducible] IntKind.wrap bitsOp Option.getD and or

theorem journal_Check_ret (l : GLog) : Ret E0 F_journal_Check [logD l] (.int .i64 l.check) := by
  refine ret_of_pw dec_journal_Check mixed (by simp) fun hwf => ?_
  simp only [wf_int, wf_bool, wf_ints, wf_list, wf_agg, wf_ptr, wf_fn, wf_tup, wf_all_cons, wf_all_nil, wf_all_map, inK_i64, maxLen_eq, List.length_map, ints_len, true_and, and_true, logD_eq, logC_eq, zpsD_len, recsD_len] at hwf
  have c1 := zones_Size_ret l.disk
  rw [enter_eq]; unfold pc_journal_Check
  unfold GDisk.check at c1
  cases hd : l.disk.ok with
  | false =>
    rw [hd] at c1
    have hc : l.check = 10 := by unfold GLog.check; rw [hd]; simp
    rw [hc]
    (try (simp -implicitDefEqProofs only [go_sem, logD_eq, logC_eq, diskD_eq, diskC_eq])); repeat' first | with_reducible exact True.intro | with_reducible refine And.intro ?_ ?_ | with_reducible intro _ | (((with_reducible refine isCall ?_); first | refine call_b (c1) rfl ?_ ?_ | refine call_d (c1) rfl ?_ | refine call_sb (c1) rfl ?_ ?_ | refine call_s (c1) rfl rfl ?_) <;> try (simp -implicitDefEqProofs only [go_sem, logD_eq, logC_eq, diskD_eq, diskC_eq])) | (((with_reducible refine vc_b ?_ ?_) <;> intro _) <;> try (simp -implicitDefEqProofs only [go_sem, logD_eq, logC_eq, diskD_eq, diskC_eq])) | simp (disch := omega) only [wrapI, wrapU, shl1, shl1', shl1'', shrN, shrN', and_one] | ((with_reducible refine isEx ?_); refine ⟨_, rfl, ?_, ?_⟩)
    all_goals first | omega | (simp; done) | (simp; omega) | skip
  | true =>
    rw [hd] at c1
    have g := good_of hd
    have hsz := size_bound g
    cases hh : l.head with
    | false =>
      have hc : l.check = 160 := by unfold GLog.check; rw [hd, hh]; simp
      rw [hc]
      unfold GLog.head at hh
      by_cases hb : 1 ≤ l.blocks ∧ l.blocks ≤ 8
      · by_cases hl : 2 ≤ (l.slots.length : Int) ∧ (l.slots.length : Int) ≤ 12
        · have w1 : IntKind.i64.wrap (l.disk.size - l.slots.length) = l.disk.size - l.slots.length := wrapI _ (by omega)
          have c2 := journal_to_ret l.from' (l.disk.size - l.slots.length)
          have hz : inZ l.from' 0 (l.disk.size - l.slots.length) = false := by
            cases hq : inZ l.from' 0 (l.disk.size - l.slots.length) with
            | false => rfl
            | true => rw [inZ_iff.2 hb, inZ_iff.2 hl, hq] at hh; simp at hh
          rw [hz] at c2
          (try (simp -implicitDefEqProofs only [go_sem, logD_eq, logC_eq, diskD_eq, diskC_eq, recsD_len, w1])); repeat' first | with_reducible exact True.intro | with_reducible refine And.intro ?_ ?_ | with_reducible intro _ | (((with_reducible refine isCall ?_); first | refine call_b (c1) rfl ?_ ?_ | refine call_d (c1) rfl ?_ | refine call_sb (c1) rfl ?_ ?_ | refine call_s (c1) rfl rfl ?_ | refine call_b (c2) rfl ?_ ?_ | refine call_d (c2) rfl ?_ | refine call_sb (c2) rfl ?_ ?_ | refine call_s (c2) rfl rfl ?_) <;> try (simp -implicitDefEqProofs only [go_sem, logD_eq, logC_eq, diskD_eq, diskC_eq, recsD_len, w1])) | (((with_reducible refine vc_b ?_ ?_) <;> intro _) <;> try (simp -implicitDefEqProofs only [go_sem, logD_eq, logC_eq, diskD_eq, diskC_eq, recsD_len, w1])) | simp (disch := omega) only [wrapI, wrapU, shl1, shl1', shl1'', shrN, shrN', and_one] | ((with_reducible refine isEx ?_); refine ⟨_, rfl, ?_, ?_⟩)
          all_goals first | omega | (simp; done) | skip
        · have hl2 : (l.slots.length : Int) < 2 ∨ 12 < (l.slots.length : Int) := by omega
          (try (simp -implicitDefEqProofs only [go_sem, logD_eq, logC_eq, diskD_eq, diskC_eq, recsD_len])); repeat' first | with_reducible exact True.intro | with_reducible refine And.intro ?_ ?_ | with_reducible intro _ | (((with_reducible refine isCall ?_); first | refine call_b (c1) rfl ?_ ?_ | refine call_d (c1) rfl ?_ | refine call_sb (c1) rfl ?_ ?_ | refine call_s (c1) rfl rfl ?_) <;> try (simp -implicitDefEqProofs only [go_sem, logD_eq, logC_eq, diskD_eq, diskC_eq, recsD_len])) | (((with_reducible refine vc_b ?_ ?_) <;> intro _) <;> try (simp -implicitDefEqProofs only [go_sem, logD_eq, logC_eq, diskD_eq, diskC_eq, recsD_len])) | simp (disch := omega) only [wrapI, wrapU, shl1, shl1', shl1'', shrN, shrN', and_one] | ((with_reducible refine isEx ?_); refine ⟨_, rfl, ?_, ?_⟩)
          all_goals first | omega | (simp; done) | skip
      · have hb2 : l.blocks < 1 ∨ 8 < l.blocks := by omega
        (try (simp -implicitDefEqProofs only [go_sem, logD_eq, logC_eq, diskD_eq, diskC_eq, recsD_len])); repeat' first | with_reducible exact True.intro | with_reducible refine And.intro ?_ ?_ | with_reducible intro _ | (((with_reducible refine isCall ?_); first | refine call_b (c1) rfl ?_ ?_ | refine call_d (c1) rfl ?_ | refine call_sb (c1) rfl ?_ ?_ | refine call_s (c1) rfl rfl ?_) <;> try (simp -implicitDefEqProofs only [go_sem, logD_eq, logC_eq, diskD_eq, diskC_eq, recsD_len])) | (((with_reducible refine vc_b ?_ ?_) <;> intro _) <;> try (simp -implicitDefEqProofs only [go_sem, logD_eq, logC_eq, diskD_eq, diskC_eq, recsD_len])) | simp (disch := omega) only [wrapI, wrapU, shl1, shl1', shl1'', shrN, shrN', and_one] | ((with_reducible refine isEx ?_); refine ⟨_, rfl, ?_, ?_⟩)
        all_goals first | omega | (simp; done) | skip
    | true =>
      have hh2 := hh
      unfold GLog.head at hh2
      simp only [Bool.and_eq_true, inZ_iff] at hh2
      obtain ⟨⟨k1, k2⟩, k3⟩ := hh2
      have w1 : IntKind.i64.wrap (l.disk.size - l.slots.length) = l.disk.size - l.slots.length := wrapI _ (by omega)
      have w2 : IntKind.i64.wrap (l.blocks - 1) = l.blocks - 1 := wrapI _ (by omega)
      have c2 := journal_to_ret l.from' (l.disk.size - l.slots.length)
      rw [inZ_iff.2 k3] at c2
      have e1 : ¬ l.blocks < 1 := by omega
      have e2 : ¬ 8 < l.blocks := by omega
      have e3 : ¬ (l.slots.length : Int) < 2 := by omega
      have e4 : ¬ 12 < (l.slots.length : Int) := by omega
      have e5 : ¬ (l.slots.length : Int) = 0 := by omega
      (try (simp -implicitDefEqProofs only [go_sem, logD_eq, logC_eq, diskD_eq, diskC_eq, recsD_len, w1, e1, e2, e3, e4])); repeat' first | with_reducible exact True.intro | with_reducible refine And.intro ?_ ?_ | with_reducible intro _ | (((with_reducible refine isCall ?_); first | refine call_b (c1) rfl ?_ ?_ | refine call_d (c1) rfl ?_ | refine call_sb (c1) rfl ?_ ?_ | refine call_s (c1) rfl rfl ?_ | refine call_b (c2) rfl ?_ ?_ | refine call_d (c2) rfl ?_ | refine call_sb (c2) rfl ?_ ?_ | refine call_s (c2) rfl rfl ?_) <;> try (simp -implicitDefEqProofs only [go_sem, logD_eq, logC_eq, diskD_eq, diskC_eq, recsD_len, w1, e1, e2, e3, e4])) | (((with_reducible refine vc_b ?_ ?_) <;> intro _) <;> try (simp -implicitDefEqProofs only [go_sem, logD_eq, logC_eq, diskD_eq, diskC_eq, recsD_len, w1, e1, e2, e3, e4])) | simp (disch := omega) only [wrapI, wrapU, shl1, shl1', shl1'', shrN, shrN', and_one] | ((with_reducible refine isEx ?_); refine ⟨_, rfl, ?_, ?_⟩)
      all_goals (try omega)
      refine pw_loopS (α := Int) (l0 := ?l1) (m0 := ?m1) (fun x => [(48, .d (.int .i64 x))]) (fun x => []) (fun x => (0 ≤ x ∧ x ≤ l.slots.length) ∧ l.allOk x.toNat = true) (fun x => (l.slots.length - x).toNat) ?a1_0 ?h01 ?he1 ?he21 ?hI1 ?step1
      case h01 => (simp -implicitDefEqProofs only [go_sem, recsD_len, logC_eq]; rfl)
      case he1 => rfl
      case he21 => rfl
      case' step1 => (rintro i hI; try dsimp only at hI)
      case' hI1 => try dsimp only
      · exact ⟨⟨by omega, by omega⟩, rfl⟩
      · obtain ⟨⟨q1, q2⟩, q3⟩ := hI
        by_cases hi : i < l.slots.length
        · have w3 : IntKind.i64.wrap (i + 1) = i + 1 := wrapI _ (by omega)
          have hbad := check_bad hd ⟨q1, hi⟩
          have hgood := allOk_next q1 q3
          obtain ⟨r, hr⟩ : ∃ r, l.slots[i.toNat]?.getD default = r := ⟨_, rfl⟩
          rw [hr] at hbad hgood
          cases he : isEmptyR r with
          | true =>
            have hg := hgood (slot_empty he)
            obtain ⟨a1, a2, a3, a4, a5⟩ := (isEmptyR_iff r).1 he
            (try (simp -implicitDefEqProofs only [go_sem, recsD_len, onSome_recs, hr, recD_eq, recC_eq, recsD_unif, w3, a1, a2, a3, a4, a5, logC_eq, hi])); repeat' first | with_reducible exact True.intro | with_reducible refine And.intro ?_ ?_ | with_reducible intro _ | (((with_reducible refine vc_b ?_ ?_) <;> intro _) <;> try (simp -implicitDefEqProofs only [go_sem, recsD_len, onSome_recs, hr, recD_eq, recC_eq, recsD_unif, w3, a1, a2, a3, a4, a5, logC_eq, hi])) | simp (disch := omega) only [wrapI, wrapU, shl1, shl1', shl1'', shrN, shrN', and_one] | ((with_reducible refine isEx ?_); refine ⟨_, rfl, ?_, ?_⟩)
            all_goals first | omega | exact hg | skip
          | false =>
            have he2 : ¬ (r.num = -1 ∧ r.blk = 0 ∧ r.val = 0 ∧ r.tail = 0 ∧ r.bad = false) := fun hx => by rw [(isEmptyR_iff r).2 hx] at he; cases he
            cases hb : isBadR r with
            | true =>
              have hg := hgood (slot_bad hb)
              obtain ⟨a1, a2, a3, a4, a5⟩ := (isBadR_iff r).1 hb
              (try (simp -implicitDefEqProofs only [go_sem, recsD_len, onSome_recs, hr, recD_eq, recC_eq, recsD_unif, w3, a1, a2, a3, a4, a5, logC_eq, hi])); repeat' first | with_reducible exact True.intro | with_reducible refine And.intro ?_ ?_ | with_reducible intro _ | (((with_reducible refine vc_b ?_ ?_) <;> intro _) <;> try (simp -implicitDefEqProofs only [go_sem, recsD_len, onSome_recs, hr, recD_eq, recC_eq, recsD_unif, w3, a1, a2, a3, a4, a5, logC_eq, hi])) | simp (disch := omega) only [wrapI, wrapU, shl1, shl1', shl1'', shrN, shrN', and_one] | ((with_reducible refine isEx ?_); refine ⟨_, rfl, ?_, ?_⟩)
              all_goals first | omega | exact hg | skip
            | false =>
              have hb2 : ¬ (r.num = 0 ∧ r.blk = 0 ∧ r.val = 0 ∧ r.tail = 0 ∧ r.bad = true) := fun hx => by rw [(isBadR_iff r).2 hx] at hb; cases hb
              rw [slot_rec he hb] at hbad hgood
              unfold recOk at hbad hgood
              cases hx : r.bad with
              | true =>
                rw [hx] at he2 hb2 hbad
                have hq := hbad (by simp)
                rw [hq]
                (try (simp -implicitDefEqProofs only [go_sem, recsD_len, onSome_recs, hr, recD_eq, recC_eq, recsD_unif, w3, hx, he2, hb2, logC_eq, hi])); repeat' first | with_reducible exact True.intro | with_reducible refine And.intro ?_ ?_ | with_reducible intro _ | (((with_reducible refine vc_b ?_ ?_) <;> intro _) <;> try (simp -implicitDefEqProofs only [go_sem, recsD_len, onSome_recs, hr, recD_eq, recC_eq, recsD_unif, w3, hx, he2, hb2, logC_eq, hi])) | simp (disch := omega) only [wrapI, wrapU, shl1, shl1', shl1'', shrN, shrN', and_one] | ((with_reducible refine isEx ?_); refine ⟨_, rfl, ?_, ?_⟩)
                all_goals first | omega | (simp_all; done) | skip
              | false =>
                rw [hx] at he2 hb2 hbad hgood
                simp only [Bool.not_false, Bool.true_and] at hbad hgood
                have fin1 : ∀ z, z = false → (inZ r.num 0 999 && (decide (r.num.tmod l.slots.length = i) && (inZ r.blk 0 (l.blocks - 1) && (inZ r.val 0 999 && inZ r.tail 0 r.num)))) = z → (D.int .i64 160) = .int .i64 l.check := fun z hz h2 => by rw [hbad (h2.trans hz)]
                (try (simp -implicitDefEqProofs only [go_sem, recsD_len, onSome_recs, hr, recD_eq, recC_eq, recsD_unif, w2, w3, hx, he2, hb2, logC_eq, hi, e5])); repeat' first | with_reducible exact True.intro | with_reducible refine And.intro ?_ ?_ | with_reducible intro _ | (((with_reducible refine isCall ?_); first | refine call_b (journal_to_ret _ _) rfl ?_ ?_ | refine call_d (journal_to_ret _ _) rfl ?_ | refine call_sb (journal_to_ret _ _) rfl ?_ ?_ | refine call_s (journal_to_ret _ _) rfl rfl ?_) <;> try (simp -implicitDefEqProofs only [go_sem, recsD_len, onSome_recs, hr, recD_eq, recC_eq, recsD_unif, w2, w3, hx, he2, hb2, logC_eq, hi, e5])) | (((with_reducible refine vc_b ?_ ?_) <;> intro _) <;> try (simp -implicitDefEqProofs only [go_sem, recsD_len, onSome_recs, hr, recD_eq, recC_eq, recsD_unif, w2, w3, hx, he2, hb2, logC_eq, hi, e5])) | simp (disch := omega) only [wrapI, wrapU, shl1, shl1', shl1'', shrN, shrN', and_one] | ((with_reducible refine isEx ?_); refine ⟨_, rfl, ?_, ?_⟩)
                all_goals first | omega | (refine fin1 _ rfl ?_; simp_all; done) | (refine hgood ?_; simp_all; done) | skip
        · have hie : i.toNat = l.slots.length := by omega
          rw [hie] at q3
          have hc : l.check = 0 := by unfold GLog.check; rw [hd, hh, q3]; simp
          rw [hc]
          (try (simp -implicitDefEqProofs only [go_sem, recsD_len, hi])); repeat' first | with_reducible exact True.intro | with_reducible refine And.intro ?_ ?_ | with_reducible intro _ | (((with_reducible refine vc_b ?_ ?_) <;> intro _) <;> try (simp -implicitDefEqProofs only [go_sem, recsD_len, hi])) | simp (disch := omega) only [wrapI, wrapU, shl1, shl1', shl1'', shrN, shrN', and_one] | ((with_reducible refine isEx ?_); refine ⟨_, rfl, ?_, ?_⟩)
          all_goals first | omega | (simp; done) | (simp; omega) | skip
end Go.Pw
end
section
open Go Go.Pw Go.Proofs
namespace Go.Pw
set_option linter.unusedSimpArgs false
set_option linter.unusedVariables false
set_option maxRecDepth 100000
set_option maxHeartbeats 3200000
attribute [local congr] cg_pw cg_seqI cg_seqE cg_stepI cg_ev cg_evBin cg_condB cg_condV cg_thenQ cg_blockQ cg_onSome cg_onCells cg_onRow cg_onMap cg_onOpt cg_ghosts cg_ghost cg_evCall cg_part cg_rng cg_guardV cg_frzV cg_frpV cg_ownV cg_owcV cg_occV cg_occX cg_resK cg_res1 cg_yldP cg_rndE cg_onlyN cg_onHist
attribute [local irreducible] IntKind.wrap bitsOp Option.getD and or

theorem ref16_isSlot_ret (l : GLog) (i : Int) (h0 : 0 ≤ i ∧ i < l.slots.length) (hb1 : 1 ≤ l.blocks ∧ l.blocks ≤ 8) (hl : l.slots.length ≤ 12) : Ret E0 F_ref16_isSlot [logD l, .int .i64 i] (.bool (slotOk l.blocks l.slots.length i (l.slots[i.toNat]?.getD default))) := by
  refine ret_of_pw dec_ref16_isSlot mixed (by simp) fun hwf => ?_
  have c1 := ref16_Empty_ret
  have c2 := ref16_Torn_ret
  have w2 : IntKind.i64.wrap (l.blocks - 1) = l.blocks - 1 := wrapI _ (by omega)
  have e5 : ¬ (l.slots.length : Int) = 0 := by omega
  have q1 := h0.1
  have hi := h0.2
  rw [enter_eq]; unfold pc_ref16_isSlot
  obtain ⟨r, hr⟩ : ∃ r, l.slots[i.toNat]?.getD default = r := ⟨_, rfl⟩
  rw [hr]
  rw [recD_eq, recC_eq, emptyR] at c1
  rw [recD_eq, recC_eq, badR] at c2
  cases he : isEmptyR r with
  | true =>
    rw [slot_empty he]
    obtain ⟨a1, a2, a3, a4, a5⟩ := (isEmptyR_iff r).1 he
    (try (simp -implicitDefEqProofs only [go_sem, recsD_len, onSome_recs, hr, recD_eq, recC_eq, recsD_unif, a1, a2, a3, a4, a5, logD_eq, logC_eq, hi, q1])); repeat' first | with_reducible exact True.intro | with_reducible refine And.intro ?_ ?_ | with_reducible intro _ | (((with_reducible refine isCall ?_); first | refine call_b (c1) rfl ?_ ?_ | refine call_d (c1) rfl ?_ | refine call_sb (c1) rfl ?_ ?_ | refine call_s (c1) rfl rfl ?_ | refine call_b (c2) rfl ?_ ?_ | refine call_d (c2) rfl ?_ | refine call_sb (c2) rfl ?_ ?_ | refine call_s (c2) rfl rfl ?_) <;> try (simp -implicitDefEqProofs only [go_sem, recsD_len, onSome_recs, hr, recD_eq, recC_eq, recsD_unif, a1, a2, a3, a4, a5, logD_eq, logC_eq, hi, q1])) | (((with_reducible refine vc_b ?_ ?_) <;> intro _) <;> try (simp -implicitDefEqProofs only [go_sem, recsD_len, onSome_recs, hr, recD_eq, recC_eq, recsD_unif, a1, a2, a3, a4, a5, logD_eq, logC_eq, hi, q1])) | simp (disch := omega) only [wrapI, wrapU, shl1, shl1', shl1'', shrN, shrN', and_one] 
    all_goals first | omega | (simp_all; done) | skip
  | false =>
    have he2 : ¬ (r.num = -1 ∧ r.blk = 0 ∧ r.val = 0 ∧ r.tail = 0 ∧ r.bad = false) := fun hx => by rw [(isEmptyR_iff r).2 hx] at he; cases he
    cases hb : isBadR r with
    | true =>
      rw [slot_bad hb]
      obtain ⟨a1, a2, a3, a4, a5⟩ := (isBadR_iff r).1 hb
      (try (simp -implicitDefEqProofs only [go_sem, recsD_len, onSome_recs, hr, recD_eq, recC_eq, recsD_unif, a1, a2, a3, a4, a5, logD_eq, logC_eq, hi, q1])); repeat' first | with_reducible exact True.intro | with_reducible refine And.intro ?_ ?_ | with_reducible intro _ | (((with_reducible refine isCall ?_); first | refine call_b (c1) rfl ?_ ?_ | refine call_d (c1) rfl ?_ | refine call_sb (c1) rfl ?_ ?_ | refine call_s (c1) rfl rfl ?_ | refine call_b (c2) rfl ?_ ?_ | refine call_d (c2) rfl ?_ | refine call_sb (c2) rfl ?_ ?_ | refine call_s (c2) rfl rfl ?_) <;> try (simp -implicitDefEqProofs only [go_sem, recsD_len, onSome_recs, hr, recD_eq, recC_eq, recsD_unif, a1, a2, a3, a4, a5, logD_eq, logC_eq, hi, q1])) | (((with_reducible refine vc_b ?_ ?_) <;> intro _) <;> try (simp -implicitDefEqProofs only [go_sem, recsD_len, onSome_recs, hr, recD_eq, recC_eq, recsD_unif, a1, a2, a3, a4, a5, logD_eq, logC_eq, hi, q1])) | simp (disch := omega) only [wrapI, wrapU, shl1, shl1', shl1'', shrN, shrN', and_one] 
      all_goals first | omega | (simp_all; done) | skip
    | false =>
      have hb2 : ¬ (r.num = 0 ∧ r.blk = 0 ∧ r.val = 0 ∧ r.tail = 0 ∧ r.bad = true) := fun hx => by rw [(isBadR_iff r).2 hx] at hb; cases hb
      rw [slot_rec he hb]
      unfold recOk
      cases hx : r.bad with
      | true =>
        rw [hx] at he2 hb2
        (try (simp -implicitDefEqProofs only [go_sem, recsD_len, onSome_recs, hr, recD_eq, recC_eq, recsD_unif, hx, he2, hb2, logD_eq, logC_eq, hi, q1])); repeat' first | with_reducible exact True.intro | with_reducible refine And.intro ?_ ?_ | with_reducible intro _ | (((with_reducible refine isCall ?_); first | refine call_b (c1) rfl ?_ ?_ | refine call_d (c1) rfl ?_ | refine call_sb (c1) rfl ?_ ?_ | refine call_s (c1) rfl rfl ?_ | refine call_b (c2) rfl ?_ ?_ | refine call_d (c2) rfl ?_ | refine call_sb (c2) rfl ?_ ?_ | refine call_s (c2) rfl rfl ?_) <;> try (simp -implicitDefEqProofs only [go_sem, recsD_len, onSome_recs, hr, recD_eq, recC_eq, recsD_unif, hx, he2, hb2, logD_eq, logC_eq, hi, q1])) | (((with_reducible refine vc_b ?_ ?_) <;> intro _) <;> try (simp -implicitDefEqProofs only [go_sem, recsD_len, onSome_recs, hr, recD_eq, recC_eq, recsD_unif, hx, he2, hb2, logD_eq, logC_eq, hi, q1])) | simp (disch := omega) only [wrapI, wrapU, shl1, shl1', shl1'', shrN, shrN', and_one] 
        all_goals first | omega | (simp_all; done) | skip
      | false =>
        rw [hx] at he2 hb2
        (try (simp -implicitDefEqProofs only [go_sem, recsD_len, onSome_recs, hr, recD_eq, recC_eq, recsD_unif, w2, hx, he2, hb2, logD_eq, logC_eq, hi, e5, q1])); repeat' first | with_reducible exact True.intro | with_reducible refine And.intro ?_ ?_ | with_reducible intro _ | (((with_reducible refine isCall ?_); first | refine call_b (c1) rfl ?_ ?_ | refine call_d (c1) rfl ?_ | refine call_sb (c1) rfl ?_ ?_ | refine call_s (c1) rfl rfl ?_ | refine call_b (c2) rfl ?_ ?_ | refine call_d (c2) rfl ?_ | refine call_sb (c2) rfl ?_ ?_ | refine call_s (c2) rfl rfl ?_ | refine call_b (ref16_within_ret _ _ _) rfl ?_ ?_ | refine call_d (ref16_within_ret _ _ _) rfl ?_ | refine call_sb (ref16_within_ret _ _ _) rfl ?_ ?_ | refine call_s (ref16_within_ret _ _ _) rfl rfl ?_) <;> try (simp -implicitDefEqProofs only [go_sem, recsD_len, onSome_recs, hr, recD_eq, recC_eq, recsD_unif, w2, hx, he2, hb2, logD_eq, logC_eq, hi, e5, q1])) | (((with_reducible refine vc_b ?_ ?_) <;> intro _) <;> try (simp -implicitDefEqProofs only [go_sem, recsD_len, onSome_recs, hr, recD_eq, recC_eq, recsD_unif, w2, hx, he2, hb2, logD_eq, logC_eq, hi, e5, q1])) | simp (disch := omega) only [wrapI, wrapU, shl1, shl1', shl1'', shrN, shrN', and_one] 
        all_goals first | omega | (simp_all; done) | skip

theorem ref16_Check_ret (l : GLog) : Ret E0 F_ref16_Check [logD l] (.int .i64 l.check) := by
  refine ret_of_pw dec_ref16_Check mixed (by simp) fun hwf => ?_
  simp only [wf_int, wf_bool, wf_ints, wf_list, wf_agg, wf_ptr, wf_fn, wf_tup, wf_all_cons, wf_all_nil, wf_all_map, inK_i64, maxLen_eq, List.length_map, ints_len, true_and, and_true, logD_eq, logC_eq, zpsD_len, recsD_len] at hwf
  have c1 := ref01_Check_ret l.disk
  rw [enter_eq]; unfold pc_ref16_Check
  unfold GDisk.check at c1
  cases hd : l.disk.ok with
  | false =>
    rw [hd] at c1
    have hc : l.check = 10 := by unfold GLog.check; rw [hd]; simp
    rw [hc]
    (try (simp -implicitDefEqProofs only [go_sem, logD_eq, logC_eq, diskD_eq, diskC_eq])); repeat' first | with_reducible exact True.intro | with_reducible refine And.intro ?_ ?_ | with_reducible intro _ | (((with_reducible refine isCall ?_); first | refine call_b (c1) rfl ?_ ?_ | refine call_d (c1) rfl ?_ | refine call_sb (c1) rfl ?_ ?_ | refine call_s (c1) rfl rfl ?_) <;> try (simp -implicitDefEqProofs only [go_sem, logD_eq, logC_eq, diskD_eq, diskC_eq])) | (((with_reducible refine vc_b ?_ ?_) <;> intro _) <;> try (simp -implicitDefEqProofs only [go_sem, logD_eq, logC_eq, diskD_eq, diskC_eq])) | simp (disch := omega) only [wrapI, wrapU, shl1, shl1', shl1'', shrN, shrN', and_one] | ((with_reducible refine isEx ?_); refine ⟨_, rfl, ?_, ?_⟩)
    all_goals first | omega | (simp; done) | (simp; omega) | skip
  | true =>
    rw [hd] at c1
    have g := good_of hd
    have hsz := size_bound g
    have c2 := ref01_IsRun_ret l.disk hd l.from' l.slots.length
    have c3 := ref16_within_ret l.blocks 1 8
    have c4 := ref16_within_ret l.slots.length 2 12
    cases hb : inZ l.blocks 1 8 with
    | false =>
      rw [hb] at c3
      have hc : l.check = 160 := by unfold GLog.check GLog.head; rw [hd, hb]; simp
      rw [hc]
      (try (simp -implicitDefEqProofs only [go_sem, logD_eq, logC_eq, diskD_eq, diskC_eq, recsD_len])); repeat' first | with_reducible exact True.intro | with_reducible refine And.intro ?_ ?_ | with_reducible intro _ | (((with_reducible refine isCall ?_); first | refine call_b (c1) rfl ?_ ?_ | refine call_d (c1) rfl ?_ | refine call_sb (c1) rfl ?_ ?_ | refine call_s (c1) rfl rfl ?_ | refine call_b (c3) rfl ?_ ?_ | refine call_d (c3) rfl ?_ | refine call_sb (c3) rfl ?_ ?_ | refine call_s (c3) rfl rfl ?_) <;> try (simp -implicitDefEqProofs only [go_sem, logD_eq, logC_eq, diskD_eq, diskC_eq, recsD_len])) | (((with_reducible refine vc_b ?_ ?_) <;> intro _) <;> try (simp -implicitDefEqProofs only [go_sem, logD_eq, logC_eq, diskD_eq, diskC_eq, recsD_len])) | simp (disch := omega) only [wrapI, wrapU, shl1, shl1', shl1'', shrN, shrN', and_one] | ((with_reducible refine isEx ?_); refine ⟨_, rfl, ?_, ?_⟩)
      all_goals first | omega | (simp; done) | (simp; omega) | skip
    | true =>
    rw [hb] at c3
    cases hl : inZ l.slots.length 2 12 with
    | false =>
      rw [hl] at c4
      have hc : l.check = 160 := by unfold GLog.check GLog.head; rw [hd, hb, hl]; simp
      rw [hc]
      (try (simp -implicitDefEqProofs only [go_sem, logD_eq, logC_eq, diskD_eq, diskC_eq, recsD_len])); repeat' first | with_reducible exact True.intro | with_reducible refine And.intro ?_ ?_ | with_reducible intro _ | (((with_reducible refine isCall ?_); first | refine call_b (c1) rfl ?_ ?_ | refine call_d (c1) rfl ?_ | refine call_sb (c1) rfl ?_ ?_ | refine call_s (c1) rfl rfl ?_ | refine call_b (c3) rfl ?_ ?_ | refine call_d (c3) rfl ?_ | refine call_sb (c3) rfl ?_ ?_ | refine call_s (c3) rfl rfl ?_ | refine call_b (c4) rfl ?_ ?_ | refine call_d (c4) rfl ?_ | refine call_sb (c4) rfl ?_ ?_ | refine call_s (c4) rfl rfl ?_) <;> try (simp -implicitDefEqProofs only [go_sem, logD_eq, logC_eq, diskD_eq, diskC_eq, recsD_len])) | (((with_reducible refine vc_b ?_ ?_) <;> intro _) <;> try (simp -implicitDefEqProofs only [go_sem, logD_eq, logC_eq, diskD_eq, diskC_eq, recsD_len])) | simp (disch := omega) only [wrapI, wrapU, shl1, shl1', shl1'', shrN, shrN', and_one] | ((with_reducible refine isEx ?_); refine ⟨_, rfl, ?_, ?_⟩)
      all_goals first | omega | (simp; done) | (simp; omega) | skip
    | true =>
    rw [hl] at c4
    have hl2 := inZ_iff.1 hl
    have hb2 := inZ_iff.1 hb
    have hrun : decide (l.disk.isRun l.from' l.slots.length) = inZ l.from' 0 (l.disk.size - l.slots.length) := by unfold inZ; refine decide_eq_decide.2 ?_; unfold GDisk.isRun; omega
    rw [hrun] at c2
    cases hf : inZ l.from' 0 (l.disk.size - l.slots.length) with
    | false =>
      rw [hf] at c2
      have hc : l.check = 160 := by unfold GLog.check GLog.head; rw [hd, hb, hl, hf]; simp
      rw [hc]
      (try (simp -implicitDefEqProofs only [go_sem, logD_eq, logC_eq, diskD_eq, diskC_eq, recsD_len])); repeat' first | with_reducible exact True.intro | with_reducible refine And.intro ?_ ?_ | with_reducible intro _ | (((with_reducible refine isCall ?_); first | refine call_b (c1) rfl ?_ ?_ | refine call_d (c1) rfl ?_ | refine call_sb (c1) rfl ?_ ?_ | refine call_s (c1) rfl rfl ?_ | refine call_b (c2) rfl ?_ ?_ | refine call_d (c2) rfl ?_ | refine call_sb (c2) rfl ?_ ?_ | refine call_s (c2) rfl rfl ?_ | refine call_b (c3) rfl ?_ ?_ | refine call_d (c3) rfl ?_ | refine call_sb (c3) rfl ?_ ?_ | refine call_s (c3) rfl rfl ?_ | refine call_b (c4) rfl ?_ ?_ | refine call_d (c4) rfl ?_ | refine call_sb (c4) rfl ?_ ?_ | refine call_s (c4) rfl rfl ?_) <;> try (simp -implicitDefEqProofs only [go_sem, logD_eq, logC_eq, diskD_eq, diskC_eq, recsD_len])) | (((with_reducible refine vc_b ?_ ?_) <;> intro _) <;> try (simp -implicitDefEqProofs only [go_sem, logD_eq, logC_eq, diskD_eq, diskC_eq, recsD_len])) | simp (disch := omega) only [wrapI, wrapU, shl1, shl1', shl1'', shrN, shrN', and_one] | ((with_reducible refine isEx ?_); refine ⟨_, rfl, ?_, ?_⟩)
      all_goals first | omega | (simp; done) | (simp; omega) | skip
    | true =>
      rw [hf] at c2
      have hh : l.head = true := by unfold GLog.head; rw [hb, hl, hf]; simp
      (try (simp -implicitDefEqProofs only [go_sem, logD_eq, logC_eq, diskD_eq, diskC_eq, recsD_len])); repeat' first | with_reducible exact True.intro | with_reducible refine And.intro ?_ ?_ | with_reducible intro _ | (((with_reducible refine isCall ?_); first | refine call_b (c1) rfl ?_ ?_ | refine call_d (c1) rfl ?_ | refine call_sb (c1) rfl ?_ ?_ | refine call_s (c1) rfl rfl ?_ | refine call_b (c2) rfl ?_ ?_ | refine call_d (c2) rfl ?_ | refine call_sb (c2) rfl ?_ ?_ | refine call_s (c2) rfl rfl ?_ | refine call_b (c3) rfl ?_ ?_ | refine call_d (c3) rfl ?_ | refine call_sb (c3) rfl ?_ ?_ | refine call_s (c3) rfl rfl ?_ | refine call_b (c4) rfl ?_ ?_ | refine call_d (c4) rfl ?_ | refine call_sb (c4) rfl ?_ ?_ | refine call_s (c4) rfl rfl ?_) <;> try (simp -implicitDefEqProofs only [go_sem, logD_eq, logC_eq, diskD_eq, diskC_eq, recsD_len])) | (((with_reducible refine vc_b ?_ ?_) <;> intro _) <;> try (simp -implicitDefEqProofs only [go_sem, logD_eq, logC_eq, diskD_eq, diskC_eq, recsD_len])) | simp (disch := omega) only [wrapI, wrapU, shl1, shl1', shl1'', shrN, shrN', and_one] | ((with_reducible refine isEx ?_); refine ⟨_, rfl, ?_, ?_⟩)
      all_goals (try omega)
      refine pw_loopS (α := Int) (l0 := ?l1) (m0 := ?m1) (fun x => [(3, .d (.int .i64 x))]) (fun x => []) (fun x => (0 ≤ x ∧ x ≤ l.slots.length) ∧ l.allOk x.toNat = true) (fun x => (l.slots.length - x).toNat) ?a1_0 ?h01 ?he1 ?he21 ?hI1 ?step1
      case h01 => (simp -implicitDefEqProofs only [go_sem, recsD_len, logC_eq]; rfl)
      case he1 => rfl
      case he21 => rfl
      case' step1 => (rintro i hI; try dsimp only at hI)
      case' hI1 => try dsimp only
      · exact ⟨⟨by omega, by omega⟩, rfl⟩
      · obtain ⟨⟨q1, q2⟩, q3⟩ := hI
        by_cases hi : i < l.slots.length
        · have w3 : IntKind.i64.wrap (i + 1) = i + 1 := wrapI _ (by omega)
          have hbad := check_bad hd ⟨q1, hi⟩
          have hgood := allOk_next q1 q3
          have c5 := ref16_isSlot_ret l i ⟨q1, hi⟩ hb2 (by omega)
          cases hs : slotOk l.blocks l.slots.length i (l.slots[i.toNat]?.getD default) with
          | false =>
            rw [hs] at c5
            rw [hbad hs]
            (try (simp -implicitDefEqProofs only [go_sem, recsD_len, w3, logD_eq, logC_eq, hi])); repeat' first | with_reducible exact True.intro | with_reducible refine And.intro ?_ ?_ | with_reducible intro _ | (((with_reducible refine isCall ?_); first | refine call_b (c5) rfl ?_ ?_ | refine call_d (c5) rfl ?_ | refine call_sb (c5) rfl ?_ ?_ | refine call_s (c5) rfl rfl ?_) <;> try (simp -implicitDefEqProofs only [go_sem, recsD_len, w3, logD_eq, logC_eq, hi])) | (((with_reducible refine vc_b ?_ ?_) <;> intro _) <;> try (simp -implicitDefEqProofs only [go_sem, recsD_len, w3, logD_eq, logC_eq, hi])) | simp (disch := omega) only [wrapI, wrapU, shl1, shl1', shl1'', shrN, shrN', and_one] | ((with_reducible refine isEx ?_); refine ⟨_, rfl, ?_, ?_⟩)
            all_goals first | omega | (simp; done) | (simp; omega) | skip
          | true =>
            rw [hs] at c5
            have hg := hgood hs
            (try (simp -implicitDefEqProofs only [go_sem, recsD_len, w3, logD_eq, logC_eq, hi])); repeat' first | with_reducible exact True.intro | with_reducible refine And.intro ?_ ?_ | with_reducible intro _ | (((with_reducible refine isCall ?_); first | refine call_b (c5) rfl ?_ ?_ | refine call_d (c5) rfl ?_ | refine call_sb (c5) rfl ?_ ?_ | refine call_s (c5) rfl rfl ?_) <;> try (simp -implicitDefEqProofs only [go_sem, recsD_len, w3, logD_eq, logC_eq, hi])) | (((with_reducible refine vc_b ?_ ?_) <;> intro _) <;> try (simp -implicitDefEqProofs only [go_sem, recsD_len, w3, logD_eq, logC_eq, hi])) | simp (disch := omega) only [wrapI, wrapU, shl1, shl1', shl1'', shrN, shrN', and_one] | ((with_reducible refine isEx ?_); refine ⟨_, rfl, ?_, ?_⟩)
            all_goals first | omega | exact hg | skip
        · have hie : i.toNat = l.slots.length := by omega
          rw [hie] at q3
          have hc : l.check = 0 := by unfold GLog.check; rw [hd, hh, q3]; simp
          rw [hc]
          (try (simp -implicitDefEqProofs only [go_sem, recsD_len, logC_eq, hi])); repeat' first | with_reducible exact True.intro | with_reducible refine And.intro ?_ ?_ | with_reducible intro _ | (((with_reducible refine vc_b ?_ ?_) <;> intro _) <;> try (simp -implicitDefEqProofs only [go_sem, recsD_len, logC_eq, hi])) | simp (disch := omega) only [wrapI, wrapU, shl1, shl1', shl1'', shrN, shrN', and_one] | ((with_reducible refine isEx ?_); refine ⟨_, rfl, ?_, ?_⟩)
          all_goals first | omega | (simp; done) | (simp; omega) | skip
end Go.Pw
end
