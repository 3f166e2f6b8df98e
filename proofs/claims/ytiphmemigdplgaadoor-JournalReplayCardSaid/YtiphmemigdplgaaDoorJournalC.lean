/- A part of the proof. -/
import Derived.Test.YtiphmemigdplgaaDoorJournalB
set_option linter.all false
open Go Go.Pw Go.Proofs
namespace Go.Pw
set_option linter.unusedSimpArgs false
set_option linter.unusedVariables false
set_option maxRecDepth 100000
set_option maxHeartbeats 3200000
attribute [local congr] cg_pw cg_seqI cg_seqE cg_stepI cg_ev cg_evBin cg_condB cg_condV cg_thenQ cg_blockQ cg_onSome cg_onCells cg_onRow cg_onMap cg_onOpt cg_ghosts cg_ghost cg_evCall cg_part cg_rng cg_guardV cg_frzV cg_frpV cg_ownV cg_owcV cg_occV cg_occX cg_resK cg_res1 cg_yldP cg_rndE cg_onlyN cg_onHist
attribute [local irreducible] IntKind.wrap bitsOp Option.getD and or

theorem ref16_isSlot_ret (l : GLog) (i : Int) (h0 : 0 ≤ i ∧ i < l.slots.length) (hb1 : 1 ≤ l.blocks ∧ l.blocks ≤ 8) (hl : l.slots.length ≤ 12) : Ret E0 F_ref16_isSlot [logD l, .int .i64 i] (.bool (slotOk l.blocks l.slots.length i (l.slots[i.toNat]?.getD default))) := by
  refine ret_of_pw dec_ref16_isSlot mixed (by simp) fun hwf => ?_
  have c1 := ref16_Empty_ret
  have c2 := ref16_Torn_ret
  have w2 : IntKind.i64.wrap (l.blocks - 1) = l.blocks - 1 := wrapI _ (by omega)
  have e5 : ¬ (l.slots.length : Int) = 0 := by omega
  have q1 := h0.1
  have hi := h0.2
  rw [enter_eq]; unfold pc_ref16_isSlot
  obtain ⟨r, hr⟩ : ∃ r, l.slots[i.toNat]?.getD default = r := ⟨_, rfl⟩
  rw [hr]
  rw [recD_eq, recC_eq, emptyR] at c1
  rw [recD_eq, recC_eq, badR] at c2
  cases he : isEmptyR r with
  | true =>
    rw [slot_empty he]
    obtain ⟨a1, a2, a3, a4, a5⟩ := (isEmptyR_iff r).1 he
    (try (simp -implicitDefEqProofs only [go_sem, recsD_len, onSome_recs, hr, recD_eq, recC_eq, recsD_unif, a1, a2, a3, a4, a5, logD_eq, logC_eq, hi, q1])); repeat' first | with_reducible exact True.intro | with_reducible refine And.intro ?_ ?_ | with_reducible intro _ | (((with_reducible refine isCall ?_); first | refine call_b (c1) rfl ?_ ?_ | refine call_d (c1) rfl ?_ | refine call_sb (c1) rfl ?_ ?_ | refine call_s (c1) rfl rfl ?_ | refine call_b (c2) rfl ?_ ?_ | refine call_d (c2) rfl ?_ | refine call_sb (c2) rfl ?_ ?_ | refine call_s (c2) rfl rfl ?_) <;> try (simp -implicitDefEqProofs only [go_sem, recsD_len, onSome_recs, hr, recD_eq, recC_eq, recsD_unif, a1, a2, a3, a4, a5, logD_eq, logC_eq, hi, q1])) | (((with_reducible refine vc_b ?_ ?_) <;> intro _) <;> try (simp -implicitDefEqProofs only [go_sem, recsD_len, onSome_recs, hr, recD_eq, recC_eq, recsD_unif, a1, a2, a3, a4, a5, logD_eq, logC_eq, hi, q1])) | simp (disch := omega) only [wrapI, wrapU, shl1, shl1', shl1'', shrN, shrN', and_one] 
    all_goals first | omega | (simp_all; done) | skip
  | false =>
    have he2 : ¬ (r.num = -1 ∧ r.blk = 0 ∧ r.val = 0 ∧ r.tail = 0 ∧ r.bad = false) := fun hx => by rw [(isEmptyR_iff r).2 hx] at he; cases he
    cases hb : isBadR r with
    | true =>
      rw [slot_bad hb]
      obtain ⟨a1, a2, a3, a4, a5⟩ := (isBadR_iff r).1 hb
      (try (simp -implicitDefEqProofs only [go_sem, recsD_len, onSome_recs, hr, recD_eq, recC_eq, recsD_unif, a1, a2, a3, a4, a5, logD_eq, logC_eq, hi, q1])); repeat' first | with_reducible exact True.intro | with_reducible refine And.intro ?_ ?_ | with_reducible intro _ | (((with_reducible refine isCall ?_); first | refine call_b (c1) rfl ?_ ?_ | refine call_d (c1) rfl ?_ | refine call_sb (c1) rfl ?_ ?_ | refine call_s (c1) rfl rfl ?_ | refine call_b (c2) rfl ?_ ?_ | refine call_d (c2) rfl ?_ | refine call_sb (c2) rfl ?_ ?_ | refine call_s (c2) rfl rfl ?_) <;> try (simp -implicitDefEqProofs only [go_sem, recsD_len, onSome_recs, hr, recD_eq, recC_eq, recsD_unif, a1, a2, a3, a4, a5, logD_eq, logC_eq, hi, q1])) | (((with_reducible refine vc_b ?_ ?_) <;> intro _) <;> try (simp -implicitDefEqProofs only [go_sem, recsD_len, onSome_recs, hr, recD_eq, recC_eq, recsD_unif, a1, a2, a3, a4, a5, logD_eq, logC_eq, hi, q1])) | simp (disch := omega) only [wrapI, wrapU, shl1, shl1', shl1'', shrN, shrN', and_one] 
      all_goals first | omega | (simp_all; done) | skip
    | false =>
      have hb2 : ¬ (r.num = 0 ∧ r.blk = 0 ∧ r.val = 0 ∧ r.tail = 0 ∧ r.bad = true) := fun hx => by rw [(isBadR_iff r).2 hx] at hb; cases hb
      rw [slot_rec he hb]
      unfold recOk
      cases hx : r.bad with
      | true =>
        rw [hx] at he2 hb2
        (try (simp -implicitDefEqProofs only [go_sem, recsD_len, onSome_recs, hr, recD_eq, recC_eq, recsD_unif, hx, he2, hb2, logD_eq, logC_eq, hi, q1])); repeat' first | with_reducible exact True.intro | with_reducible refine And.intro ?_ ?_ | with_reducible intro _ | (((with_reducible refine isCall ?_); first | refine call_b (c1) rfl ?_ ?_ | refine call_d (c1) rfl ?_ | refine call_sb (c1) rfl ?_ ?_ | refine call_s (c1) rfl rfl ?_ | refine call_b (c2) rfl ?_ ?_ | refine call_d (c2) rfl ?_ | refine call_sb (c2) rfl ?_ ?_ | refine call_s (c2) rfl rfl ?_) <;> try (simp -implicitDefEqProofs only [go_sem, recsD_len, onSome_recs, hr, recD_eq, recC_eq, recsD_unif, hx, he2, hb2, logD_eq, logC_eq, hi, q1])) | (((with_reducible refine vc_b ?_ ?_) <;> intro _) <;> try (simp -implicitDefEqProofs only [go_sem, recsD_len, onSome_recs, hr, recD_eq, recC_eq, recsD_unif, hx, he2, hb2, logD_eq, logC_eq, hi, q1])) | simp (disch := omega) only [wrapI, wrapU, shl1, shl1', shl1'', shrN, shrN', and_one] 
        all_goals first | omega | (simp_all; done) | skip
      | false =>
        rw [hx] at he2 hb2
        (try (simp -implicitDefEqProofs only [go_sem, recsD_len, onSome_recs, hr, recD_eq, recC_eq, recsD_unif, w2, hx, he2, hb2, logD_eq, logC_eq, hi, e5, q1])); repeat' first | with_reducible exact True.intro | with_reducible refine And.intro ?_ ?_ | with_reducible intro _ | (((with_reducible refine isCall ?_); first | refine call_b (c1) rfl ?_ ?_ | refine call_d (c1) rfl ?_ | refine call_sb (c1) rfl ?_ ?_ | refine call_s (c1) rfl rfl ?_ | refine call_b (c2) rfl ?_ ?_ | refine call_d (c2) rfl ?_ | refine call_sb (c2) rfl ?_ ?_ | refine call_s (c2) rfl rfl ?_ | refine call_b (ref16_within_ret _ _ _) rfl ?_ ?_ | refine call_d (ref16_within_ret _ _ _) rfl ?_ | refine call_sb (ref16_within_ret _ _ _) rfl ?_ ?_ | refine call_s (ref16_within_ret _ _ _) rfl rfl ?_) <;> try (simp -implicitDefEqProofs only [go_sem, recsD_len, onSome_recs, hr, recD_eq, recC_eq, recsD_unif, w2, hx, he2, hb2, logD_eq, logC_eq, hi, e5, q1])) | (((with_reducible refine vc_b ?_ ?_) <;> intro _) <;> try (simp -implicitDefEqProofs only [go_sem, recsD_len, onSome_recs, hr, recD_eq, recC_eq, recsD_unif, w2, hx, he2, hb2, logD_eq, logC_eq, hi, e5, q1])) | simp (disch := omega) only [wrapI, wrapU, shl1, shl1', shl1'', shrN, shrN', and_one] 
        all_goals first | omega | (simp_all; done) | skip

theorem ref16_Check_ret (l : GLog) : Ret E0 F_ref16_Check [logD l] (.int .i64 l.check) := by
  refine ret_of_pw dec_ref16_Check mixed (by simp) fun hwf => ?_
  simp only [wf_int, wf_bool, wf_ints, wf_list, wf_agg, wf_ptr, wf_fn, wf_tup, wf_all_cons, wf_all_nil, wf_all_map, inK_i64, maxLen_eq, List.length_map, ints_len, true_and, and_true, logD_eq, logC_eq, zpsD_len, recsD_len] at hwf
  have c1 := ref01_Check_ret l.disk
  rw [enter_eq]; unfold pc_ref16_Check
  unfold GDisk.check at c1
  cases hd : l.disk.ok with
  | false =>
    rw [hd] at c1
    have hc : l.check = 10 := by unfold GLog.check; rw [hd]; simp
    rw [hc]
    (try (simp -implicitDefEqProofs only [go_sem, logD_eq, logC_eq, diskD_eq, diskC_eq])); repeat' first | with_reducible exact True.intro | with_reducible refine And.intro ?_ ?_ | with_reducible intro _ | (((with_reducible refine isCall ?_); first | refine call_b (c1) rfl ?_ ?_ | refine call_d (c1) rfl ?_ | refine call_sb (c1) rfl ?_ ?_ | refine call_s (c1) rfl rfl ?_) <;> try (simp -implicitDefEqProofs only [go_sem, logD_eq, logC_eq, diskD_eq, diskC_eq])) | (((with_reducible refine vc_b ?_ ?_) <;> intro _) <;> try (simp -implicitDefEqProofs only [go_sem, logD_eq, logC_eq, diskD_eq, diskC_eq])) | simp (disch := omega) only [wrapI, wrapU, shl1, shl1', shl1'', shrN, shrN', and_one] | ((with_reducible refine isEx ?_); refine ⟨_, rfl, ?_, ?_⟩)
    all_goals first | omega | (simp; done) | (simp; omega) | skip
  | true =>
    rw [hd] at c1
    have g := good_of hd
    have hsz := size_bound g
    have c2 := ref01_IsRun_ret l.disk hd l.from' l.slots.length
    have c3 := ref16_within_ret l.blocks 1 8
    have c4 := ref16_within_ret l.slots.length 2 12
    cases hb : inZ l.blocks 1 8 with
    | false =>
      rw [hb] at c3
      have hc : l.check = 160 := by unfold GLog.check GLog.head; rw [hd, hb]; simp
      rw [hc]
      (try (simp -implicitDefEqProofs only [go_sem, logD_eq, logC_eq, diskD_eq, diskC_eq, recsD_len])); repeat' first | with_reducible exact True.intro | with_reducible refine And.intro ?_ ?_ | with_reducible intro _ | (((with_reducible refine isCall ?_); first | refine call_b (c1) rfl ?_ ?_ | refine call_d (c1) rfl ?_ | refine call_sb (c1) rfl ?_ ?_ | refine call_s (c1) rfl rfl ?_ | refine call_b (c3) rfl ?_ ?_ | refine call_d (c3) rfl ?_ | refine call_sb (c3) rfl ?_ ?_ | refine call_s (c3) rfl rfl ?_) <;> try (simp -implicitDefEqProofs only [go_sem, logD_eq, logC_eq, diskD_eq, diskC_eq, recsD_len])) | (((with_reducible refine vc_b ?_ ?_) <;> intro _) <;> try (simp -implicitDefEqProofs only [go_sem, logD_eq, logC_eq, diskD_eq, diskC_eq, recsD_len])) | simp (disch := omega) only [wrapI, wrapU, shl1, shl1', shl1'', shrN, shrN', and_one] | ((with_reducible refine isEx ?_); refine ⟨_, rfl, ?_, ?_⟩)
      all_goals first | omega | (simp; done) | (simp; omega) | skip
    | true =>
    rw [hb] at c3
    cases hl : inZ l.slots.length 2 12 with
    | false =>
      rw [hl] at c4
      have hc : l.check = 160 := by unfold GLog.check GLog.head; rw [hd, hb, hl]; simp
      rw [hc]
      (try (simp -implicitDefEqProofs only [go_sem, logD_eq, logC_eq, diskD_eq, diskC_eq, recsD_len])); repeat' first | with_reducible exact True.intro | with_reducible refine And.intro ?_ ?_ | with_reducible intro _ | (((with_reducible refine isCall ?_); first | refine call_b (c1) rfl ?_ ?_ | refine call_d (c1) rfl ?_ | refine call_sb (c1) rfl ?_ ?_ | refine call_s (c1) rfl rfl ?_ | refine call_b (c3) rfl ?_ ?_ | refine call_d (c3) rfl ?_ | refine call_sb (c3) rfl ?_ ?_ | refine call_s (c3) rfl rfl ?_ | refine call_b (c4) rfl ?_ ?_ | refine call_d (c4) rfl ?_ | refine call_sb (c4) rfl ?_ ?_ | refine call_s (c4) rfl rfl ?_) <;> try (simp -implicitDefEqProofs only [go_sem, logD_eq, logC_eq, diskD_eq, diskC_eq, recsD_len])) | (((with_reducible refine vc_b ?_ ?_) <;> intro _) <;> try (simp -implicitDefEqProofs only [go_sem, logD_eq, logC_eq, diskD_eq, diskC_eq, recsD_len])) | simp (disch := omega) only [wrapI, wrapU, shl1, shl1', shl1'', shrN, shrN', and_one] | ((with_reducible refine isEx ?_); refine ⟨_, rfl, ?_, ?_⟩)
      all_goals first | omega | (simp; done) | (simp; omega) | skip
    | true =>
    rw [hl] at c4
    have hl2 := inZ_iff.1 hl
    have hb2 := inZ_iff.1 hb
    have hrun : decide (l.disk.isRun l.from' l.slots.length) = inZ l.from' 0 (l.disk.size - l.slots.length) := by unfold inZ; refine decide_eq_decide.2 ?_; unfold GDisk.isRun; omega
    rw [hrun] at c2
    cases hf : inZ l.from' 0 (l.disk.size - l.slots.length) with
    | false =>
      rw [hf] at c2
      have hc : l.check = 160 := by unfold GLog.check GLog.head; rw [hd, hb, hl, hf]; simp
      rw [hc]
      (try (simp -implicitDefEqProofs only [go_sem, logD_eq, logC_eq, diskD_eq, diskC_eq, recsD_len])); repeat' first | with_reducible exact True.intro | with_reducible refine And.intro ?_ ?_ | with_reducible intro _ | (((with_reducible refine isCall ?_); first | refine call_b (c1) rfl ?_ ?_ | refine call_d (c1) rfl ?_ | refine call_sb (c1) rfl ?_ ?_ | refine call_s (c1) rfl rfl ?_ | refine call_b (c2) rfl ?_ ?_ | refine call_d (c2) rfl ?_ | refine call_sb (c2) rfl ?_ ?_ | refine call_s (c2) rfl rfl ?_ | refine call_b (c3) rfl ?_ ?_ | refine call_d (c3) rfl ?_ | refine call_sb (c3) rfl ?_ ?_ | refine call_s (c3) rfl rfl ?_ | refine call_b (c4) rfl ?_ ?_ | refine call_d (c4) rfl ?_ | refine call_sb (c4) rfl ?_ ?_ | refine call_s (c4) rfl rfl ?_) <;> try (simp -implicitDefEqProofs only [go_sem, logD_eq, logC_eq, diskD_eq, diskC_eq, recsD_len])) | (((with_reducible refine vc_b ?_ ?_) <;> intro _) <;> try (simp -implicitDefEqProofs only [go_sem, logD_eq, logC_eq, diskD_eq, diskC_eq, recsD_len])) | simp (disch := omega) only [wrapI, wrapU, shl1, shl1', shl1'', shrN, shrN', and_one] | ((with_reducible refine isEx ?_); refine ⟨_, rfl, ?_, ?_⟩)
      all_goals first | omega | (simp; done) | (simp; omega) | skip
    | true =>
      rw [hf] at c2
      have hh : l.head = true := by unfold GLog.head; rw [hb, hl, hf]; simp
      (try (simp -implicitDefEqProofs only [go_sem, logD_eq, logC_eq, diskD_eq, diskC_eq, recsD_len])); repeat' first | with_reducible exact True.intro | with_reducible refine And.intro ?_ ?_ | with_reducible intro _ | (((with_reducible refine isCall ?_); first | refine call_b (c1) rfl ?_ ?_ | refine call_d (c1) rfl ?_ | refine call_sb (c1) rfl ?_ ?_ | refine call_s (c1) rfl rfl ?_ | refine call_b (c2) rfl ?_ ?_ | refine call_d (c2) rfl ?_ | refine call_sb (c2) rfl ?_ ?_ | refine call_s (c2) rfl rfl ?_ | refine call_b (c3) rfl ?_ ?_ | refine call_d (c3) rfl ?_ | refine call_sb (c3) rfl ?_ ?_ | refine call_s (c3) rfl rfl ?_ | refine call_b (c4) rfl ?_ ?_ | refine call_d (c4) rfl ?_ | refine call_sb (c4) rfl ?_ ?_ | refine call_s (c4) rfl rfl ?_) <;> try (simp -implicitDefEqProofs only [go_sem, logD_eq, logC_eq, diskD_eq, diskC_eq, recsD_len])) | (((with_reducible refine vc_b ?_ ?_) <;> intro _) <;> try (simp -implicitDefEqProofs only [go_sem, logD_eq, logC_eq, diskD_eq, diskC_eq, recsD_len])) | simp (disch := omega) only [wrapI, wrapU, shl1, shl1', shl1'', shrN, shrN', and_one] | ((with_reducible refine isEx ?_); refine ⟨_, rfl, ?_, ?_⟩)
      all_goals (try omega)
      refine pw_loopS (α := Int) (l0 := ?l1) (m0 := ?m1) (fun x => [(3, .d (.int .i64 x))]) (fun x => []) (fun x => (0 ≤ x ∧ x ≤ l.slots.length) ∧ l.allOk x.toNat = true) (fun x => (l.slots.length - x).toNat) ?a1_0 ?h01 ?he1 ?he21 ?hI1 ?step1
      case h01 => (simp -implicitDefEqProofs only [go_sem, recsD_len, logC_eq]; rfl)
      case he1 => rfl
      case he21 => rfl
      case' step1 => (rintro i hI; try dsimp only at hI)
      case' hI1 => try dsimp only
      · exact ⟨⟨by omega, by omega⟩, rfl⟩
      · obtain ⟨⟨q1, q2⟩, q3⟩ := hI
        by_cases hi : i < l.slots.length
        · have w3 : IntKind.i64.wrap (i + 1) = i + 1 := wrapI _ (by omega)
          have hbad := check_bad hd ⟨q1, hi⟩
          have hgood := allOk_next q1 q3
          have c5 := ref16_isSlot_ret l i ⟨q1, hi⟩ hb2 (by omega)
          cases hs : slotOk l.blocks l.slots.length i (l.slots[i.toNat]?.getD default) with
          | false =>
            rw [hs] at c5
            rw [hbad hs]
            (try (simp -implicitDefEqProofs only [go_sem, recsD_len, w3, logD_eq, logC_eq, hi])); repeat' first | with_reducible exact True.intro | with_reducible refine And.intro ?_ ?_ | with_reducible intro _ | (((with_reducible refine isCall ?_); first | refine call_b (c5) rfl ?_ ?_ | refine call_d (c5) rfl ?_ | refine call_sb (c5) rfl ?_ ?_ | refine call_s (c5) rfl rfl ?_) <;> try (simp -implicitDefEqProofs only [go_sem, recsD_len, w3, logD_eq, logC_eq, hi])) | (((with_reducible refine vc_b ?_ ?_) <;> intro _) <;> try (simp -implicitDefEqProofs only [go_sem, recsD_len, w3, logD_eq, logC_eq, hi])) | simp (disch := omega) only [wrapI, wrapU, shl1, shl1', shl1'', shrN, shrN', and_one] | ((with_reducible refine isEx ?_); refine ⟨_, rfl, ?_, ?_⟩)
            all_goals first | omega | (simp; done) | (simp; omega) | skip
          | true =>
            rw [hs] at c5
            have hg := hgood hs
            (try (simp -implicitDefEqProofs only [go_sem, recsD_len, w3, logD_eq, logC_eq, hi])); repeat' first | with_reducible exact True.intro | with_reducible refine And.intro ?_ ?_ | with_reducible intro _ | (((with_reducible refine isCall ?_); first | refine call_b (c5) rfl ?_ ?_ | refine call_d (c5) rfl ?_ | refine call_sb (c5) rfl ?_ ?_ | refine call_s (c5) rfl rfl ?_) <;> try (simp -implicitDefEqProofs only [go_sem, recsD_len, w3, logD_eq, logC_eq, hi])) | (((with_reducible refine vc_b ?_ ?_) <;> intro _) <;> try (simp -implicitDefEqProofs only [go_sem, recsD_len, w3, logD_eq, logC_eq, hi])) | simp (disch := omega) only [wrapI, wrapU, shl1, shl1', shl1'', shrN, shrN', and_one] | ((with_reducible refine isEx ?_); refine ⟨_, rfl, ?_, ?_⟩)
            all_goals first | omega | exact hg | skip
        · have hie : i.toNat = l.slots.length := by omega
          rw [hie] at q3
          have hc : l.check = 0 := by unfold GLog.check; rw [hd, hh, q3]; simp
          rw [hc]
          (try (simp -implicitDefEqProofs only [go_sem, recsD_len, logC_eq, hi])); repeat' first | with_reducible exact True.intro | with_reducible refine And.intro ?_ ?_ | with_reducible intro _ | (((with_reducible refine vc_b ?_ ?_) <;> intro _) <;> try (simp -implicitDefEqProofs only [go_sem, recsD_len, logC_eq, hi])) | simp (disch := omega) only [wrapI, wrapU, shl1, shl1', shl1'', shrN, shrN', and_one] | ((with_reducible refine isEx ?_); refine ⟨_, rfl, ?_, ?_⟩)
          all_goals first | omega | (simp; done) | (simp; omega) | skip
end Go.Pw
