/- A part of the proof. -/
import Derived.Test.YtiphmemigdplgaaDoorPgJournalM
import Derived.Test.YtiphmemigdplgaaDoorJournalSpec3
set_option linter.all false
open Go Go.Pw Go.Proofs
namespace Go.Pw
set_option linter.unusedSimpArgs false
set_option linter.unusedVariables false
set_option maxRecDepth 100000
set_option maxHeartbeats 3200000
theorem wrsD_take (l : List GWr) (n : Nat) : (wrsD l).take n = wrsD (l.take n) := by simp [wrsD]
theorem rdy_open {l : GLog} (h : l.rdy = true) : l.openE = 0 := by unfold GLog.rdy at h; simp at h; exact h.2
attribute [local congr] cg_pw cg_seqI cg_seqE cg_stepI cg_ev cg_evBin cg_condB cg_condV cg_thenQ cg_blockQ cg_onSome cg_onCells cg_onRow cg_onMap cg_onOpt cg_ghosts cg_ghost cg_evCall cg_part cg_rng cg_guardV cg_frzV cg_frpV cg_ownV cg_owcV cg_occV cg_occX cg_resK cg_res1 cg_yldP cg_rndE cg_onlyN cg_onHist
attribute [local irreducible] IntKind.wrap bitsOp Option.getD and or

theorem JournalCut_ret (l : GLog) (hs : l.sn = true → l.slots = []) (hz : l.disk.zn = true → l.disk.zones = []) (nw : Bool) (es : List GWr) (hw : nw = true → es = []) (d : Int) (torn : Bool) (home : D) :
    Ret E0 F_law16_JournalCut [logD l, .agg [.list nw (wrsD es), .int .i64 d, .bool torn, home]] (.bool true) := by
  refine ret_of_pw dec_law16_JournalCut mixed (by simp) fun hwf => ?_
  have c0 := law16_ready_ret l
  have cw := law16_works_ret
  rw [enter_eq]; unfold pc_law16_JournalCut
  cases hf : l.rdy with
  | false =>
    rw [hf] at c0
    (try (simp -implicitDefEqProofs only [go_sem, logD_eq, logC_eq])); repeat' first | with_reducible exact True.intro | with_reducible refine And.intro ?_ ?_ | with_reducible intro _ | (((with_reducible refine isCall ?_); first | refine call_b (c0) rfl ?_ ?_ | refine call_d (c0) rfl ?_ | refine call_sb (c0) rfl ?_ ?_ | refine call_s (c0) rfl rfl ?_ | refine call_b (cw) rfl ?_ ?_ | refine call_d (cw) rfl ?_ | refine call_sb (cw) rfl ?_ ?_ | refine call_s (cw) rfl rfl ?_) <;> try (simp -implicitDefEqProofs only [go_sem, logD_eq, logC_eq])) | (((with_reducible refine vc_b ?_ ?_) <;> intro _) <;> try (simp -implicitDefEqProofs only [go_sem, logD_eq, logC_eq])) | simp (disch := omega) only [wrapI, wrapU, shl1, shl1', shl1'', shrN, shrN', and_one] 
    all_goals trace_state
  | true =>
    rw [hf] at c0
    have he := rdy_open hf
    obtain ⟨e1, e2⟩ := openE_0 he
    have g := check_good e1
    by_cases h40 : 40 < (es.length : Int)
    · (try (simp -implicitDefEqProofs only [go_sem, logD_eq, logC_eq, wrsD_len, h40])); repeat' first | with_reducible exact True.intro | with_reducible refine And.intro ?_ ?_ | with_reducible intro _ | (((with_reducible refine isCall ?_); first | refine call_b (c0) rfl ?_ ?_ | refine call_d (c0) rfl ?_ | refine call_sb (c0) rfl ?_ ?_ | refine call_s (c0) rfl rfl ?_ | refine call_b (cw) rfl ?_ ?_ | refine call_d (cw) rfl ?_ | refine call_sb (cw) rfl ?_ ?_ | refine call_s (cw) rfl rfl ?_) <;> try (simp -implicitDefEqProofs only [go_sem, logD_eq, logC_eq, wrsD_len, h40])) | (((with_reducible refine vc_b ?_ ?_) <;> intro _) <;> try (simp -implicitDefEqProofs only [go_sem, logD_eq, logC_eq, wrsD_len, h40])) | simp (disch := omega) only [wrapI, wrapU, shl1, shl1', shl1'', shrN, shrN', and_one] 
      all_goals trace_state
    · by_cases hd0 : d < 0
      · (try (simp -implicitDefEqProofs only [go_sem, logD_eq, logC_eq, wrsD_len, h40, hd0])); repeat' first | with_reducible exact True.intro | with_reducible refine And.intro ?_ ?_ | with_reducible intro _ | (((with_reducible refine isCall ?_); first | refine call_b (c0) rfl ?_ ?_ | refine call_d (c0) rfl ?_ | refine call_sb (c0) rfl ?_ ?_ | refine call_s (c0) rfl rfl ?_ | refine call_b (cw) rfl ?_ ?_ | refine call_d (cw) rfl ?_ | refine call_sb (cw) rfl ?_ ?_ | refine call_s (cw) rfl rfl ?_) <;> try (simp -implicitDefEqProofs only [go_sem, logD_eq, logC_eq, wrsD_len, h40, hd0])) | (((with_reducible refine vc_b ?_ ?_) <;> intro _) <;> try (simp -implicitDefEqProofs only [go_sem, logD_eq, logC_eq, wrsD_len, h40, hd0])) | simp (disch := omega) only [wrapI, wrapU, shl1, shl1', shl1'', shrN, shrN', and_one] 
        all_goals trace_state
      · by_cases hd1 : (es.length : Int) < d
        · (try (simp -implicitDefEqProofs only [go_sem, logD_eq, logC_eq, wrsD_len, h40, hd0, hd1])); repeat' first | with_reducible exact True.intro | with_reducible refine And.intro ?_ ?_ | with_reducible intro _ | (((with_reducible refine isCall ?_); first | refine call_b (c0) rfl ?_ ?_ | refine call_d (c0) rfl ?_ | refine call_sb (c0) rfl ?_ ?_ | refine call_s (c0) rfl rfl ?_ | refine call_b (cw) rfl ?_ ?_ | refine call_d (cw) rfl ?_ | refine call_sb (cw) rfl ?_ ?_ | refine call_s (cw) rfl rfl ?_) <;> try (simp -implicitDefEqProofs only [go_sem, logD_eq, logC_eq, wrsD_len, h40, hd0, hd1])) | (((with_reducible refine vc_b ?_ ?_) <;> intro _) <;> try (simp -implicitDefEqProofs only [go_sem, logD_eq, logC_eq, wrsD_len, h40, hd0, hd1])) | simp (disch := omega) only [wrapI, wrapU, shl1, shl1', shl1'', shrN, shrN', and_one] 
          all_goals trace_state
        · have hd2 : ((d.toNat : Nat) : Int) = d := by omega
          have hd3 : d.toNat ≤ es.length := by omega
          have hd4 : (es.take d.toNat).length = d.toNat := by simp; omega
          have hd5 : ((es.take d.toNat).length : Int) = d := by omega
          have k2 := cutE_of he es es.length false (by omega) (fun h => by cases h)
          have c2 := journal_Append_ret l hs hz nw es
          have c3 := journal_Append_ret l hs hz nw (es.take d.toNat)
          have k3 := cutE_of he (es.take d.toNat) (es.take d.toNat).length false (by omega) (fun h => by cases h)
          rw [hd5] at c3 k3
          rw [hd4] at k3
          rw [errN_take _ _ _ _ _ (Nat.le_refl _)] at k3
          cases torn with
          | false =>
            have k1 := cutE_of he es d false (by omega) (fun h => by cases h)
            have c1 := journal_Cut_ret l hs hz nw es d false
            rw [k1] at c1
            rw [k2] at c2
            by_cases hE : errN l.blocks l.slots es es.length = 0
            · have hE2 := errN_zero hE hd3
              rw [hE2] at k3
              rw [hE] at k1
              obtain ⟨a1, a2, a3⟩ := cut_all (torn := false) e1 e2 hE hd3 (fun h => by cases h)
              obtain ⟨b1, b2, b3⟩ := cut_all (es := es.take d.toNat) (d := d.toNat) (torn := false) e1 e2 (by rw [hd4, errN_take _ _ _ _ _ (Nat.le_refl _)]; exact hE2) (by omega) (fun h => by cases h)
              rw [putN_take _ _ _ _ (Nat.le_refl _)] at b2
              rw [← cutL_of k1] at a1 a2
              rw [← cutL_of k3] at b1 b2
              have c4 := journal_Recover_ret (l.cutL es d false) cutL_sn cutL_zn
              have c5 := journal_Recover_ret (l.cutL (es.take d.toNat) d false) cutL_sn cutL_zn
              rw [recE_of a1, a2, a1] at c4
              rw [recE_of b1, b2, b1] at c5
              rw [hE] at c1 c2
              rw [k3] at c3
              generalize l.cutL es d false = L1 at *
              generalize l.cutL (es.take d.toNat) d false = L2 at *
              generalize l.cutL es es.length false = L3 at *
              generalize (l.setS (putN l.slots es d.toNat)).kept = K at *
              have c6 := law16_sameRecords_ret K.isEmpty K.isEmpty K K true (by simp)
              (try (simp -implicitDefEqProofs only [go_sem, logD_eq, logC_eq, wrsD_len, wrsD_unif, wrsD_take, h40, hd0, hd1])); repeat' first | with_reducible exact True.intro | with_reducible refine And.intro ?_ ?_ | with_reducible intro _ | (((with_reducible refine isCall ?_); first | refine call_b (c0) rfl ?_ ?_ | refine call_d (c0) rfl ?_ | refine call_sb (c0) rfl ?_ ?_ | refine call_s (c0) rfl rfl ?_ | refine call_b (cw) rfl ?_ ?_ | refine call_d (cw) rfl ?_ | refine call_sb (cw) rfl ?_ ?_ | refine call_s (cw) rfl rfl ?_ | refine call_b (c1) rfl ?_ ?_ | refine call_d (c1) rfl ?_ | refine call_sb (c1) rfl ?_ ?_ | refine call_s (c1) rfl rfl ?_ | refine call_b (c2) rfl ?_ ?_ | refine call_d (c2) rfl ?_ | refine call_sb (c2) rfl ?_ ?_ | refine call_s (c2) rfl rfl ?_ | refine call_b (c3) rfl ?_ ?_ | refine call_d (c3) rfl ?_ | refine call_sb (c3) rfl ?_ ?_ | refine call_s (c3) rfl rfl ?_ | refine call_b (c4) rfl ?_ ?_ | refine call_d (c4) rfl ?_ | refine call_sb (c4) rfl ?_ ?_ | refine call_s (c4) rfl rfl ?_ | refine call_b (c5) rfl ?_ ?_ | refine call_d (c5) rfl ?_ | refine call_sb (c5) rfl ?_ ?_ | refine call_s (c5) rfl rfl ?_ | refine call_b (c6) rfl ?_ ?_ | refine call_d (c6) rfl ?_ | refine call_sb (c6) rfl ?_ ?_ | refine call_s (c6) rfl rfl ?_) <;> try (simp -implicitDefEqProofs only [go_sem, logD_eq, logC_eq, wrsD_len, wrsD_unif, wrsD_take, h40, hd0, hd1])) | (((with_reducible refine vc_b ?_ ?_) <;> intro _) <;> try (simp -implicitDefEqProofs only [go_sem, logD_eq, logC_eq, wrsD_len, wrsD_unif, wrsD_take, h40, hd0, hd1])) | simp (disch := omega) only [wrapI, wrapU, shl1, shl1', shl1'', shrN, shrN', and_one] 
              all_goals first | omega | rfl | trace_state
            · (try (simp -implicitDefEqProofs only [go_sem, logD_eq, logC_eq, wrsD_len, h40, hd0, hd1, hE])); repeat' first | with_reducible exact True.intro | with_reducible refine And.intro ?_ ?_ | with_reducible intro _ | (((with_reducible refine isCall ?_); first | refine call_b (c0) rfl ?_ ?_ | refine call_d (c0) rfl ?_ | refine call_sb (c0) rfl ?_ ?_ | refine call_s (c0) rfl rfl ?_ | refine call_b (cw) rfl ?_ ?_ | refine call_d (cw) rfl ?_ | refine call_sb (cw) rfl ?_ ?_ | refine call_s (cw) rfl rfl ?_ | refine call_b (c1) rfl ?_ ?_ | refine call_d (c1) rfl ?_ | refine call_sb (c1) rfl ?_ ?_ | refine call_s (c1) rfl rfl ?_ | refine call_b (c2) rfl ?_ ?_ | refine call_d (c2) rfl ?_ | refine call_sb (c2) rfl ?_ ?_ | refine call_s (c2) rfl rfl ?_) <;> try (simp -implicitDefEqProofs only [go_sem, logD_eq, logC_eq, wrsD_len, h40, hd0, hd1, hE])) | (((with_reducible refine vc_b ?_ ?_) <;> intro _) <;> try (simp -implicitDefEqProofs only [go_sem, logD_eq, logC_eq, wrsD_len, h40, hd0, hd1, hE])) | simp (disch := omega) only [wrapI, wrapU, shl1, shl1', shl1'', shrN, shrN', and_one] 
              all_goals first | omega | rfl | trace_state
          | true =>
            by_cases hdl : d = es.length
            · (try (simp -implicitDefEqProofs only [go_sem, logD_eq, logC_eq, wrsD_len, h40, hd0, hd1, eq_true hdl])); repeat' first | with_reducible exact True.intro | with_reducible refine And.intro ?_ ?_ | with_reducible intro _ | (((with_reducible refine isCall ?_); first | refine call_b (c0) rfl ?_ ?_ | refine call_d (c0) rfl ?_ | refine call_sb (c0) rfl ?_ ?_ | refine call_s (c0) rfl rfl ?_ | refine call_b (cw) rfl ?_ ?_ | refine call_d (cw) rfl ?_ | refine call_sb (cw) rfl ?_ ?_ | refine call_s (cw) rfl rfl ?_) <;> try (simp -implicitDefEqProofs only [go_sem, logD_eq, logC_eq, wrsD_len, h40, hd0, hd1, eq_true hdl])) | (((with_reducible refine vc_b ?_ ?_) <;> intro _) <;> try (simp -implicitDefEqProofs only [go_sem, logD_eq, logC_eq, wrsD_len, h40, hd0, hd1, eq_true hdl])) | simp (disch := omega) only [wrapI, wrapU, shl1, shl1', shl1'', shrN, shrN', and_one] 
              all_goals first | omega | rfl | trace_state
            · have hdl2 : d.toNat < es.length := by omega
              have k1 := cutE_of he es d true (by omega) (fun _ => hdl)
              have c1 := journal_Cut_ret l hs hz nw es d true
              rw [k1] at c1
              rw [k2] at c2
              by_cases hE : errN l.blocks l.slots es es.length = 0
              · have hE2 := errN_zero hE hd3
                rw [hE2] at k3
                rw [hE] at k1
                obtain ⟨a1, a2, a3⟩ := cut_all (torn := true) e1 e2 hE hd3 (fun _ => hdl2)
                obtain ⟨b1, b2, b3⟩ := cut_all (es := es.take d.toNat) (d := d.toNat) (torn := false) e1 e2 (by rw [hd4, errN_take _ _ _ _ _ (Nat.le_refl _)]; exact hE2) (by omega) (fun h => by cases h)
                rw [putN_take _ _ _ _ (Nat.le_refl _)] at b2
                rw [← cutL_of k1] at a1 a2
                rw [← cutL_of k3] at b1 b2
                have c4 := journal_Recover_ret (l.cutL es d true) cutL_sn cutL_zn
                have c5 := journal_Recover_ret (l.cutL (es.take d.toNat) d false) cutL_sn cutL_zn
                rw [recE_of a1, a2, a1] at c4
                rw [recE_of b1, b2, b1] at c5
                rw [hE] at c1 c2
                rw [k3] at c3
                generalize l.cutL es d true = L1 at *
                generalize l.cutL (es.take d.toNat) d false = L2 at *
                generalize l.cutL es es.length false = L3 at *
                generalize (l.setS (putN l.slots es d.toNat)).kept = K at *
                have c6 := law16_sameRecords_ret K.isEmpty K.isEmpty K K true (by simp)
                (try (simp -implicitDefEqProofs only [go_sem, logD_eq, logC_eq, wrsD_len, wrsD_unif, wrsD_take, h40, hd0, hd1, hdl])); repeat' first | with_reducible exact True.intro | with_reducible refine And.intro ?_ ?_ | with_reducible intro _ | (((with_reducible refine isCall ?_); first | refine call_b (c0) rfl ?_ ?_ | refine call_d (c0) rfl ?_ | refine call_sb (c0) rfl ?_ ?_ | refine call_s (c0) rfl rfl ?_ | refine call_b (cw) rfl ?_ ?_ | refine call_d (cw) rfl ?_ | refine call_sb (cw) rfl ?_ ?_ | refine call_s (cw) rfl rfl ?_ | refine call_b (c1) rfl ?_ ?_ | refine call_d (c1) rfl ?_ | refine call_sb (c1) rfl ?_ ?_ | refine call_s (c1) rfl rfl ?_ | refine call_b (c2) rfl ?_ ?_ | refine call_d (c2) rfl ?_ | refine call_sb (c2) rfl ?_ ?_ | refine call_s (c2) rfl rfl ?_ | refine call_b (c3) rfl ?_ ?_ | refine call_d (c3) rfl ?_ | refine call_sb (c3) rfl ?_ ?_ | refine call_s (c3) rfl rfl ?_ | refine call_b (c4) rfl ?_ ?_ | refine call_d (c4) rfl ?_ | refine call_sb (c4) rfl ?_ ?_ | refine call_s (c4) rfl rfl ?_ | refine call_b (c5) rfl ?_ ?_ | refine call_d (c5) rfl ?_ | refine call_sb (c5) rfl ?_ ?_ | refine call_s (c5) rfl rfl ?_ | refine call_b (c6) rfl ?_ ?_ | refine call_d (c6) rfl ?_ | refine call_sb (c6) rfl ?_ ?_ | refine call_s (c6) rfl rfl ?_) <;> try (simp -implicitDefEqProofs only [go_sem, logD_eq, logC_eq, wrsD_len, wrsD_unif, wrsD_take, h40, hd0, hd1, hdl])) | (((with_reducible refine vc_b ?_ ?_) <;> intro _) <;> try (simp -implicitDefEqProofs only [go_sem, logD_eq, logC_eq, wrsD_len, wrsD_unif, wrsD_take, h40, hd0, hd1, hdl])) | simp (disch := omega) only [wrapI, wrapU, shl1, shl1', shl1'', shrN, shrN', and_one] 
                all_goals first | omega | rfl | trace_state
              · (try (simp -implicitDefEqProofs only [go_sem, logD_eq, logC_eq, wrsD_len, h40, hd0, hd1, hdl, hE])); repeat' first | with_reducible exact True.intro | with_reducible refine And.intro ?_ ?_ | with_reducible intro _ | (((with_reducible refine isCall ?_); first | refine call_b (c0) rfl ?_ ?_ | refine call_d (c0) rfl ?_ | refine call_sb (c0) rfl ?_ ?_ | refine call_s (c0) rfl rfl ?_ | refine call_b (cw) rfl ?_ ?_ | refine call_d (cw) rfl ?_ | refine call_sb (cw) rfl ?_ ?_ | refine call_s (cw) rfl rfl ?_ | refine call_b (c1) rfl ?_ ?_ | refine call_d (c1) rfl ?_ | refine call_sb (c1) rfl ?_ ?_ | refine call_s (c1) rfl rfl ?_ | refine call_b (c2) rfl ?_ ?_ | refine call_d (c2) rfl ?_ | refine call_sb (c2) rfl ?_ ?_ | refine call_s (c2) rfl rfl ?_) <;> try (simp -implicitDefEqProofs only [go_sem, logD_eq, logC_eq, wrsD_len, h40, hd0, hd1, hdl, hE])) | (((with_reducible refine vc_b ?_ ?_) <;> intro _) <;> try (simp -implicitDefEqProofs only [go_sem, logD_eq, logC_eq, wrsD_len, h40, hd0, hd1, hdl, hE])) | simp (disch := omega) only [wrapI, wrapU, shl1, shl1', shl1'', shrN, shrN', and_one] 
                all_goals first | omega | rfl | trace_state
end Go.Pw
