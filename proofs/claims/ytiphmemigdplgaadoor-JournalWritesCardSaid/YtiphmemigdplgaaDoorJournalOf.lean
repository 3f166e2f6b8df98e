/- A part of the proof. -/
import Derived.Test.YtiphmemigdplgaaDoorPgJournalOd
import Derived.Test.YtiphmemigdplgaaDoorJournalP
set_option linter.all false
open Go Go.Pw Go.Proofs
namespace Go.Pw
set_option linter.unusedSimpArgs false
set_option linter.unusedVariables false
set_option maxRecDepth 100000
set_option maxHeartbeats 6400000
theorem cut_sameE (l : GLog) (es : List GWr) (d : Int) (torn : Bool) : l.cpy.cutE es d torn = l.cutE es d torn := by unfold GLog.cutE; rw [cpy_open]; rfl
theorem cut_same (l : GLog) (es : List GWr) (d : Int) (torn : Bool) : l.cpy.cutL es d torn = l.refL es d torn := by unfold GLog.cutL GLog.refL; rw [cut_sameE]; rfl
theorem rep_sameE (l : GLog) (home : List Int) : l.cpy.replayE home = l.replayE home := by unfold GLog.replayE; rw [cpy_open]; rfl
theorem rep_same (l : GLog) (home : List Int) : l.cpy.repL home = l.repL home := rfl
theorem cpy_flags (l : GLog) : l.cpy = { l with disk := { l.disk with zn := false }, sn := false } := rfl
theorem Same_refl (l : GLog) : ({ l with disk := { l.disk with zn := l.disk.zn }, sn := l.sn } : GLog) = l := rfl
theorem ints_eqnil (l : List Int) : (ints l = []) = (l = []) := by cases l <;> simp [ints]
theorem wrsD_eqnil (l : List GWr) : (wrsD l = []) = (l = []) := by cases l <;> simp [wrsD]
attribute [local congr] cg_pw cg_seqI cg_seqE cg_stepI cg_ev cg_evBin cg_condB cg_condV cg_thenQ cg_blockQ cg_onSome cg_onCells cg_onRow cg_onMap cg_onOpt cg_ghosts cg_ghost cg_evCall cg_part cg_rng cg_guardV cg_frzV cg_frpV cg_ownV cg_owcV cg_occV cg_occX cg_resK cg_res1 cg_yldP cg_rndE cg_onlyN cg_onHist
attribute [local irreducible] IntKind.wrap bitsOp Option.getD and or

theorem JournalWrites_ret (l : GLog) (nw : Bool) (es : List GWr) (d : Int) (torn : Bool) (nh : Bool) (home : List Int) (hw : nw = true → es = []) (hh : nh = true → home = []) :
    Ret E0 F_law16_JournalWrites [logD l, .agg [.list nw (wrsD es), .int .i64 d, .bool torn, .list nh (ints home)]] (.bool true) := by
  refine ret_of_pw dec_law16_JournalWrites mixed (by simp) fun hwf => ?_
  have c0 := law16_Far_ret l
  have cw := law16_works_ret
  rw [enter_eq]; unfold pc_law16_JournalWrites
  cases hf : l.far with
  | true =>
    rw [hf] at c0
    (try (simp -implicitDefEqProofs only [go_sem, logD_eq, logC_eq])); repeat' first | with_reducible exact True.intro | with_reducible refine And.intro ?_ ?_ | with_reducible intro _ | (((with_reducible refine isCall ?_); first | refine call_b (c0) rfl ?_ ?_ | refine call_d (c0) rfl ?_ | refine call_sb (c0) rfl ?_ ?_ | refine call_s (c0) rfl rfl ?_ | refine call_b (cw) rfl ?_ ?_ | refine call_d (cw) rfl ?_ | refine call_sb (cw) rfl ?_ ?_ | refine call_s (cw) rfl rfl ?_) <;> try (simp -implicitDefEqProofs only [go_sem, logD_eq, logC_eq])) | (((with_reducible refine vc_b ?_ ?_) <;> intro _) <;> try (simp -implicitDefEqProofs only [go_sem, logD_eq, logC_eq])) | simp (disch := omega) only [wrapI, wrapU, shl1, shl1', shl1'', shrN, shrN', and_one] | ((with_reducible refine isEx ?_); refine ⟨_, rfl, ?_, ?_⟩)
    all_goals first | omega | rfl | trace_state
  | false =>
    rw [hf] at c0
    obtain ⟨hf1, hf2⟩ := lfar_len hf
    have hf3 := far_len hf1
    by_cases h40 : 40 < (es.length : Int)
    · (try (simp -implicitDefEqProofs only [go_sem, logD_eq, logC_eq, wrsD_len, h40])); repeat' first | with_reducible exact True.intro | with_reducible refine And.intro ?_ ?_ | with_reducible intro _ | (((with_reducible refine isCall ?_); first | refine call_b (c0) rfl ?_ ?_ | refine call_d (c0) rfl ?_ | refine call_sb (c0) rfl ?_ ?_ | refine call_s (c0) rfl rfl ?_ | refine call_b (cw) rfl ?_ ?_ | refine call_d (cw) rfl ?_ | refine call_sb (cw) rfl ?_ ?_ | refine call_s (cw) rfl rfl ?_) <;> try (simp -implicitDefEqProofs only [go_sem, logD_eq, logC_eq, wrsD_len, h40])) | (((with_reducible refine vc_b ?_ ?_) <;> intro _) <;> try (simp -implicitDefEqProofs only [go_sem, logD_eq, logC_eq, wrsD_len, h40])) | simp (disch := omega) only [wrapI, wrapU, shl1, shl1', shl1'', shrN, shrN', and_one] | ((with_reducible refine isEx ?_); refine ⟨_, rfl, ?_, ?_⟩)
      all_goals first | omega | rfl | trace_state
    · by_cases g40 : 40 < (home.length : Int)
      · (try (simp -implicitDefEqProofs only [go_sem, logD_eq, logC_eq, wrsD_len, ints_len, h40, g40])); repeat' first | with_reducible exact True.intro | with_reducible refine And.intro ?_ ?_ | with_reducible intro _ | (((with_reducible refine isCall ?_); first | refine call_b (c0) rfl ?_ ?_ | refine call_d (c0) rfl ?_ | refine call_sb (c0) rfl ?_ ?_ | refine call_s (c0) rfl rfl ?_ | refine call_b (cw) rfl ?_ ?_ | refine call_d (cw) rfl ?_ | refine call_sb (cw) rfl ?_ ?_ | refine call_s (cw) rfl rfl ?_) <;> try (simp -implicitDefEqProofs only [go_sem, logD_eq, logC_eq, wrsD_len, ints_len, h40, g40])) | (((with_reducible refine vc_b ?_ ?_) <;> intro _) <;> try (simp -implicitDefEqProofs only [go_sem, logD_eq, logC_eq, wrsD_len, ints_len, h40, g40])) | simp (disch := omega) only [wrapI, wrapU, shl1, shl1', shl1'', shrN, shrN', and_one] | ((with_reducible refine isEx ?_); refine ⟨_, rfl, ?_, ?_⟩)
        all_goals first | omega | rfl | trace_state
      · have c1 := ref16_Copy_ret l (by omega) (by omega)
        have s0 : l.cpy.sn = true → l.cpy.slots = [] := fun h => by cases h
        have z0 : l.cpy.disk.zn = true → l.cpy.disk.zones = [] := fun h => by cases h
        have c2 := journal_Append_ret l.cpy s0 z0 false es
        have c3 := ref16_Append_ret l nw es
        have c4 := ref16_Same_ret (l.refL es es.length false) (l.refL es es.length false).disk.zn (l.refL es es.length false).sn
        have c5 := journal_Cut_ret l.cpy s0 z0 false es d torn
        have c6 := ref16_Cut_ret l nw es d torn
        have c7 := ref16_Same_ret (l.refL es d torn) (l.refL es d torn).disk.zn (l.refL es d torn).sn
        have c8 := journal_Replay_ret l.cpy s0 z0 false home (fun h => by cases h)
        have c9 := ref16_Replay_ret l nh home hh
        have c10 := ref16_Same_ret l false false
        rw [Same_refl] at c4 c7
        rw [← cpy_flags] at c10
        rw [cut_same, cut_sameE] at c2 c5
        rw [rep_sameE, rep_same] at c8
        have c11 := law16_sameInts_ret false nh home home
        rw [decide_eq_true rfl] at c11
        generalize l.cutE es es.length false = E1 at *
        generalize l.refL es es.length false = L1 at *
        generalize l.cutE es d torn = E2 at *
        generalize l.refL es d torn = L2 at *
        generalize l.repL home = H at *
        generalize l.replayE home = E3 at *
        obtain ⟨Lc, hLc⟩ : ∃ Lc, l.cpy = Lc := ⟨_, rfl⟩
        rw [hLc] at c1 c2 c5 c8 c10
        by_cases he0 : es = []
        · subst he0
          rw [wrsD_nil] at *
          by_cases hh0 : home = []
          · subst hh0
            rw [show ints [] = [] from rfl] at *
            by_cases hE3 : E3 = 0
            · rw [if_pos hE3] at c8 c9
              have c12 := law16_sameInts_ret false false H H
              rw [decide_eq_true rfl] at c12
              (try (simp -implicitDefEqProofs only [go_sem, logD_eq, logC_eq, wrsD_nil])); repeat' first | with_reducible exact True.intro | with_reducible refine And.intro ?_ ?_ | with_reducible intro _ | (((with_reducible refine isCall ?_); first | refine call_b (c0) rfl ?_ ?_ | refine call_d (c0) rfl ?_ | refine call_sb (c0) rfl ?_ ?_ | refine call_s (c0) rfl rfl ?_ | refine call_b (cw) rfl ?_ ?_ | refine call_d (cw) rfl ?_ | refine call_sb (cw) rfl ?_ ?_ | refine call_s (cw) rfl rfl ?_ | refine call_b (c1) rfl ?_ ?_ | refine call_d (c1) rfl ?_ | refine call_sb (c1) rfl ?_ ?_ | refine call_s (c1) rfl rfl ?_ | refine call_b (c2) rfl ?_ ?_ | refine call_d (c2) rfl ?_ | refine call_sb (c2) rfl ?_ ?_ | refine call_s (c2) rfl rfl ?_ | refine call_b (c3) rfl ?_ ?_ | refine call_d (c3) rfl ?_ | refine call_sb (c3) rfl ?_ ?_ | refine call_s (c3) rfl rfl ?_ | refine call_b (c4) rfl ?_ ?_ | refine call_d (c4) rfl ?_ | refine call_sb (c4) rfl ?_ ?_ | refine call_s (c4) rfl rfl ?_ | refine call_b (c5) rfl ?_ ?_ | refine call_d (c5) rfl ?_ | refine call_sb (c5) rfl ?_ ?_ | refine call_s (c5) rfl rfl ?_ | refine call_b (c6) rfl ?_ ?_ | refine call_d (c6) rfl ?_ | refine call_sb (c6) rfl ?_ ?_ | refine call_s (c6) rfl rfl ?_ | refine call_b (c7) rfl ?_ ?_ | refine call_d (c7) rfl ?_ | refine call_sb (c7) rfl ?_ ?_ | refine call_s (c7) rfl rfl ?_ | refine call_b (c8) rfl ?_ ?_ | refine call_d (c8) rfl ?_ | refine call_sb (c8) rfl ?_ ?_ | refine call_s (c8) rfl rfl ?_ | refine call_b (c9) rfl ?_ ?_ | refine call_d (c9) rfl ?_ | refine call_sb (c9) rfl ?_ ?_ | refine call_s (c9) rfl rfl ?_ | refine call_b (c10) rfl ?_ ?_ | refine call_d (c10) rfl ?_ | refine call_sb (c10) rfl ?_ ?_ | refine call_s (c10) rfl rfl ?_ | refine call_b (c11) rfl ?_ ?_ | refine call_d (c11) rfl ?_ | refine call_sb (c11) rfl ?_ ?_ | refine call_s (c11) rfl rfl ?_ | refine call_b (c12) rfl ?_ ?_ | refine call_d (c12) rfl ?_ | refine call_sb (c12) rfl ?_ ?_ | refine call_s (c12) rfl rfl ?_) <;> try (simp -implicitDefEqProofs only [go_sem, logD_eq, logC_eq, wrsD_nil])) | (((with_reducible refine vc_b ?_ ?_) <;> intro _) <;> try (simp -implicitDefEqProofs only [go_sem, logD_eq, logC_eq, wrsD_nil])) | simp (disch := omega) only [wrapI, wrapU, shl1, shl1', shl1'', shrN, shrN', and_one] | ((with_reducible refine isEx ?_); refine ⟨_, rfl, ?_, ?_⟩)
              all_goals (first | omega | exact .inl True.intro | skip)
              refine pw_loopS (α := Int) (l0 := ?l1) (m0 := ?m1) (fun x => [(20, .d (.int .i64 x))]) (fun x => []) (fun x => 0 ≤ x ∧ x ≤ (0 : Int)) (fun x => ((0 : Int) - x).toNat) ?a1_0 ?h01 ?he1 ?he21 ?hI1 ?step1
              case h01 => (simp -implicitDefEqProofs only [go_sem, wrsD_len, wrsD_nil]; rfl)
              case he1 => rfl
              case he21 => rfl
              case' step1 => (rintro k hI; try dsimp only at hI)
              case' hI1 => try dsimp only
              · exact ⟨by omega, by omega⟩
              · have hk : ¬ k < 0 := by have := hI.1; omega
                have hk0 : k = 0 := by have := hI; omega
                subst hk0
                (try (simp -implicitDefEqProofs only [go_sem, wrsD_nil])); repeat' first | with_reducible exact True.intro | with_reducible refine And.intro ?_ ?_ | with_reducible intro _ | (((with_reducible refine isCall ?_); first | refine call_b (cw) rfl ?_ ?_ | refine call_d (cw) rfl ?_ | refine call_sb (cw) rfl ?_ ?_ | refine call_s (cw) rfl rfl ?_) <;> try (simp -implicitDefEqProofs only [go_sem, wrsD_nil])) | (((with_reducible refine vc_b ?_ ?_) <;> intro _) <;> try (simp -implicitDefEqProofs only [go_sem, wrsD_nil])) | simp (disch := omega) only [wrapI, wrapU, shl1, shl1', shl1'', shrN, shrN', and_one] | ((with_reducible refine isEx ?_); refine ⟨_, rfl, ?_, ?_⟩)
                all_goals first | omega | rfl | trace_state
            · rw [if_neg hE3] at c8 c9
              have c12 := law16_sameInts_ret true true [] []
              rw [decide_eq_true rfl, show ints [] = [] from rfl] at c12
              (try (simp -implicitDefEqProofs only [go_sem, logD_eq, logC_eq, wrsD_nil])); repeat' first | with_reducible exact True.intro | with_reducible refine And.intro ?_ ?_ | with_reducible intro _ | (((with_reducible refine isCall ?_); first | refine call_b (c0) rfl ?_ ?_ | refine call_d (c0) rfl ?_ | refine call_sb (c0) rfl ?_ ?_ | refine call_s (c0) rfl rfl ?_ | refine call_b (cw) rfl ?_ ?_ | refine call_d (cw) rfl ?_ | refine call_sb (cw) rfl ?_ ?_ | refine call_s (cw) rfl rfl ?_ | refine call_b (c1) rfl ?_ ?_ | refine call_d (c1) rfl ?_ | refine call_sb (c1) rfl ?_ ?_ | refine call_s (c1) rfl rfl ?_ | refine call_b (c2) rfl ?_ ?_ | refine call_d (c2) rfl ?_ | refine call_sb (c2) rfl ?_ ?_ | refine call_s (c2) rfl rfl ?_ | refine call_b (c3) rfl ?_ ?_ | refine call_d (c3) rfl ?_ | refine call_sb (c3) rfl ?_ ?_ | refine call_s (c3) rfl rfl ?_ | refine call_b (c4) rfl ?_ ?_ | refine call_d (c4) rfl ?_ | refine call_sb (c4) rfl ?_ ?_ | refine call_s (c4) rfl rfl ?_ | refine call_b (c5) rfl ?_ ?_ | refine call_d (c5) rfl ?_ | refine call_sb (c5) rfl ?_ ?_ | refine call_s (c5) rfl rfl ?_ | refine call_b (c6) rfl ?_ ?_ | refine call_d (c6) rfl ?_ | refine call_sb (c6) rfl ?_ ?_ | refine call_s (c6) rfl rfl ?_ | refine call_b (c7) rfl ?_ ?_ | refine call_d (c7) rfl ?_ | refine call_sb (c7) rfl ?_ ?_ | refine call_s (c7) rfl rfl ?_ | refine call_b (c8) rfl ?_ ?_ | refine call_d (c8) rfl ?_ | refine call_sb (c8) rfl ?_ ?_ | refine call_s (c8) rfl rfl ?_ | refine call_b (c9) rfl ?_ ?_ | refine call_d (c9) rfl ?_ | refine call_sb (c9) rfl ?_ ?_ | refine call_s (c9) rfl rfl ?_ | refine call_b (c10) rfl ?_ ?_ | refine call_d (c10) rfl ?_ | refine call_sb (c10) rfl ?_ ?_ | refine call_s (c10) rfl rfl ?_ | refine call_b (c11) rfl ?_ ?_ | refine call_d (c11) rfl ?_ | refine call_sb (c11) rfl ?_ ?_ | refine call_s (c11) rfl rfl ?_ | refine call_b (c12) rfl ?_ ?_ | refine call_d (c12) rfl ?_ | refine call_sb (c12) rfl ?_ ?_ | refine call_s (c12) rfl rfl ?_) <;> try (simp -implicitDefEqProofs only [go_sem, logD_eq, logC_eq, wrsD_nil])) | (((with_reducible refine vc_b ?_ ?_) <;> intro _) <;> try (simp -implicitDefEqProofs only [go_sem, logD_eq, logC_eq, wrsD_nil])) | simp (disch := omega) only [wrapI, wrapU, shl1, shl1', shl1'', shrN, shrN', and_one] | ((with_reducible refine isEx ?_); refine ⟨_, rfl, ?_, ?_⟩)
              all_goals (first | omega | exact .inl True.intro | skip)
              refine pw_loopS (α := Int) (l0 := ?l2) (m0 := ?m2) (fun x => [(20, .d (.int .i64 x))]) (fun x => []) (fun x => 0 ≤ x ∧ x ≤ (0 : Int)) (fun x => ((0 : Int) - x).toNat) ?a2_0 ?h02 ?he2 ?he22 ?hI2 ?step2
              case h02 => (simp -implicitDefEqProofs only [go_sem, wrsD_len, wrsD_nil]; rfl)
              case he2 => rfl
              case he22 => rfl
              case' step2 => (rintro k hI2; try dsimp only at hI2)
              case' hI2 => try dsimp only
              · exact ⟨by omega, by omega⟩
              · have hk : ¬ k < 0 := by have := hI2.1; omega
                have hk0 : k = 0 := by have := hI2; omega
                subst hk0
                (try (simp -implicitDefEqProofs only [go_sem, wrsD_nil])); repeat' first | with_reducible exact True.intro | with_reducible refine And.intro ?_ ?_ | with_reducible intro _ | (((with_reducible refine isCall ?_); first | refine call_b (cw) rfl ?_ ?_ | refine call_d (cw) rfl ?_ | refine call_sb (cw) rfl ?_ ?_ | refine call_s (cw) rfl rfl ?_) <;> try (simp -implicitDefEqProofs only [go_sem, wrsD_nil])) | (((with_reducible refine vc_b ?_ ?_) <;> intro _) <;> try (simp -implicitDefEqProofs only [go_sem, wrsD_nil])) | simp (disch := omega) only [wrapI, wrapU, shl1, shl1', shl1'', shrN, shrN', and_one] | ((with_reducible refine isEx ?_); refine ⟨_, rfl, ?_, ?_⟩)
                all_goals first | omega | rfl | trace_state
          · by_cases hE3 : E3 = 0
            · rw [if_pos hE3] at c8 c9
              have c12 := law16_sameInts_ret false false H H
              rw [decide_eq_true rfl] at c12
              (try (simp -implicitDefEqProofs only [go_sem, logD_eq, logC_eq, wrsD_nil, ints_len, ints_unif, ints_eqnil, hh0, g40])); repeat' first | with_reducible exact True.intro | with_reducible refine And.intro ?_ ?_ | with_reducible intro _ | (((with_reducible refine isCall ?_); first | refine call_b (c0) rfl ?_ ?_ | refine call_d (c0) rfl ?_ | refine call_sb (c0) rfl ?_ ?_ | refine call_s (c0) rfl rfl ?_ | refine call_b (cw) rfl ?_ ?_ | refine call_d (cw) rfl ?_ | refine call_sb (cw) rfl ?_ ?_ | refine call_s (cw) rfl rfl ?_ | refine call_b (c1) rfl ?_ ?_ | refine call_d (c1) rfl ?_ | refine call_sb (c1) rfl ?_ ?_ | refine call_s (c1) rfl rfl ?_ | refine call_b (c2) rfl ?_ ?_ | refine call_d (c2) rfl ?_ | refine call_sb (c2) rfl ?_ ?_ | refine call_s (c2) rfl rfl ?_ | refine call_b (c3) rfl ?_ ?_ | refine call_d (c3) rfl ?_ | refine call_sb (c3) rfl ?_ ?_ | refine call_s (c3) rfl rfl ?_ | refine call_b (c4) rfl ?_ ?_ | refine call_d (c4) rfl ?_ | refine call_sb (c4) rfl ?_ ?_ | refine call_s (c4) rfl rfl ?_ | refine call_b (c5) rfl ?_ ?_ | refine call_d (c5) rfl ?_ | refine call_sb (c5) rfl ?_ ?_ | refine call_s (c5) rfl rfl ?_ | refine call_b (c6) rfl ?_ ?_ | refine call_d (c6) rfl ?_ | refine call_sb (c6) rfl ?_ ?_ | refine call_s (c6) rfl rfl ?_ | refine call_b (c7) rfl ?_ ?_ | refine call_d (c7) rfl ?_ | refine call_sb (c7) rfl ?_ ?_ | refine call_s (c7) rfl rfl ?_ | refine call_b (c8) rfl ?_ ?_ | refine call_d (c8) rfl ?_ | refine call_sb (c8) rfl ?_ ?_ | refine call_s (c8) rfl rfl ?_ | refine call_b (c9) rfl ?_ ?_ | refine call_d (c9) rfl ?_ | refine call_sb (c9) rfl ?_ ?_ | refine call_s (c9) rfl rfl ?_ | refine call_b (c10) rfl ?_ ?_ | refine call_d (c10) rfl ?_ | refine call_sb (c10) rfl ?_ ?_ | refine call_s (c10) rfl rfl ?_ | refine call_b (c11) rfl ?_ ?_ | refine call_d (c11) rfl ?_ | refine call_sb (c11) rfl ?_ ?_ | refine call_s (c11) rfl rfl ?_ | refine call_b (c12) rfl ?_ ?_ | refine call_d (c12) rfl ?_ | refine call_sb (c12) rfl ?_ ?_ | refine call_s (c12) rfl rfl ?_) <;> try (simp -implicitDefEqProofs only [go_sem, logD_eq, logC_eq, wrsD_nil, ints_len, ints_unif, ints_eqnil, hh0, g40])) | (((with_reducible refine vc_b ?_ ?_) <;> intro _) <;> try (simp -implicitDefEqProofs only [go_sem, logD_eq, logC_eq, wrsD_nil, ints_len, ints_unif, ints_eqnil, hh0, g40])) | simp (disch := omega) only [wrapI, wrapU, shl1, shl1', shl1'', shrN, shrN', and_one] | ((with_reducible refine isEx ?_); refine ⟨_, rfl, ?_, ?_⟩)
              all_goals (first | omega | exact .inl True.intro | skip)
              refine pw_loopS (α := Int) (l0 := ?l3) (m0 := ?m3) (fun x => [(20, .d (.int .i64 x))]) (fun x => []) (fun x => 0 ≤ x ∧ x ≤ (0 : Int)) (fun x => ((0 : Int) - x).toNat) ?a3_0 ?h03 ?he3 ?he23 ?hI3 ?step3
              case h03 => (simp -implicitDefEqProofs only [go_sem, wrsD_len, wrsD_nil]; rfl)
              case he3 => rfl
              case he23 => rfl
              case' step3 => (rintro k hI3; try dsimp only at hI3)
              case' hI3 => try dsimp only
              · exact ⟨by omega, by omega⟩
              · have hk : ¬ k < 0 := by have := hI3.1; omega
                have hk0 : k = 0 := by have := hI3; omega
                subst hk0
                (try (simp -implicitDefEqProofs only [go_sem, wrsD_nil])); repeat' first | with_reducible exact True.intro | with_reducible refine And.intro ?_ ?_ | with_reducible intro _ | (((with_reducible refine isCall ?_); first | refine call_b (cw) rfl ?_ ?_ | refine call_d (cw) rfl ?_ | refine call_sb (cw) rfl ?_ ?_ | refine call_s (cw) rfl rfl ?_) <;> try (simp -implicitDefEqProofs only [go_sem, wrsD_nil])) | (((with_reducible refine vc_b ?_ ?_) <;> intro _) <;> try (simp -implicitDefEqProofs only [go_sem, wrsD_nil])) | simp (disch := omega) only [wrapI, wrapU, shl1, shl1', shl1'', shrN, shrN', and_one] | ((with_reducible refine isEx ?_); refine ⟨_, rfl, ?_, ?_⟩)
                all_goals first | omega | rfl | trace_state
            · rw [if_neg hE3] at c8 c9
              have c12 := law16_sameInts_ret true true [] []
              rw [decide_eq_true rfl, show ints [] = [] from rfl] at c12
              (try (simp -implicitDefEqProofs only [go_sem, logD_eq, logC_eq, wrsD_nil, ints_len, ints_unif, ints_eqnil, hh0, g40])); repeat' first | with_reducible exact True.intro | with_reducible refine And.intro ?_ ?_ | with_reducible intro _ | (((with_reducible refine isCall ?_); first | refine call_b (c0) rfl ?_ ?_ | refine call_d (c0) rfl ?_ | refine call_sb (c0) rfl ?_ ?_ | refine call_s (c0) rfl rfl ?_ | refine call_b (cw) rfl ?_ ?_ | refine call_d (cw) rfl ?_ | refine call_sb (cw) rfl ?_ ?_ | refine call_s (cw) rfl rfl ?_ | refine call_b (c1) rfl ?_ ?_ | refine call_d (c1) rfl ?_ | refine call_sb (c1) rfl ?_ ?_ | refine call_s (c1) rfl rfl ?_ | refine call_b (c2) rfl ?_ ?_ | refine call_d (c2) rfl ?_ | refine call_sb (c2) rfl ?_ ?_ | refine call_s (c2) rfl rfl ?_ | refine call_b (c3) rfl ?_ ?_ | refine call_d (c3) rfl ?_ | refine call_sb (c3) rfl ?_ ?_ | refine call_s (c3) rfl rfl ?_ | refine call_b (c4) rfl ?_ ?_ | refine call_d (c4) rfl ?_ | refine call_sb (c4) rfl ?_ ?_ | refine call_s (c4) rfl rfl ?_ | refine call_b (c5) rfl ?_ ?_ | refine call_d (c5) rfl ?_ | refine call_sb (c5) rfl ?_ ?_ | refine call_s (c5) rfl rfl ?_ | refine call_b (c6) rfl ?_ ?_ | refine call_d (c6) rfl ?_ | refine call_sb (c6) rfl ?_ ?_ | refine call_s (c6) rfl rfl ?_ | refine call_b (c7) rfl ?_ ?_ | refine call_d (c7) rfl ?_ | refine call_sb (c7) rfl ?_ ?_ | refine call_s (c7) rfl rfl ?_ | refine call_b (c8) rfl ?_ ?_ | refine call_d (c8) rfl ?_ | refine call_sb (c8) rfl ?_ ?_ | refine call_s (c8) rfl rfl ?_ | refine call_b (c9) rfl ?_ ?_ | refine call_d (c9) rfl ?_ | refine call_sb (c9) rfl ?_ ?_ | refine call_s (c9) rfl rfl ?_ | refine call_b (c10) rfl ?_ ?_ | refine call_d (c10) rfl ?_ | refine call_sb (c10) rfl ?_ ?_ | refine call_s (c10) rfl rfl ?_ | refine call_b (c11) rfl ?_ ?_ | refine call_d (c11) rfl ?_ | refine call_sb (c11) rfl ?_ ?_ | refine call_s (c11) rfl rfl ?_ | refine call_b (c12) rfl ?_ ?_ | refine call_d (c12) rfl ?_ | refine call_sb (c12) rfl ?_ ?_ | refine call_s (c12) rfl rfl ?_) <;> try (simp -implicitDefEqProofs only [go_sem, logD_eq, logC_eq, wrsD_nil, ints_len, ints_unif, ints_eqnil, hh0, g40])) | (((with_reducible refine vc_b ?_ ?_) <;> intro _) <;> try (simp -implicitDefEqProofs only [go_sem, logD_eq, logC_eq, wrsD_nil, ints_len, ints_unif, ints_eqnil, hh0, g40])) | simp (disch := omega) only [wrapI, wrapU, shl1, shl1', shl1'', shrN, shrN', and_one] | ((with_reducible refine isEx ?_); refine ⟨_, rfl, ?_, ?_⟩)
              all_goals (first | omega | exact .inl True.intro | skip)
              refine pw_loopS (α := Int) (l0 := ?l4) (m0 := ?m4) (fun x => [(20, .d (.int .i64 x))]) (fun x => []) (fun x => 0 ≤ x ∧ x ≤ (0 : Int)) (fun x => ((0 : Int) - x).toNat) ?a4_0 ?h04 ?he4 ?he24 ?hI4 ?step4
              case h04 => (simp -implicitDefEqProofs only [go_sem, wrsD_len, wrsD_nil]; rfl)
              case he4 => rfl
              case he24 => rfl
              case' step4 => (rintro k hI4; try dsimp only at hI4)
              case' hI4 => try dsimp only
              · exact ⟨by omega, by omega⟩
              · have hk : ¬ k < 0 := by have := hI4.1; omega
                have hk0 : k = 0 := by have := hI4; omega
                subst hk0
                (try (simp -implicitDefEqProofs only [go_sem, wrsD_nil])); repeat' first | with_reducible exact True.intro | with_reducible refine And.intro ?_ ?_ | with_reducible intro _ | (((with_reducible refine isCall ?_); first | refine call_b (cw) rfl ?_ ?_ | refine call_d (cw) rfl ?_ | refine call_sb (cw) rfl ?_ ?_ | refine call_s (cw) rfl rfl ?_) <;> try (simp -implicitDefEqProofs only [go_sem, wrsD_nil])) | (((with_reducible refine vc_b ?_ ?_) <;> intro _) <;> try (simp -implicitDefEqProofs only [go_sem, wrsD_nil])) | simp (disch := omega) only [wrapI, wrapU, shl1, shl1', shl1'', shrN, shrN', and_one] | ((with_reducible refine isEx ?_); refine ⟨_, rfl, ?_, ?_⟩)
                all_goals first | omega | rfl | trace_state
        · by_cases hh0 : home = []
          · subst hh0
            rw [show ints [] = [] from rfl] at *
            by_cases hE3 : E3 = 0
            · rw [if_pos hE3] at c8 c9
              have c12 := law16_sameInts_ret false false H H
              rw [decide_eq_true rfl] at c12
              (try (simp -implicitDefEqProofs only [go_sem, logD_eq, logC_eq, wrsD_len, wrsD_unif, wrsD_eqnil, he0, h40])); repeat' first | with_reducible exact True.intro | with_reducible refine And.intro ?_ ?_ | with_reducible intro _ | (((with_reducible refine isCall ?_); first | refine call_b (c0) rfl ?_ ?_ | refine call_d (c0) rfl ?_ | refine call_sb (c0) rfl ?_ ?_ | refine call_s (c0) rfl rfl ?_ | refine call_b (cw) rfl ?_ ?_ | refine call_d (cw) rfl ?_ | refine call_sb (cw) rfl ?_ ?_ | refine call_s (cw) rfl rfl ?_ | refine call_b (c1) rfl ?_ ?_ | refine call_d (c1) rfl ?_ | refine call_sb (c1) rfl ?_ ?_ | refine call_s (c1) rfl rfl ?_ | refine call_b (c2) rfl ?_ ?_ | refine call_d (c2) rfl ?_ | refine call_sb (c2) rfl ?_ ?_ | refine call_s (c2) rfl rfl ?_ | refine call_b (c3) rfl ?_ ?_ | refine call_d (c3) rfl ?_ | refine call_sb (c3) rfl ?_ ?_ | refine call_s (c3) rfl rfl ?_ | refine call_b (c4) rfl ?_ ?_ | refine call_d (c4) rfl ?_ | refine call_sb (c4) rfl ?_ ?_ | refine call_s (c4) rfl rfl ?_ | refine call_b (c5) rfl ?_ ?_ | refine call_d (c5) rfl ?_ | refine call_sb (c5) rfl ?_ ?_ | refine call_s (c5) rfl rfl ?_ | refine call_b (c6) rfl ?_ ?_ | refine call_d (c6) rfl ?_ | refine call_sb (c6) rfl ?_ ?_ | refine call_s (c6) rfl rfl ?_ | refine call_b (c7) rfl ?_ ?_ | refine call_d (c7) rfl ?_ | refine call_sb (c7) rfl ?_ ?_ | refine call_s (c7) rfl rfl ?_ | refine call_b (c8) rfl ?_ ?_ | refine call_d (c8) rfl ?_ | refine call_sb (c8) rfl ?_ ?_ | refine call_s (c8) rfl rfl ?_ | refine call_b (c9) rfl ?_ ?_ | refine call_d (c9) rfl ?_ | refine call_sb (c9) rfl ?_ ?_ | refine call_s (c9) rfl rfl ?_ | refine call_b (c10) rfl ?_ ?_ | refine call_d (c10) rfl ?_ | refine call_sb (c10) rfl ?_ ?_ | refine call_s (c10) rfl rfl ?_ | refine call_b (c11) rfl ?_ ?_ | refine call_d (c11) rfl ?_ | refine call_sb (c11) rfl ?_ ?_ | refine call_s (c11) rfl rfl ?_ | refine call_b (c12) rfl ?_ ?_ | refine call_d (c12) rfl ?_ | refine call_sb (c12) rfl ?_ ?_ | refine call_s (c12) rfl rfl ?_) <;> try (simp -implicitDefEqProofs only [go_sem, logD_eq, logC_eq, wrsD_len, wrsD_unif, wrsD_eqnil, he0, h40])) | (((with_reducible refine vc_b ?_ ?_) <;> intro _) <;> try (simp -implicitDefEqProofs only [go_sem, logD_eq, logC_eq, wrsD_len, wrsD_unif, wrsD_eqnil, he0, h40])) | simp (disch := omega) only [wrapI, wrapU, shl1, shl1', shl1'', shrN, shrN', and_one] | ((with_reducible refine isEx ?_); refine ⟨_, rfl, ?_, ?_⟩)
              all_goals (first | omega | exact .inl True.intro | skip)
              refine pw_loopS (α := Int) (l0 := ?l5) (m0 := ?m5) (fun x => [(20, .d (.int .i64 x))]) (fun x => []) (fun x => 0 ≤ x ∧ x ≤ es.length) (fun x => (es.length - x).toNat) ?a5_0 ?h05 ?he5 ?he25 ?hI5 ?step5
              case h05 => (simp -implicitDefEqProofs only [go_sem, wrsD_len, wrsD_nil]; rfl)
              case he5 => rfl
              case he25 => rfl
              case' step5 => (rintro k hI5; try dsimp only at hI5)
              case' hI5 => try dsimp only
              · exact ⟨by omega, by omega⟩
              · by_cases hk : k < es.length
                · have w1 : IntKind.i64.wrap (k + 1) = k + 1 := wrapI _ (by omega)
                  obtain ⟨x, hx⟩ : ∃ x, es[k.toNat]?.getD default = x := ⟨_, rfl⟩
                  (try (simp -implicitDefEqProofs only [go_sem, wrsD_len, onSome_wrs, wrsD_unif, wrD_eq, wrC_eq, hx, hk, hI5.1, w1])); repeat' first | with_reducible exact True.intro | with_reducible refine And.intro ?_ ?_ | with_reducible intro _ | (((with_reducible refine vc_b ?_ ?_) <;> intro _) <;> try (simp -implicitDefEqProofs only [go_sem, wrsD_len, onSome_wrs, wrsD_unif, wrD_eq, wrC_eq, hx, hk, hI5.1, w1])) | simp (disch := omega) only [wrapI, wrapU, shl1, shl1', shl1'', shrN, shrN', and_one] | ((with_reducible refine isEx ?_); refine ⟨_, rfl, ?_, ?_⟩)
                  all_goals first | omega | (simp; done) | trace_state
                · (try (simp -implicitDefEqProofs only [go_sem, wrsD_len, hk])); repeat' first | with_reducible exact True.intro | with_reducible refine And.intro ?_ ?_ | with_reducible intro _ | (((with_reducible refine isCall ?_); first | refine call_b (cw) rfl ?_ ?_ | refine call_d (cw) rfl ?_ | refine call_sb (cw) rfl ?_ ?_ | refine call_s (cw) rfl rfl ?_) <;> try (simp -implicitDefEqProofs only [go_sem, wrsD_len, hk])) | (((with_reducible refine vc_b ?_ ?_) <;> intro _) <;> try (simp -implicitDefEqProofs only [go_sem, wrsD_len, hk])) | simp (disch := omega) only [wrapI, wrapU, shl1, shl1', shl1'', shrN, shrN', and_one] | ((with_reducible refine isEx ?_); refine ⟨_, rfl, ?_, ?_⟩)
                  all_goals first | omega | rfl | trace_state
            · rw [if_neg hE3] at c8 c9
              have c12 := law16_sameInts_ret true true [] []
              rw [decide_eq_true rfl, show ints [] = [] from rfl] at c12
              (try (simp -implicitDefEqProofs only [go_sem, logD_eq, logC_eq, wrsD_len, wrsD_unif, wrsD_eqnil, he0, h40])); repeat' first | with_reducible exact True.intro | with_reducible refine And.intro ?_ ?_ | with_reducible intro _ | (((with_reducible refine isCall ?_); first | refine call_b (c0) rfl ?_ ?_ | refine call_d (c0) rfl ?_ | refine call_sb (c0) rfl ?_ ?_ | refine call_s (c0) rfl rfl ?_ | refine call_b (cw) rfl ?_ ?_ | refine call_d (cw) rfl ?_ | refine call_sb (cw) rfl ?_ ?_ | refine call_s (cw) rfl rfl ?_ | refine call_b (c1) rfl ?_ ?_ | refine call_d (c1) rfl ?_ | refine call_sb (c1) rfl ?_ ?_ | refine call_s (c1) rfl rfl ?_ | refine call_b (c2) rfl ?_ ?_ | refine call_d (c2) rfl ?_ | refine call_sb (c2) rfl ?_ ?_ | refine call_s (c2) rfl rfl ?_ | refine call_b (c3) rfl ?_ ?_ | refine call_d (c3) rfl ?_ | refine call_sb (c3) rfl ?_ ?_ | refine call_s (c3) rfl rfl ?_ | refine call_b (c4) rfl ?_ ?_ | refine call_d (c4) rfl ?_ | refine call_sb (c4) rfl ?_ ?_ | refine call_s (c4) rfl rfl ?_ | refine call_b (c5) rfl ?_ ?_ | refine call_d (c5) rfl ?_ | refine call_sb (c5) rfl ?_ ?_ | refine call_s (c5) rfl rfl ?_ | refine call_b (c6) rfl ?_ ?_ | refine call_d (c6) rfl ?_ | refine call_sb (c6) rfl ?_ ?_ | refine call_s (c6) rfl rfl ?_ | refine call_b (c7) rfl ?_ ?_ | refine call_d (c7) rfl ?_ | refine call_sb (c7) rfl ?_ ?_ | refine call_s (c7) rfl rfl ?_ | refine call_b (c8) rfl ?_ ?_ | refine call_d (c8) rfl ?_ | refine call_sb (c8) rfl ?_ ?_ | refine call_s (c8) rfl rfl ?_ | refine call_b (c9) rfl ?_ ?_ | refine call_d (c9) rfl ?_ | refine call_sb (c9) rfl ?_ ?_ | refine call_s (c9) rfl rfl ?_ | refine call_b (c10) rfl ?_ ?_ | refine call_d (c10) rfl ?_ | refine call_sb (c10) rfl ?_ ?_ | refine call_s (c10) rfl rfl ?_ | refine call_b (c11) rfl ?_ ?_ | refine call_d (c11) rfl ?_ | refine call_sb (c11) rfl ?_ ?_ | refine call_s (c11) rfl rfl ?_ | refine call_b (c12) rfl ?_ ?_ | refine call_d (c12) rfl ?_ | refine call_sb (c12) rfl ?_ ?_ | refine call_s (c12) rfl rfl ?_) <;> try (simp -implicitDefEqProofs only [go_sem, logD_eq, logC_eq, wrsD_len, wrsD_unif, wrsD_eqnil, he0, h40])) | (((with_reducible refine vc_b ?_ ?_) <;> intro _) <;> try (simp -implicitDefEqProofs only [go_sem, logD_eq, logC_eq, wrsD_len, wrsD_unif, wrsD_eqnil, he0, h40])) | simp (disch := omega) only [wrapI, wrapU, shl1, shl1', shl1'', shrN, shrN', and_one] | ((with_reducible refine isEx ?_); refine ⟨_, rfl, ?_, ?_⟩)
              all_goals (first | omega | exact .inl True.intro | skip)
              refine pw_loopS (α := Int) (l0 := ?l6) (m0 := ?m6) (fun x => [(20, .d (.int .i64 x))]) (fun x => []) (fun x => 0 ≤ x ∧ x ≤ es.length) (fun x => (es.length - x).toNat) ?a6_0 ?h06 ?he6 ?he26 ?hI6 ?step6
              case h06 => (simp -implicitDefEqProofs only [go_sem, wrsD_len, wrsD_nil]; rfl)
              case he6 => rfl
              case he26 => rfl
              case' step6 => (rintro k hI6; try dsimp only at hI6)
              case' hI6 => try dsimp only
              · exact ⟨by omega, by omega⟩
              · by_cases hk : k < es.length
                · have w1 : IntKind.i64.wrap (k + 1) = k + 1 := wrapI _ (by omega)
                  obtain ⟨x, hx⟩ : ∃ x, es[k.toNat]?.getD default = x := ⟨_, rfl⟩
                  (try (simp -implicitDefEqProofs only [go_sem, wrsD_len, onSome_wrs, wrsD_unif, wrD_eq, wrC_eq, hx, hk, hI6.1, w1])); repeat' first | with_reducible exact True.intro | with_reducible refine And.intro ?_ ?_ | with_reducible intro _ | (((with_reducible refine vc_b ?_ ?_) <;> intro _) <;> try (simp -implicitDefEqProofs only [go_sem, wrsD_len, onSome_wrs, wrsD_unif, wrD_eq, wrC_eq, hx, hk, hI6.1, w1])) | simp (disch := omega) only [wrapI, wrapU, shl1, shl1', shl1'', shrN, shrN', and_one] | ((with_reducible refine isEx ?_); refine ⟨_, rfl, ?_, ?_⟩)
                  all_goals first | omega | (simp; done) | trace_state
                · (try (simp -implicitDefEqProofs only [go_sem, wrsD_len, hk])); repeat' first | with_reducible exact True.intro | with_reducible refine And.intro ?_ ?_ | with_reducible intro _ | (((with_reducible refine isCall ?_); first | refine call_b (cw) rfl ?_ ?_ | refine call_d (cw) rfl ?_ | refine call_sb (cw) rfl ?_ ?_ | refine call_s (cw) rfl rfl ?_) <;> try (simp -implicitDefEqProofs only [go_sem, wrsD_len, hk])) | (((with_reducible refine vc_b ?_ ?_) <;> intro _) <;> try (simp -implicitDefEqProofs only [go_sem, wrsD_len, hk])) | simp (disch := omega) only [wrapI, wrapU, shl1, shl1', shl1'', shrN, shrN', and_one] | ((with_reducible refine isEx ?_); refine ⟨_, rfl, ?_, ?_⟩)
                  all_goals first | omega | rfl | trace_state
          · by_cases hE3 : E3 = 0
            · rw [if_pos hE3] at c8 c9
              have c12 := law16_sameInts_ret false false H H
              rw [decide_eq_true rfl] at c12
              (try (simp -implicitDefEqProofs only [go_sem, logD_eq, logC_eq, wrsD_len, wrsD_unif, wrsD_eqnil, he0, ints_len, ints_unif, ints_eqnil, hh0, h40, g40])); repeat' first | with_reducible exact True.intro | with_reducible refine And.intro ?_ ?_ | with_reducible intro _ | (((with_reducible refine isCall ?_); first | refine call_b (c0) rfl ?_ ?_ | refine call_d (c0) rfl ?_ | refine call_sb (c0) rfl ?_ ?_ | refine call_s (c0) rfl rfl ?_ | refine call_b (cw) rfl ?_ ?_ | refine call_d (cw) rfl ?_ | refine call_sb (cw) rfl ?_ ?_ | refine call_s (cw) rfl rfl ?_ | refine call_b (c1) rfl ?_ ?_ | refine call_d (c1) rfl ?_ | refine call_sb (c1) rfl ?_ ?_ | refine call_s (c1) rfl rfl ?_ | refine call_b (c2) rfl ?_ ?_ | refine call_d (c2) rfl ?_ | refine call_sb (c2) rfl ?_ ?_ | refine call_s (c2) rfl rfl ?_ | refine call_b (c3) rfl ?_ ?_ | refine call_d (c3) rfl ?_ | refine call_sb (c3) rfl ?_ ?_ | refine call_s (c3) rfl rfl ?_ | refine call_b (c4) rfl ?_ ?_ | refine call_d (c4) rfl ?_ | refine call_sb (c4) rfl ?_ ?_ | refine call_s (c4) rfl rfl ?_ | refine call_b (c5) rfl ?_ ?_ | refine call_d (c5) rfl ?_ | refine call_sb (c5) rfl ?_ ?_ | refine call_s (c5) rfl rfl ?_ | refine call_b (c6) rfl ?_ ?_ | refine call_d (c6) rfl ?_ | refine call_sb (c6) rfl ?_ ?_ | refine call_s (c6) rfl rfl ?_ | refine call_b (c7) rfl ?_ ?_ | refine call_d (c7) rfl ?_ | refine call_sb (c7) rfl ?_ ?_ | refine call_s (c7) rfl rfl ?_ | refine call_b (c8) rfl ?_ ?_ | refine call_d (c8) rfl ?_ | refine call_sb (c8) rfl ?_ ?_ | refine call_s (c8) rfl rfl ?_ | refine call_b (c9) rfl ?_ ?_ | refine call_d (c9) rfl ?_ | refine call_sb (c9) rfl ?_ ?_ | refine call_s (c9) rfl rfl ?_ | refine call_b (c10) rfl ?_ ?_ | refine call_d (c10) rfl ?_ | refine call_sb (c10) rfl ?_ ?_ | refine call_s (c10) rfl rfl ?_ | refine call_b (c11) rfl ?_ ?_ | refine call_d (c11) rfl ?_ | refine call_sb (c11) rfl ?_ ?_ | refine call_s (c11) rfl rfl ?_ | refine call_b (c12) rfl ?_ ?_ | refine call_d (c12) rfl ?_ | refine call_sb (c12) rfl ?_ ?_ | refine call_s (c12) rfl rfl ?_) <;> try (simp -implicitDefEqProofs only [go_sem, logD_eq, logC_eq, wrsD_len, wrsD_unif, wrsD_eqnil, he0, ints_len, ints_unif, ints_eqnil, hh0, h40, g40])) | (((with_reducible refine vc_b ?_ ?_) <;> intro _) <;> try (simp -implicitDefEqProofs only [go_sem, logD_eq, logC_eq, wrsD_len, wrsD_unif, wrsD_eqnil, he0, ints_len, ints_unif, ints_eqnil, hh0, h40, g40])) | simp (disch := omega) only [wrapI, wrapU, shl1, shl1', shl1'', shrN, shrN', and_one] | ((with_reducible refine isEx ?_); refine ⟨_, rfl, ?_, ?_⟩)
              all_goals (first | omega | exact .inl True.intro | skip)
              refine pw_loopS (α := Int) (l0 := ?l7) (m0 := ?m7) (fun x => [(20, .d (.int .i64 x))]) (fun x => []) (fun x => 0 ≤ x ∧ x ≤ es.length) (fun x => (es.length - x).toNat) ?a7_0 ?h07 ?he7 ?he27 ?hI7 ?step7
              case h07 => (simp -implicitDefEqProofs only [go_sem, wrsD_len, wrsD_nil]; rfl)
              case he7 => rfl
              case he27 => rfl
              case' step7 => (rintro k hI7; try dsimp only at hI7)
              case' hI7 => try dsimp only
              · exact ⟨by omega, by omega⟩
              · by_cases hk : k < es.length
                · have w1 : IntKind.i64.wrap (k + 1) = k + 1 := wrapI _ (by omega)
                  obtain ⟨x, hx⟩ : ∃ x, es[k.toNat]?.getD default = x := ⟨_, rfl⟩
                  (try (simp -implicitDefEqProofs only [go_sem, wrsD_len, onSome_wrs, wrsD_unif, wrD_eq, wrC_eq, hx, hk, hI7.1, w1])); repeat' first | with_reducible exact True.intro | with_reducible refine And.intro ?_ ?_ | with_reducible intro _ | (((with_reducible refine vc_b ?_ ?_) <;> intro _) <;> try (simp -implicitDefEqProofs only [go_sem, wrsD_len, onSome_wrs, wrsD_unif, wrD_eq, wrC_eq, hx, hk, hI7.1, w1])) | simp (disch := omega) only [wrapI, wrapU, shl1, shl1', shl1'', shrN, shrN', and_one] | ((with_reducible refine isEx ?_); refine ⟨_, rfl, ?_, ?_⟩)
                  all_goals first | omega | (simp; done) | trace_state
                · (try (simp -implicitDefEqProofs only [go_sem, wrsD_len, hk])); repeat' first | with_reducible exact True.intro | with_reducible refine And.intro ?_ ?_ | with_reducible intro _ | (((with_reducible refine isCall ?_); first | refine call_b (cw) rfl ?_ ?_ | refine call_d (cw) rfl ?_ | refine call_sb (cw) rfl ?_ ?_ | refine call_s (cw) rfl rfl ?_) <;> try (simp -implicitDefEqProofs only [go_sem, wrsD_len, hk])) | (((with_reducible refine vc_b ?_ ?_) <;> intro _) <;> try (simp -implicitDefEqProofs only [go_sem, wrsD_len, hk])) | simp (disch := omega) only [wrapI, wrapU, shl1, shl1', shl1'', shrN, shrN', and_one] | ((with_reducible refine isEx ?_); refine ⟨_, rfl, ?_, ?_⟩)
                  all_goals first | omega | rfl | trace_state
            · rw [if_neg hE3] at c8 c9
              have c12 := law16_sameInts_ret true true [] []
              rw [decide_eq_true rfl, show ints [] = [] from rfl] at c12
              (try (simp -implicitDefEqProofs only [go_sem, logD_eq, logC_eq, wrsD_len, wrsD_unif, wrsD_eqnil, he0, ints_len, ints_unif, ints_eqnil, hh0, h40, g40])); repeat' first | with_reducible exact True.intro | with_reducible refine And.intro ?_ ?_ | with_reducible intro _ | (((with_reducible refine isCall ?_); first | refine call_b (c0) rfl ?_ ?_ | refine call_d (c0) rfl ?_ | refine call_sb (c0) rfl ?_ ?_ | refine call_s (c0) rfl rfl ?_ | refine call_b (cw) rfl ?_ ?_ | refine call_d (cw) rfl ?_ | refine call_sb (cw) rfl ?_ ?_ | refine call_s (cw) rfl rfl ?_ | refine call_b (c1) rfl ?_ ?_ | refine call_d (c1) rfl ?_ | refine call_sb (c1) rfl ?_ ?_ | refine call_s (c1) rfl rfl ?_ | refine call_b (c2) rfl ?_ ?_ | refine call_d (c2) rfl ?_ | refine call_sb (c2) rfl ?_ ?_ | refine call_s (c2) rfl rfl ?_ | refine call_b (c3) rfl ?_ ?_ | refine call_d (c3) rfl ?_ | refine call_sb (c3) rfl ?_ ?_ | refine call_s (c3) rfl rfl ?_ | refine call_b (c4) rfl ?_ ?_ | refine call_d (c4) rfl ?_ | refine call_sb (c4) rfl ?_ ?_ | refine call_s (c4) rfl rfl ?_ | refine call_b (c5) rfl ?_ ?_ | refine call_d (c5) rfl ?_ | refine call_sb (c5) rfl ?_ ?_ | refine call_s (c5) rfl rfl ?_ | refine call_b (c6) rfl ?_ ?_ | refine call_d (c6) rfl ?_ | refine call_sb (c6) rfl ?_ ?_ | refine call_s (c6) rfl rfl ?_ | refine call_b (c7) rfl ?_ ?_ | refine call_d (c7) rfl ?_ | refine call_sb (c7) rfl ?_ ?_ | refine call_s (c7) rfl rfl ?_ | refine call_b (c8) rfl ?_ ?_ | refine call_d (c8) rfl ?_ | refine call_sb (c8) rfl ?_ ?_ | refine call_s (c8) rfl rfl ?_ | refine call_b (c9) rfl ?_ ?_ | refine call_d (c9) rfl ?_ | refine call_sb (c9) rfl ?_ ?_ | refine call_s (c9) rfl rfl ?_ | refine call_b (c10) rfl ?_ ?_ | refine call_d (c10) rfl ?_ | refine call_sb (c10) rfl ?_ ?_ | refine call_s (c10) rfl rfl ?_ | refine call_b (c11) rfl ?_ ?_ | refine call_d (c11) rfl ?_ | refine call_sb (c11) rfl ?_ ?_ | refine call_s (c11) rfl rfl ?_ | refine call_b (c12) rfl ?_ ?_ | refine call_d (c12) rfl ?_ | refine call_sb (c12) rfl ?_ ?_ | refine call_s (c12) rfl rfl ?_) <;> try (simp -implicitDefEqProofs only [go_sem, logD_eq, logC_eq, wrsD_len, wrsD_unif, wrsD_eqnil, he0, ints_len, ints_unif, ints_eqnil, hh0, h40, g40])) | (((with_reducible refine vc_b ?_ ?_) <;> intro _) <;> try (simp -implicitDefEqProofs only [go_sem, logD_eq, logC_eq, wrsD_len, wrsD_unif, wrsD_eqnil, he0, ints_len, ints_unif, ints_eqnil, hh0, h40, g40])) | simp (disch := omega) only [wrapI, wrapU, shl1, shl1', shl1'', shrN, shrN', and_one] | ((with_reducible refine isEx ?_); refine ⟨_, rfl, ?_, ?_⟩)
              all_goals (first | omega | exact .inl True.intro | skip)
              refine pw_loopS (α := Int) (l0 := ?l8) (m0 := ?m8) (fun x => [(20, .d (.int .i64 x))]) (fun x => []) (fun x => 0 ≤ x ∧ x ≤ es.length) (fun x => (es.length - x).toNat) ?a8_0 ?h08 ?he8 ?he28 ?hI8 ?step8
              case h08 => (simp -implicitDefEqProofs only [go_sem, wrsD_len, wrsD_nil]; rfl)
              case he8 => rfl
              case he28 => rfl
              case' step8 => (rintro k hI8; try dsimp only at hI8)
              case' hI8 => try dsimp only
              · exact ⟨by omega, by omega⟩
              · by_cases hk : k < es.length
                · have w1 : IntKind.i64.wrap (k + 1) = k + 1 := wrapI _ (by omega)
                  obtain ⟨x, hx⟩ : ∃ x, es[k.toNat]?.getD default = x := ⟨_, rfl⟩
                  (try (simp -implicitDefEqProofs only [go_sem, wrsD_len, onSome_wrs, wrsD_unif, wrD_eq, wrC_eq, hx, hk, hI8.1, w1])); repeat' first | with_reducible exact True.intro | with_reducible refine And.intro ?_ ?_ | with_reducible intro _ | (((with_reducible refine vc_b ?_ ?_) <;> intro _) <;> try (simp -implicitDefEqProofs only [go_sem, wrsD_len, onSome_wrs, wrsD_unif, wrD_eq, wrC_eq, hx, hk, hI8.1, w1])) | simp (disch := omega) only [wrapI, wrapU, shl1, shl1', shl1'', shrN, shrN', and_one] | ((with_reducible refine isEx ?_); refine ⟨_, rfl, ?_, ?_⟩)
                  all_goals first | omega | (simp; done) | trace_state
                · (try (simp -implicitDefEqProofs only [go_sem, wrsD_len, hk])); repeat' first | with_reducible exact True.intro | with_reducible refine And.intro ?_ ?_ | with_reducible intro _ | (((with_reducible refine isCall ?_); first | refine call_b (cw) rfl ?_ ?_ | refine call_d (cw) rfl ?_ | refine call_sb (cw) rfl ?_ ?_ | refine call_s (cw) rfl rfl ?_) <;> try (simp -implicitDefEqProofs only [go_sem, wrsD_len, hk])) | (((with_reducible refine vc_b ?_ ?_) <;> intro _) <;> try (simp -implicitDefEqProofs only [go_sem, wrsD_len, hk])) | simp (disch := omega) only [wrapI, wrapU, shl1, shl1', shl1'', shrN, shrN', and_one] | ((with_reducible refine isEx ?_); refine ⟨_, rfl, ?_, ?_⟩)
                  all_goals first | omega | rfl | trace_state
end Go.Pw
