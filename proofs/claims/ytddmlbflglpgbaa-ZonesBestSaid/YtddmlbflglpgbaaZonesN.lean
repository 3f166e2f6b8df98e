/- A part of the proof. -/
import Derived.Test.YtddmlbflglpgbaaZonesM
import Derived.Test.YtddmlbflglpgbaaZonesT
set_option linter.all false
open Go Go.Pw Go.Proofs
namespace Go.Pw
set_option linter.unusedSimpArgs false
set_option linter.unusedVariables false
set_option maxRecDepth 100000
set_option maxHeartbeats 3200000
def exD : GDisk := ⟨2, 60, false, [(2, 6), (1, 5)], 10, 25, 4, 12, 20, 30⟩
theorem ex_number : exD.number 1 1 4 = (22, 0) := by kernel_rfl
theorem ex_run : exD.run 4 4 = ((50, 110), 0) := by kernel_rfl
theorem ex_skews : exD.skR 10 = (20, 30, 480, 0) := by kernel_rfl
def GDisk.far (d : GDisk) : Bool := decide (20 < (d.zones.length : Int)) || (d.ok && (decide (200 < d.size) || decide (120 < d.turn)))
attribute [local congr] cg_pw cg_seqI cg_seqE cg_stepI cg_ev cg_evBin cg_condB cg_condV cg_thenQ cg_blockQ cg_onSome cg_onCells cg_onRow cg_onMap cg_onOpt cg_ghosts cg_ghost cg_evCall cg_part cg_rng cg_guardV cg_frzV cg_frpV cg_ownV cg_owcV cg_occV cg_occX cg_resK cg_res1 cg_yldP cg_rndE cg_onlyN cg_onHist
attribute [local irreducible] IntKind.wrap bitsOp Option.getD and or

theorem law01_span_ret (a b : Int) : Ret E0 F_law01_span [.int .i64 a, .int .i64 b] (.agg [.int .i64 a, .int .i64 b]) := by
  refine ret_of_pw dec_law01_span mixed (by simp) fun hwf => ?_
  rw [enter_eq]; unfold pc_law01_span
  (try (simp -implicitDefEqProofs only [go_sem])); repeat' first | with_reducible exact True.intro | with_reducible refine And.intro ?_ ?_ | with_reducible intro _ | (((with_reducible refine vc_b ?_ ?_) <;> intro _) <;> try (simp -implicitDefEqProofs only [go_sem])) | simp (disch := omega) only [wrapI, wrapU, shl1, shl1', shl1'', shrN, shrN', and_one] 

theorem law01_Example_ret : Ret E0 F_law01_Example [] (diskD exD) := by
  refine ret_of_pw dec_law01_Example mixed (by simp) fun hwf => ?_
  have c1 := law01_span_ret 4 12
  have c2 := law01_span_ret 20 30
  rw [enter_eq]; unfold pc_law01_Example
  (try (simp -implicitDefEqProofs only [go_sem])); repeat' first | with_reducible exact True.intro | with_reducible refine And.intro ?_ ?_ | with_reducible intro _ | (((with_reducible refine isCall ?_); first | refine call_b (c1) rfl ?_ ?_ | refine call_d (c1) rfl ?_ | refine call_sb (c1) rfl ?_ ?_ | refine call_s (c1) rfl rfl ?_ | refine call_b (c2) rfl ?_ ?_ | refine call_d (c2) rfl ?_ | refine call_sb (c2) rfl ?_ ?_ | refine call_s (c2) rfl rfl ?_) <;> try (simp -implicitDefEqProofs only [go_sem])) | (((with_reducible refine vc_b ?_ ?_) <;> intro _) <;> try (simp -implicitDefEqProofs only [go_sem])) | simp (disch := omega) only [wrapI, wrapU, shl1, shl1', shl1'', shrN, shrN', and_one] 
  all_goals rfl

theorem law01_works_ret : Ret E0 F_law01_works [] (.bool true) := by
  refine ret_of_pw dec_law01_works mixed (by simp) fun hwf => ?_
  have c1 := law01_Example_ret
  have c2 := zones_Number_ret exD 1 1 4
  have c3 := zones_Run_ret exD 4 4
  have c4 := zones_Skews_ret exD 10
  have c5 := law01_span_ret 50 110
  rw [ex_number, placeD_eq] at c2; rw [ex_run] at c3; rw [ex_skews] at c4
  rw [diskD_eq, diskC_eq] at c1 c2 c3 c4
  rw [enter_eq]; unfold pc_law01_works
  (try (simp -implicitDefEqProofs only [go_sem, Int.reduceToNat])); repeat' first | with_reducible exact True.intro | with_reducible refine And.intro ?_ ?_ | with_reducible intro _ | (((with_reducible refine isCall ?_); first | refine call_b (c1) rfl ?_ ?_ | refine call_d (c1) rfl ?_ | refine call_sb (c1) rfl ?_ ?_ | refine call_s (c1) rfl rfl ?_ | refine call_b (c2) rfl ?_ ?_ | refine call_d (c2) rfl ?_ | refine call_sb (c2) rfl ?_ ?_ | refine call_s (c2) rfl rfl ?_ | refine call_b (c3) rfl ?_ ?_ | refine call_d (c3) rfl ?_ | refine call_sb (c3) rfl ?_ ?_ | refine call_s (c3) rfl rfl ?_ | refine call_b (c4) rfl ?_ ?_ | refine call_d (c4) rfl ?_ | refine call_sb (c4) rfl ?_ ?_ | refine call_s (c4) rfl rfl ?_ | refine call_b (c5) rfl ?_ ?_ | refine call_d (c5) rfl ?_ | refine call_sb (c5) rfl ?_ ?_ | refine call_s (c5) rfl rfl ?_) <;> try (simp -implicitDefEqProofs only [go_sem, Int.reduceToNat])) | (((with_reducible refine vc_b ?_ ?_) <;> intro _) <;> try (simp -implicitDefEqProofs only [go_sem, Int.reduceToNat])) | simp (disch := omega) only [wrapI, wrapU, shl1, shl1', shl1'', shrN, shrN', and_one] 

theorem law01_Far_ret (d : GDisk) : Ret E0 F_law01_Far [diskD d] (.bool d.far) := by
  refine ret_of_pw dec_law01_Far mixed (by simp) fun hwf => ?_
  have c1 := ref01_Check_ret d
  rw [enter_eq]; unfold pc_law01_Far GDisk.far
  unfold GDisk.check at c1
  by_cases hz : 20 < (d.zones.length : Int)
  · rw [decide_eq_true hz]
    (try (simp -implicitDefEqProofs only [go_sem, diskD_eq, diskC_eq, zpsD_len, hz])); repeat' first | with_reducible exact True.intro | with_reducible refine And.intro ?_ ?_ | with_reducible intro _ | (((with_reducible refine isCall ?_); first | refine call_b (c1) rfl ?_ ?_ | refine call_d (c1) rfl ?_ | refine call_sb (c1) rfl ?_ ?_ | refine call_s (c1) rfl rfl ?_) <;> try (simp -implicitDefEqProofs only [go_sem, diskD_eq, diskC_eq, zpsD_len, hz])) | (((with_reducible refine vc_b ?_ ?_) <;> intro _) <;> try (simp -implicitDefEqProofs only [go_sem, diskD_eq, diskC_eq, zpsD_len, hz])) | simp (disch := omega) only [wrapI, wrapU, shl1, shl1', shl1'', shrN, shrN', and_one] 
    all_goals first | rfl | simp
  · rw [decide_eq_false hz]
    cases h : d.ok with
    | false =>
      rw [h] at c1
      (try (simp -implicitDefEqProofs only [go_sem, diskD_eq, diskC_eq, zpsD_len, hz])); repeat' first | with_reducible exact True.intro | with_reducible refine And.intro ?_ ?_ | with_reducible intro _ | (((with_reducible refine isCall ?_); first | refine call_b (c1) rfl ?_ ?_ | refine call_d (c1) rfl ?_ | refine call_sb (c1) rfl ?_ ?_ | refine call_s (c1) rfl rfl ?_) <;> try (simp -implicitDefEqProofs only [go_sem, diskD_eq, diskC_eq, zpsD_len, hz])) | (((with_reducible refine vc_b ?_ ?_) <;> intro _) <;> try (simp -implicitDefEqProofs only [go_sem, diskD_eq, diskC_eq, zpsD_len, hz])) | simp (disch := omega) only [wrapI, wrapU, shl1, shl1', shl1'', shrN, shrN', and_one] 
      all_goals first | rfl | simp
    | true =>
      rw [h] at c1
      have c2 := ref01_Count_ret d h
      by_cases h2 : 200 < d.size
      · rw [decide_eq_true h2]
        (try (simp -implicitDefEqProofs only [go_sem, diskD_eq, diskC_eq, zpsD_len, hz, h2])); repeat' first | with_reducible exact True.intro | with_reducible refine And.intro ?_ ?_ | with_reducible intro _ | (((with_reducible refine isCall ?_); first | refine call_b (c1) rfl ?_ ?_ | refine call_d (c1) rfl ?_ | refine call_sb (c1) rfl ?_ ?_ | refine call_s (c1) rfl rfl ?_ | refine call_b (c2) rfl ?_ ?_ | refine call_d (c2) rfl ?_ | refine call_sb (c2) rfl ?_ ?_ | refine call_s (c2) rfl rfl ?_) <;> try (simp -implicitDefEqProofs only [go_sem, diskD_eq, diskC_eq, zpsD_len, hz, h2])) | (((with_reducible refine vc_b ?_ ?_) <;> intro _) <;> try (simp -implicitDefEqProofs only [go_sem, diskD_eq, diskC_eq, zpsD_len, hz, h2])) | simp (disch := omega) only [wrapI, wrapU, shl1, shl1', shl1'', shrN, shrN', and_one] 
        all_goals first | rfl | simp
      · rw [decide_eq_false h2]
        by_cases h3 : 120 < d.turn
        · rw [decide_eq_true h3]
          (try (simp -implicitDefEqProofs only [go_sem, diskD_eq, diskC_eq, zpsD_len, hz, h2, h3])); repeat' first | with_reducible exact True.intro | with_reducible refine And.intro ?_ ?_ | with_reducible intro _ | (((with_reducible refine isCall ?_); first | refine call_b (c1) rfl ?_ ?_ | refine call_d (c1) rfl ?_ | refine call_sb (c1) rfl ?_ ?_ | refine call_s (c1) rfl rfl ?_ | refine call_b (c2) rfl ?_ ?_ | refine call_d (c2) rfl ?_ | refine call_sb (c2) rfl ?_ ?_ | refine call_s (c2) rfl rfl ?_) <;> try (simp -implicitDefEqProofs only [go_sem, diskD_eq, diskC_eq, zpsD_len, hz, h2, h3])) | (((with_reducible refine vc_b ?_ ?_) <;> intro _) <;> try (simp -implicitDefEqProofs only [go_sem, diskD_eq, diskC_eq, zpsD_len, hz, h2, h3])) | simp (disch := omega) only [wrapI, wrapU, shl1, shl1', shl1'', shrN, shrN', and_one] 
          all_goals first | rfl | simp
        · rw [decide_eq_false h3]
          (try (simp -implicitDefEqProofs only [go_sem, diskD_eq, diskC_eq, zpsD_len, hz, h2, h3])); repeat' first | with_reducible exact True.intro | with_reducible refine And.intro ?_ ?_ | with_reducible intro _ | (((with_reducible refine isCall ?_); first | refine call_b (c1) rfl ?_ ?_ | refine call_d (c1) rfl ?_ | refine call_sb (c1) rfl ?_ ?_ | refine call_s (c1) rfl rfl ?_ | refine call_b (c2) rfl ?_ ?_ | refine call_d (c2) rfl ?_ | refine call_sb (c2) rfl ?_ ?_ | refine call_s (c2) rfl rfl ?_) <;> try (simp -implicitDefEqProofs only [go_sem, diskD_eq, diskC_eq, zpsD_len, hz, h2, h3])) | (((with_reducible refine vc_b ?_ ?_) <;> intro _) <;> try (simp -implicitDefEqProofs only [go_sem, diskD_eq, diskC_eq, zpsD_len, hz, h2, h3])) | simp (disch := omega) only [wrapI, wrapU, shl1, shl1', shl1'', shrN, shrN', and_one] 
          all_goals first | rfl | simp
theorem far_len {d : GDisk} (h : d.far = false) : d.zones.length ≤ 1000 := by
  unfold GDisk.far at h
  have : ¬ 20 < (d.zones.length : Int) := by
    intro hh; rw [decide_eq_true hh] at h; simp at h
  omega

theorem ZonesPlaces_ret (d : GDisk) (a b c n : Int) : Ret E0 F_law01_ZonesPlaces [diskD d, .agg [.int .i64 a, .int .i64 b, .int .i64 c], .int .i64 n] (.bool true) := by
  refine ret_of_pw dec_law01_ZonesPlaces mixed (by simp) fun hwf => ?_
  have c0 := law01_Far_ret d
  have cw := law01_works_ret
  rw [enter_eq]; unfold pc_law01_ZonesPlaces
  cases hf : d.far with
  | true =>
    rw [hf] at c0
    (try (simp -implicitDefEqProofs only [go_sem, diskD_eq, diskC_eq])); repeat' first | with_reducible exact True.intro | with_reducible refine And.intro ?_ ?_ | with_reducible intro _ | (((with_reducible refine isCall ?_); first | refine call_b (c0) rfl ?_ ?_ | refine call_d (c0) rfl ?_ | refine call_sb (c0) rfl ?_ ?_ | refine call_s (c0) rfl rfl ?_ | refine call_b (cw) rfl ?_ ?_ | refine call_d (cw) rfl ?_ | refine call_sb (cw) rfl ?_ ?_ | refine call_s (cw) rfl rfl ?_) <;> try (simp -implicitDefEqProofs only [go_sem, diskD_eq, diskC_eq])) | (((with_reducible refine vc_b ?_ ?_) <;> intro _) <;> try (simp -implicitDefEqProofs only [go_sem, diskD_eq, diskC_eq])) | simp (disch := omega) only [wrapI, wrapU, shl1, shl1', shl1'', shrN, shrN', and_one] 
  | false =>
    rw [hf] at c0
    have c1 := ref01_Copy_ret d (far_len hf)
    have c2 := zones_Check_ret d.cp
    have c3 := ref01_Check_ret d
    have c4 := zones_Size_ret d.cp
    have c5 := ref01_Size_ret d
    have c6 := zones_Number_ret d.cp a b c
    have c7 := ref01_Number_ret d a b c
    have c8 := zones_Place_ret d.cp n
    have c9 := ref01_Place_ret d n
    rw [cp_check] at c2
    rw [cp_check, (same_cp d).size, cp_ok] at c4
    rw [cp_number] at c6
    rw [cp_place] at c8
    generalize d.number a b c = r at *
    generalize d.place n = t at *
    obtain ⟨r1, r2⟩ := r
    obtain ⟨⟨t1, t2, t3⟩, t4⟩ := t
    generalize (if d.ok = true then d.size else 0) = z at *
    generalize d.check = k at *
    rw [placeD_eq] at c6 c7 c8 c9
    (try (simp -implicitDefEqProofs only [go_sem, diskD_eq, diskC_eq, GDisk.cp])); repeat' first | with_reducible exact True.intro | with_reducible refine And.intro ?_ ?_ | with_reducible intro _ | (((with_reducible refine isCall ?_); first | refine call_b (c0) rfl ?_ ?_ | refine call_d (c0) rfl ?_ | refine call_sb (c0) rfl ?_ ?_ | refine call_s (c0) rfl rfl ?_ | refine call_b (cw) rfl ?_ ?_ | refine call_d (cw) rfl ?_ | refine call_sb (cw) rfl ?_ ?_ | refine call_s (cw) rfl rfl ?_ | refine call_b (c1) rfl ?_ ?_ | refine call_d (c1) rfl ?_ | refine call_sb (c1) rfl ?_ ?_ | refine call_s (c1) rfl rfl ?_ | refine call_b (c2) rfl ?_ ?_ | refine call_d (c2) rfl ?_ | refine call_sb (c2) rfl ?_ ?_ | refine call_s (c2) rfl rfl ?_ | refine call_b (c3) rfl ?_ ?_ | refine call_d (c3) rfl ?_ | refine call_sb (c3) rfl ?_ ?_ | refine call_s (c3) rfl rfl ?_ | refine call_b (c4) rfl ?_ ?_ | refine call_d (c4) rfl ?_ | refine call_sb (c4) rfl ?_ ?_ | refine call_s (c4) rfl rfl ?_ | refine call_b (c5) rfl ?_ ?_ | refine call_d (c5) rfl ?_ | refine call_sb (c5) rfl ?_ ?_ | refine call_s (c5) rfl rfl ?_ | refine call_b (c6) rfl ?_ ?_ | refine call_d (c6) rfl ?_ | refine call_sb (c6) rfl ?_ ?_ | refine call_s (c6) rfl rfl ?_ | refine call_b (c7) rfl ?_ ?_ | refine call_d (c7) rfl ?_ | refine call_sb (c7) rfl ?_ ?_ | refine call_s (c7) rfl rfl ?_ | refine call_b (c8) rfl ?_ ?_ | refine call_d (c8) rfl ?_ | refine call_sb (c8) rfl ?_ ?_ | refine call_s (c8) rfl rfl ?_ | refine call_b (c9) rfl ?_ ?_ | refine call_d (c9) rfl ?_ | refine call_sb (c9) rfl ?_ ?_ | refine call_s (c9) rfl rfl ?_) <;> try (simp -implicitDefEqProofs only [go_sem, diskD_eq, diskC_eq, GDisk.cp])) | (((with_reducible refine vc_b ?_ ?_) <;> intro _) <;> try (simp -implicitDefEqProofs only [go_sem, diskD_eq, diskC_eq, GDisk.cp])) | simp (disch := omega) only [wrapI, wrapU, shl1, shl1', shl1'', shrN, shrN', and_one] 
  
theorem ZonesAngles_ret (d : GDisk) (n time : Int) : Ret E0 F_law01_ZonesAngles [diskD d, .int .i64 n, .int .i64 time] (.bool true) := by
  refine ret_of_pw dec_law01_ZonesAngles mixed (by simp) fun hwf => ?_
  have c0 := law01_Far_ret d
  have cw := law01_works_ret
  rw [enter_eq]; unfold pc_law01_ZonesAngles
  cases hf : d.far with
  | true =>
    rw [hf] at c0
    (try (simp -implicitDefEqProofs only [go_sem, diskD_eq, diskC_eq])); repeat' first | with_reducible exact True.intro | with_reducible refine And.intro ?_ ?_ | with_reducible intro _ | (((with_reducible refine isCall ?_); first | refine call_b (c0) rfl ?_ ?_ | refine call_d (c0) rfl ?_ | refine call_sb (c0) rfl ?_ ?_ | refine call_s (c0) rfl rfl ?_ | refine call_b (cw) rfl ?_ ?_ | refine call_d (cw) rfl ?_ | refine call_sb (cw) rfl ?_ ?_ | refine call_s (cw) rfl rfl ?_) <;> try (simp -implicitDefEqProofs only [go_sem, diskD_eq, diskC_eq])) | (((with_reducible refine vc_b ?_ ?_) <;> intro _) <;> try (simp -implicitDefEqProofs only [go_sem, diskD_eq, diskC_eq])) | simp (disch := omega) only [wrapI, wrapU, shl1, shl1', shl1'', shrN, shrN', and_one] 
  | false =>
    rw [hf] at c0
    have c1 := ref01_Copy_ret d (far_len hf)
    have c2 := zones_Angle_ret d.cp n
    have c3 := ref01_Angle_ret d n
    have c4 := zones_Wait_ret d.cp n time
    have c5 := ref01_Wait_ret d n time
    rw [cp_angle] at c2
    rw [cp_wait] at c4
    generalize d.angle n = r at *
    generalize d.wait n time = t at *
    obtain ⟨r1, r2, r3⟩ := r
    obtain ⟨t1, t2⟩ := t
    (try (simp -implicitDefEqProofs only [go_sem, diskD_eq, diskC_eq, GDisk.cp])); repeat' first | with_reducible exact True.intro | with_reducible refine And.intro ?_ ?_ | with_reducible intro _ | (((with_reducible refine isCall ?_); first | refine call_b (c0) rfl ?_ ?_ | refine call_d (c0) rfl ?_ | refine call_sb (c0) rfl ?_ ?_ | refine call_s (c0) rfl rfl ?_ | refine call_b (cw) rfl ?_ ?_ | refine call_d (cw) rfl ?_ | refine call_sb (cw) rfl ?_ ?_ | refine call_s (cw) rfl rfl ?_ | refine call_b (c1) rfl ?_ ?_ | refine call_d (c1) rfl ?_ | refine call_sb (c1) rfl ?_ ?_ | refine call_s (c1) rfl rfl ?_ | refine call_b (c2) rfl ?_ ?_ | refine call_d (c2) rfl ?_ | refine call_sb (c2) rfl ?_ ?_ | refine call_s (c2) rfl rfl ?_ | refine call_b (c3) rfl ?_ ?_ | refine call_d (c3) rfl ?_ | refine call_sb (c3) rfl ?_ ?_ | refine call_s (c3) rfl rfl ?_ | refine call_b (c4) rfl ?_ ?_ | refine call_d (c4) rfl ?_ | refine call_sb (c4) rfl ?_ ?_ | refine call_s (c4) rfl rfl ?_ | refine call_b (c5) rfl ?_ ?_ | refine call_d (c5) rfl ?_ | refine call_sb (c5) rfl ?_ ?_ | refine call_s (c5) rfl rfl ?_) <;> try (simp -implicitDefEqProofs only [go_sem, diskD_eq, diskC_eq, GDisk.cp])) | (((with_reducible refine vc_b ?_ ?_) <;> intro _) <;> try (simp -implicitDefEqProofs only [go_sem, diskD_eq, diskC_eq, GDisk.cp])) | simp (disch := omega) only [wrapI, wrapU, shl1, shl1', shl1'', shrN, shrN', and_one] 

theorem same_run {d e : GDisk} (s : Same d e) (ho : e.ok = d.ok) (h1 : e.hskew = d.hskew) (h2 : e.cskew = d.cskew) (h3 : e.hlo = d.hlo) (h4 : e.hhi = d.hhi) (h5 : e.clo = d.clo) (h6 : e.chi = d.chi) (a c : Int) : e.run a c = d.run a c := by
  have hr : e.isRun a c ↔ d.isRun a c := by unfold GDisk.isRun; rw [s.size]
  have hl : e.low a c.toNat = d.low a c.toNat := by unfold GDisk.low; rw [s.ticksR, s.swR, s.swR, s.turn, h1, h2, h3, h5]
  have hh : e.high a c.toNat = d.high a c.toNat := by unfold GDisk.high; rw [s.ticksR, s.swR, s.swR, s.turn, h1, h2, h4, h6]
  unfold GDisk.run
  rw [ho, hl, hh]
  by_cases hd : d.isRun a c
  · rw [if_pos hd, if_pos (hr.2 hd)]
  · rw [if_neg hd, if_neg fun hx => hd (hr.1 hx)]
theorem same_lost {d e : GDisk} (s : Same d e) (ho : e.ok = d.ok) (h1 : e.hskew = d.hskew) (h2 : e.cskew = d.cskew) (h4 : e.hhi = d.hhi) (h6 : e.chi = d.chi) : e.lost = d.lost := by
  unfold GDisk.lost GDisk.turns
  rw [ho, s.size, s.swR, s.swR, s.turn, h1, h2, h4, h6]
theorem same_skR {d e : GDisk} (s : Same d e) (ho : e.ok = d.ok) (h4 : e.hhi = d.hhi) (h6 : e.chi = d.chi) (step : Int) : e.skR step = d.skR step := by
  have f1 : e.F1 step = d.F1 step := by funext j; unfold GDisk.F1 GDisk.skF GDisk.sw1; rw [s.turn, s.swR, s.size, h4]
  have f2 : e.F2 step = d.F2 step := by funext j; unfold GDisk.F2 GDisk.skF GDisk.sw2; rw [s.turn, s.swR, s.size, h6]
  unfold GDisk.skR GDisk.A1 GDisk.A2
  rw [ho, s.turn, f1, f2, s.ticksR, s.size]

theorem ZonesRuns_ret (d : GDisk) (a c : Int) : Ret E0 F_law01_ZonesRuns [diskD d, .int .i64 a, .int .i64 c] (.bool true) := by
  refine ret_of_pw dec_law01_ZonesRuns mixed (by simp) fun hwf => ?_
  have c0 := law01_Far_ret d
  have cw := law01_works_ret
  rw [enter_eq]; unfold pc_law01_ZonesRuns
  cases hf : d.far with
  | true =>
    rw [hf] at c0
    (try (simp -implicitDefEqProofs only [go_sem, diskD_eq, diskC_eq])); repeat' first | with_reducible exact True.intro | with_reducible refine And.intro ?_ ?_ | with_reducible intro _ | (((with_reducible refine isCall ?_); first | refine call_b (c0) rfl ?_ ?_ | refine call_d (c0) rfl ?_ | refine call_sb (c0) rfl ?_ ?_ | refine call_s (c0) rfl rfl ?_ | refine call_b (cw) rfl ?_ ?_ | refine call_d (cw) rfl ?_ | refine call_sb (cw) rfl ?_ ?_ | refine call_s (cw) rfl rfl ?_) <;> try (simp -implicitDefEqProofs only [go_sem, diskD_eq, diskC_eq])) | (((with_reducible refine vc_b ?_ ?_) <;> intro _) <;> try (simp -implicitDefEqProofs only [go_sem, diskD_eq, diskC_eq])) | simp (disch := omega) only [wrapI, wrapU, shl1, shl1', shl1'', shrN, shrN', and_one] 
  | false =>
    rw [hf] at c0
    have c1 := ref01_Copy_ret d (far_len hf)
    have c2 := zones_Run_ret d.cp a c
    have c3 := ref01_Run_ret d a c
    have c4 := zones_Lost_ret d.cp
    have c5 := ref01_Lost_ret d
    rw [same_run (same_cp d) rfl rfl rfl rfl rfl rfl rfl] at c2
    rw [same_lost (same_cp d) rfl rfl rfl rfl rfl] at c4
    generalize d.run a c = r at *
    generalize d.lost = t at *
    obtain ⟨⟨r1, r2⟩, r3⟩ := r
    obtain ⟨t1, t2⟩ := t
    (try (simp -implicitDefEqProofs only [go_sem, diskD_eq, diskC_eq, GDisk.cp])); repeat' first | with_reducible exact True.intro | with_reducible refine And.intro ?_ ?_ | with_reducible intro _ | (((with_reducible refine isCall ?_); first | refine call_b (c0) rfl ?_ ?_ | refine call_d (c0) rfl ?_ | refine call_sb (c0) rfl ?_ ?_ | refine call_s (c0) rfl rfl ?_ | refine call_b (cw) rfl ?_ ?_ | refine call_d (cw) rfl ?_ | refine call_sb (cw) rfl ?_ ?_ | refine call_s (cw) rfl rfl ?_ | refine call_b (c1) rfl ?_ ?_ | refine call_d (c1) rfl ?_ | refine call_sb (c1) rfl ?_ ?_ | refine call_s (c1) rfl rfl ?_ | refine call_b (c2) rfl ?_ ?_ | refine call_d (c2) rfl ?_ | refine call_sb (c2) rfl ?_ ?_ | refine call_s (c2) rfl rfl ?_ | refine call_b (c3) rfl ?_ ?_ | refine call_d (c3) rfl ?_ | refine call_sb (c3) rfl ?_ ?_ | refine call_s (c3) rfl rfl ?_ | refine call_b (c4) rfl ?_ ?_ | refine call_d (c4) rfl ?_ | refine call_sb (c4) rfl ?_ ?_ | refine call_s (c4) rfl rfl ?_ | refine call_b (c5) rfl ?_ ?_ | refine call_d (c5) rfl ?_ | refine call_sb (c5) rfl ?_ ?_ | refine call_s (c5) rfl rfl ?_) <;> try (simp -implicitDefEqProofs only [go_sem, diskD_eq, diskC_eq, GDisk.cp])) | (((with_reducible refine vc_b ?_ ?_) <;> intro _) <;> try (simp -implicitDefEqProofs only [go_sem, diskD_eq, diskC_eq, GDisk.cp])) | simp (disch := omega) only [wrapI, wrapU, shl1, shl1', shl1'', shrN, shrN', and_one] 

theorem ZonesSkews_ret (d : GDisk) (step : Int) : Ret E0 F_law01_ZonesSkews [diskD d, .int .i64 step] (.bool true) := by
  refine ret_of_pw dec_law01_ZonesSkews mixed (by simp) fun hwf => ?_
  have c0 := law01_Far_ret d
  have cw := law01_works_ret
  rw [enter_eq]; unfold pc_law01_ZonesSkews
  cases hf : d.far with
  | true =>
    rw [hf] at c0
    (try (simp -implicitDefEqProofs only [go_sem, diskD_eq, diskC_eq])); repeat' first | with_reducible exact True.intro | with_reducible refine And.intro ?_ ?_ | with_reducible intro _ | (((with_reducible refine isCall ?_); first | refine call_b (c0) rfl ?_ ?_ | refine call_d (c0) rfl ?_ | refine call_sb (c0) rfl ?_ ?_ | refine call_s (c0) rfl rfl ?_ | refine call_b (cw) rfl ?_ ?_ | refine call_d (cw) rfl ?_ | refine call_sb (cw) rfl ?_ ?_ | refine call_s (cw) rfl rfl ?_) <;> try (simp -implicitDefEqProofs only [go_sem, diskD_eq, diskC_eq])) | (((with_reducible refine vc_b ?_ ?_) <;> intro _) <;> try (simp -implicitDefEqProofs only [go_sem, diskD_eq, diskC_eq])) | simp (disch := omega) only [wrapI, wrapU, shl1, shl1', shl1'', shrN, shrN', and_one] 
  | false =>
    rw [hf] at c0
    have c1 := ref01_Copy_ret d (far_len hf)
    have c2 := zones_Skews_ret d.cp step
    have c3 := ref01_Skews_ret d step
    rw [same_skR (same_cp d) rfl rfl rfl] at c2
    generalize d.skR step = r at *
    obtain ⟨r1, r2, r3, r4⟩ := r
    (try (simp -implicitDefEqProofs only [go_sem, diskD_eq, diskC_eq, GDisk.cp])); repeat' first | with_reducible exact True.intro | with_reducible refine And.intro ?_ ?_ | with_reducible intro _ | (((with_reducible refine isCall ?_); first | refine call_b (c0) rfl ?_ ?_ | refine call_d (c0) rfl ?_ | refine call_sb (c0) rfl ?_ ?_ | refine call_s (c0) rfl rfl ?_ | refine call_b (cw) rfl ?_ ?_ | refine call_d (cw) rfl ?_ | refine call_sb (cw) rfl ?_ ?_ | refine call_s (cw) rfl rfl ?_ | refine call_b (c1) rfl ?_ ?_ | refine call_d (c1) rfl ?_ | refine call_sb (c1) rfl ?_ ?_ | refine call_s (c1) rfl rfl ?_ | refine call_b (c2) rfl ?_ ?_ | refine call_d (c2) rfl ?_ | refine call_sb (c2) rfl ?_ ?_ | refine call_s (c2) rfl rfl ?_ | refine call_b (c3) rfl ?_ ?_ | refine call_d (c3) rfl ?_ | refine call_sb (c3) rfl ?_ ?_ | refine call_s (c3) rfl rfl ?_) <;> try (simp -implicitDefEqProofs only [go_sem, diskD_eq, diskC_eq, GDisk.cp])) | (((with_reducible refine vc_b ?_ ?_) <;> intro _) <;> try (simp -implicitDefEqProofs only [go_sem, diskD_eq, diskC_eq, GDisk.cp])) | simp (disch := omega) only [wrapI, wrapU, shl1, shl1', shl1'', shrN, shrN', and_one] 
end Go.Pw
