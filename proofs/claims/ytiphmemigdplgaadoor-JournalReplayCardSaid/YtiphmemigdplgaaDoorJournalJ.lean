/- A part of the proof. -/
import Derived.Test.YtiphmemigdplgaaDoorJournalI
set_option linter.all false
open Go Go.Pw Go.Proofs
namespace Go.Pw
set_option linter.unusedSimpArgs false
set_option linter.unusedVariables false
set_option maxRecDepth 100000
set_option maxHeartbeats 3200000
theorem J_run_of {d : GDisk} (h : d.ok = true) {a c : Int} (hr : d.isRun a c) : d.run a c = ((d.low a c.toNat, d.high a c.toNat), 0) := by unfold GDisk.run; rw [if_pos h, if_pos hr]
def GLog.scan (l : GLog) : (Int × Int) × Int := if l.check ≠ 0 then ((0, 0), l.check) else l.disk.run l.from' l.slots.length
theorem cpy_allOk (l : GLog) : ∀ n, l.cpy.allOk n = l.allOk n
  | 0 => rfl
  | n + 1 => by rw [GLog.allOk, GLog.allOk, cpy_allOk l n]; rfl
theorem cpy_check (l : GLog) : l.cpy.check = l.check := by
  unfold GLog.check GLog.head
  rw [show l.cpy.disk.ok = l.disk.ok from rfl, show l.cpy.slots = l.slots from rfl, show l.cpy.disk.size = l.disk.size from (same_cp l.disk).size, cpy_allOk]; rfl
theorem cpy_whole (l : GLog) (t : Int) : ∀ n, l.cpy.whole t n = l.whole t n
  | 0 => rfl
  | n + 1 => by rw [GLog.whole, GLog.whole, cpy_whole l t n]; rfl
theorem cpy_full (l : GLog) : l.cpy.full = l.full := cpy_whole l _ _
theorem cpy_open (l : GLog) : l.cpy.openE = l.openE := by unfold GLog.openE; rw [cpy_check, cpy_full]
theorem cpy_recE (l : GLog) : l.cpy.recE = l.recE := by unfold GLog.recE; rw [cpy_open]; rfl
theorem cpy_room (l : GLog) : l.cpy.room = l.room := by unfold GLog.room; rw [cpy_open]; rfl
theorem J_same_run {d e : GDisk} (s : Same d e) (ho : e.ok = d.ok) (h1 : e.hskew = d.hskew) (h2 : e.cskew = d.cskew) (h3 : e.hlo = d.hlo) (h4 : e.hhi = d.hhi) (h5 : e.clo = d.clo) (h6 : e.chi = d.chi) (a c : Int) : e.run a c = d.run a c := by
  have hr : e.isRun a c ↔ d.isRun a c := by unfold GDisk.isRun; rw [s.size]
  have hl : e.low a c.toNat = d.low a c.toNat := by unfold GDisk.low; rw [s.ticksR, s.swR, s.swR, s.turn, h1, h2, h3, h5]
  have hh : e.high a c.toNat = d.high a c.toNat := by unfold GDisk.high; rw [s.ticksR, s.swR, s.swR, s.turn, h1, h2, h4, h6]
  unfold GDisk.run
  rw [ho, hl, hh]
  by_cases hd : d.isRun a c
  · rw [if_pos hd, if_pos (hr.2 hd)]
  · rw [if_neg hd, if_neg fun hx => hd (hr.1 hx)]
theorem cpy_scan (l : GLog) : l.cpy.scan = l.scan := by
  unfold GLog.scan
  rw [cpy_check, show l.cpy.disk.run l.cpy.from' l.cpy.slots.length = l.disk.run l.from' l.slots.length from J_same_run (same_cp l.disk) rfl rfl rfl rfl rfl rfl rfl _ _]
attribute [local congr] cg_pw cg_seqI cg_seqE cg_stepI cg_ev cg_evBin cg_condB cg_condV cg_thenQ cg_blockQ cg_onSome cg_onCells cg_onRow cg_onMap cg_onOpt cg_ghosts cg_ghost cg_evCall cg_part cg_rng cg_guardV cg_frzV cg_frpV cg_ownV cg_owcV cg_occV cg_occX cg_resK cg_res1 cg_yldP cg_rndE cg_onlyN cg_onHist
attribute [local irreducible] IntKind.wrap bitsOp Option.getD and or

theorem journal_Scan_ret (l : GLog) : Ret E0 F_journal_Scan [logD l] (.tup [.agg [.int .i64 l.scan.1.1, .int .i64 l.scan.1.2], .int .i64 l.scan.2]) := by
  refine ret_of_pw dec_journal_Scan mixed (by simp) fun hwf => ?_
  have c1 := journal_Check_ret l
  rw [enter_eq]; unfold pc_journal_Scan GLog.scan
  by_cases hc : l.check = 0
  · rw [if_neg (by simpa using hc)]
    rw [hc] at c1
    have c2 := zones_Run_ret l.disk l.from' l.slots.length
    generalize l.disk.run l.from' l.slots.length = r at *
    obtain ⟨⟨r1, r2⟩, r3⟩ := r
    rw [diskD_eq, diskC_eq] at c2
    (try (simp -implicitDefEqProofs only [go_sem, logD_eq, logC_eq, recsD_len])); repeat' first | with_reducible exact True.intro | with_reducible refine And.intro ?_ ?_ | with_reducible intro _ | (((with_reducible refine isCall ?_); first | refine call_b (c1) rfl ?_ ?_ | refine call_d (c1) rfl ?_ | refine call_sb (c1) rfl ?_ ?_ | refine call_s (c1) rfl rfl ?_ | refine call_b (c2) rfl ?_ ?_ | refine call_d (c2) rfl ?_ | refine call_sb (c2) rfl ?_ ?_ | refine call_s (c2) rfl rfl ?_) <;> try (simp -implicitDefEqProofs only [go_sem, logD_eq, logC_eq, recsD_len])) | (((with_reducible refine vc_b ?_ ?_) <;> intro _) <;> try (simp -implicitDefEqProofs only [go_sem, logD_eq, logC_eq, recsD_len])) | simp (disch := omega) only [wrapI, wrapU, shl1, shl1', shl1'', shrN, shrN', and_one] 
  · rw [if_pos hc]
    (try (simp -implicitDefEqProofs only [go_sem, logD_eq, logC_eq, hc])); repeat' first | with_reducible exact True.intro | with_reducible refine And.intro ?_ ?_ | with_reducible intro _ | (((with_reducible refine isCall ?_); first | refine call_b (c1) rfl ?_ ?_ | refine call_d (c1) rfl ?_ | refine call_sb (c1) rfl ?_ ?_ | refine call_s (c1) rfl rfl ?_) <;> try (simp -implicitDefEqProofs only [go_sem, logD_eq, logC_eq, hc])) | (((with_reducible refine vc_b ?_ ?_) <;> intro _) <;> try (simp -implicitDefEqProofs only [go_sem, logD_eq, logC_eq, hc])) | simp (disch := omega) only [wrapI, wrapU, shl1, shl1', shl1'', shrN, shrN', and_one] 
theorem ref16_Scan_ret (l : GLog) : Ret E0 F_ref16_Scan [logD l] (.tup [.agg [.int .i64 l.scan.1.1, .int .i64 l.scan.1.2], .int .i64 l.scan.2]) := by
  refine ret_of_pw dec_ref16_Scan mixed (by simp) fun hwf => ?_
  have c1 := ref16_Check_ret l
  rw [enter_eq]; unfold pc_ref16_Scan GLog.scan
  by_cases hc : l.check = 0
  · rw [if_neg (by simpa using hc)]
    rw [hc] at c1
    have c2 := ref01_Run_ret l.disk l.from' l.slots.length
    generalize l.disk.run l.from' l.slots.length = r at *
    obtain ⟨⟨r1, r2⟩, r3⟩ := r
    rw [diskD_eq, diskC_eq] at c2
    (try (simp -implicitDefEqProofs only [go_sem, logD_eq, logC_eq, recsD_len])); repeat' first | with_reducible exact True.intro | with_reducible refine And.intro ?_ ?_ | with_reducible intro _ | (((with_reducible refine isCall ?_); first | refine call_b (c1) rfl ?_ ?_ | refine call_d (c1) rfl ?_ | refine call_sb (c1) rfl ?_ ?_ | refine call_s (c1) rfl rfl ?_ | refine call_b (c2) rfl ?_ ?_ | refine call_d (c2) rfl ?_ | refine call_sb (c2) rfl ?_ ?_ | refine call_s (c2) rfl rfl ?_) <;> try (simp -implicitDefEqProofs only [go_sem, logD_eq, logC_eq, recsD_len])) | (((with_reducible refine vc_b ?_ ?_) <;> intro _) <;> try (simp -implicitDefEqProofs only [go_sem, logD_eq, logC_eq, recsD_len])) | simp (disch := omega) only [wrapI, wrapU, shl1, shl1', shl1'', shrN, shrN', and_one] 
  · rw [if_pos hc]
    (try (simp -implicitDefEqProofs only [go_sem, logD_eq, logC_eq, hc])); repeat' first | with_reducible exact True.intro | with_reducible refine And.intro ?_ ?_ | with_reducible intro _ | (((with_reducible refine isCall ?_); first | refine call_b (c1) rfl ?_ ?_ | refine call_d (c1) rfl ?_ | refine call_sb (c1) rfl ?_ ?_ | refine call_s (c1) rfl rfl ?_) <;> try (simp -implicitDefEqProofs only [go_sem, logD_eq, logC_eq, hc])) | (((with_reducible refine vc_b ?_ ?_) <;> intro _) <;> try (simp -implicitDefEqProofs only [go_sem, logD_eq, logC_eq, hc])) | simp (disch := omega) only [wrapI, wrapU, shl1, shl1', shl1'', shrN, shrN', and_one] 

theorem JournalRuns_ret (l : GLog) : Ret E0 F_law16_JournalRuns [logD l] (.bool true) := by
  refine ret_of_pw dec_law16_JournalRuns mixed (by simp) fun hwf => ?_
  have c0 := law16_Far_ret l
  have cw := law16_works_ret
  rw [enter_eq]; unfold pc_law16_JournalRuns
  cases hf : l.far with
  | true =>
    rw [hf] at c0
    (try (simp -implicitDefEqProofs only [go_sem, logD_eq, logC_eq])); repeat' first | with_reducible exact True.intro | with_reducible refine And.intro ?_ ?_ | with_reducible intro _ | (((with_reducible refine isCall ?_); first | refine call_b (c0) rfl ?_ ?_ | refine call_d (c0) rfl ?_ | refine call_sb (c0) rfl ?_ ?_ | refine call_s (c0) rfl rfl ?_ | refine call_b (cw) rfl ?_ ?_ | refine call_d (cw) rfl ?_ | refine call_sb (cw) rfl ?_ ?_ | refine call_s (cw) rfl rfl ?_) <;> try (simp -implicitDefEqProofs only [go_sem, logD_eq, logC_eq])) | (((with_reducible refine vc_b ?_ ?_) <;> intro _) <;> try (simp -implicitDefEqProofs only [go_sem, logD_eq, logC_eq])) | simp (disch := omega) only [wrapI, wrapU, shl1, shl1', shl1'', shrN, shrN', and_one] 
  | false =>
    rw [hf] at c0
    obtain ⟨f1, f2⟩ := lfar_len hf
    have c1 := ref16_Copy_ret l (by omega) (far_len f1)
    have n1 : l.cpy.sn = true → l.cpy.slots = [] := by intro h; cases h
    have n2 : l.cpy.disk.zn = true → l.cpy.disk.zones = [] := by intro h; cases h
    have c2 := journal_Check_ret l.cpy
    have c3 := ref16_Check_ret l
    have c4 := journal_Recover_ret l.cpy n1 n2
    have c5 := ref16_Recover_ret l
    have c6 := journal_Room_ret l.cpy n1 n2
    have c7 := ref16_Room_ret l
    have c8 := journal_Scan_ret l.cpy
    have c9 := ref16_Scan_ret l
    rw [cpy_check] at c2
    rw [cpy_recE, cpy_open] at c4
    rw [cpy_room, cpy_open] at c6
    rw [cpy_scan] at c8
    have cs := fun a b => law16_sameRecords_refl a b l.recE
    generalize l.check = k at *
    generalize l.recE = rs at *
    generalize l.openE = e at *
    generalize l.room = m at *
    generalize l.scan = s at *
    obtain ⟨⟨s1, s2⟩, s3⟩ := s
    (try (simp -implicitDefEqProofs only [go_sem, logD_eq, logC_eq, GLog.cpy, GDisk.cp])); repeat' first | with_reducible exact True.intro | with_reducible refine And.intro ?_ ?_ | with_reducible intro _ | (((with_reducible refine isCall ?_); first | refine call_b (c0) rfl ?_ ?_ | refine call_d (c0) rfl ?_ | refine call_sb (c0) rfl ?_ ?_ | refine call_s (c0) rfl rfl ?_ | refine call_b (cw) rfl ?_ ?_ | refine call_d (cw) rfl ?_ | refine call_sb (cw) rfl ?_ ?_ | refine call_s (cw) rfl rfl ?_ | refine call_b (c1) rfl ?_ ?_ | refine call_d (c1) rfl ?_ | refine call_sb (c1) rfl ?_ ?_ | refine call_s (c1) rfl rfl ?_ | refine call_b (c2) rfl ?_ ?_ | refine call_d (c2) rfl ?_ | refine call_sb (c2) rfl ?_ ?_ | refine call_s (c2) rfl rfl ?_ | refine call_b (c3) rfl ?_ ?_ | refine call_d (c3) rfl ?_ | refine call_sb (c3) rfl ?_ ?_ | refine call_s (c3) rfl rfl ?_ | refine call_b (c4) rfl ?_ ?_ | refine call_d (c4) rfl ?_ | refine call_sb (c4) rfl ?_ ?_ | refine call_s (c4) rfl rfl ?_ | refine call_b (c5) rfl ?_ ?_ | refine call_d (c5) rfl ?_ | refine call_sb (c5) rfl ?_ ?_ | refine call_s (c5) rfl rfl ?_ | refine call_b (c6) rfl ?_ ?_ | refine call_d (c6) rfl ?_ | refine call_sb (c6) rfl ?_ ?_ | refine call_s (c6) rfl rfl ?_ | refine call_b (c7) rfl ?_ ?_ | refine call_d (c7) rfl ?_ | refine call_sb (c7) rfl ?_ ?_ | refine call_s (c7) rfl rfl ?_ | refine call_b (c8) rfl ?_ ?_ | refine call_d (c8) rfl ?_ | refine call_sb (c8) rfl ?_ ?_ | refine call_s (c8) rfl rfl ?_ | refine call_b (c9) rfl ?_ ?_ | refine call_d (c9) rfl ?_ | refine call_sb (c9) rfl ?_ ?_ | refine call_s (c9) rfl rfl ?_ | refine call_b (cs _ _) rfl ?_ ?_ | refine call_d (cs _ _) rfl ?_ | refine call_sb (cs _ _) rfl ?_ ?_ | refine call_s (cs _ _) rfl rfl ?_) <;> try (simp -implicitDefEqProofs only [go_sem, logD_eq, logC_eq, GLog.cpy, GDisk.cp])) | (((with_reducible refine vc_b ?_ ?_) <;> intro _) <;> try (simp -implicitDefEqProofs only [go_sem, logD_eq, logC_eq, GLog.cpy, GDisk.cp])) | simp (disch := omega) only [wrapI, wrapU, shl1, shl1', shl1'', shrN, shrN', and_one] 
end Go.Pw
