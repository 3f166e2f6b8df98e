/- A part of the proof. -/
import Derived.Test.YtiphmemigdplgaaDoorJournalD
set_option linter.all false
open Go Go.Pw Go.Proofs
namespace Go.Pw
set_option linter.unusedSimpArgs false
set_option linter.unusedVariables false
set_option maxRecDepth 100000
set_option maxHeartbeats 3200000
theorem sn_ptrJ {V o g} : AV.snap V (.ptr o g 0) = match V.get o g with | some (.cells xs) => (match listM AV.toD1 xs with | some (c :: l) => some (.ptr (c :: l)) | _ => none) | _ => none := rfl
def nilR (nl : Bool) (l : List GRec) : Bool := nl && l.isEmpty
/-- A log in new memory. -/
def GLog.cp (l : GLog) : GLog := { l with disk := { l.disk with zn := l.disk.zn && l.disk.zones.isEmpty }, sn := l.sn && l.slots.isEmpty }
def GLog.openE (l : GLog) : Int := if l.check ≠ 0 then l.check else if l.full then 0 else 161
theorem cp_newest (l : GLog) : l.cp.newest = l.newest := rfl
theorem cp_at (l : GLog) (n : Int) : l.cp.at' n = l.at' n := rfl
theorem cp_kept (l : GLog) : l.cp.kept = l.kept := rfl
theorem cp_whole (l : GLog) (t : Int) : ∀ n, l.cp.whole t n = l.whole t n
  | 0 => rfl
  | n + 1 => by rw [GLog.whole, GLog.whole, cp_whole l t n]; rfl
theorem cp_full (l : GLog) : l.cp.full = l.full := cp_whole l _ _
theorem cp_keptA (l : GLog) : l.cp.keptA = l.keptA := by unfold GLog.keptA; rw [cp_full]; rfl
theorem cp_good {l : GLog} (g : l.Good) : l.cp.Good := by
  have s : Same l.disk l.cp.disk := ⟨rfl, rfl, rfl⟩
  exact ⟨g.d, g.b1, g.b2, g.m1, g.m2, g.f1, (by rw [s.size]; exact g.f2), g.s⟩
theorem check_good {l : GLog} (h : l.check = 0) : l.Good := log_good (GLog.check_ok.1 h)
theorem recsD_empty (l : List GRec) : (recsD l).isEmpty = l.isEmpty := by cases l <;> rfl
attribute [local congr] cg_pw cg_seqI cg_seqE cg_stepI cg_ev cg_evBin cg_condB cg_condV cg_thenQ cg_blockQ cg_onSome cg_onCells cg_onRow cg_onMap cg_onOpt cg_ghosts cg_ghost cg_evCall cg_part cg_rng cg_guardV cg_frzV cg_frpV cg_ownV cg_owcV cg_occV cg_occX cg_resK cg_res1 cg_yldP cg_rndE cg_onlyN cg_onHist
attribute [local irreducible] IntKind.wrap bitsOp Option.getD and or

theorem Clone_rec_ret (nl : Bool) (l : List GRec) (hl : l.length ≤ 1000) (hw : nl = true → l = []) : Ret E0 F_slices_Clone_api_Record_api_Record [.list nl (recsD l)] (.list (nl && l.isEmpty) (recsD l)) := by
  refine ret_of_pw dec_slices_Clone_api_Record_api_Record mixed (by simp) fun hwf => ?_
  rw [enter_eq]; unfold pc_slices_Clone_api_Record_api_Record
  cases nl with
  | true =>
    rw [hw rfl]
    (try (simp -implicitDefEqProofs only [go_sem, recsD_nil])); repeat' first | with_reducible exact True.intro | with_reducible refine And.intro ?_ ?_ | with_reducible intro _ | (((with_reducible refine vc_b ?_ ?_) <;> intro _) <;> try (simp -implicitDefEqProofs only [go_sem, recsD_nil])) | simp (disch := omega) only [wrapI, wrapU, shl1, shl1', shl1'', shrN, shrN', and_one] 
    all_goals first | rfl | (simp; done) | skip
  | false =>
    (try (simp -implicitDefEqProofs only [go_sem, recsD_len, recsD_unif])); repeat' first | with_reducible exact True.intro | with_reducible refine And.intro ?_ ?_ | with_reducible intro _ | (((with_reducible refine vc_b ?_ ?_) <;> intro _) <;> try (simp -implicitDefEqProofs only [go_sem, recsD_len, recsD_unif])) | simp (disch := omega) only [wrapI, wrapU, shl1, shl1', shl1'', shrN, shrN', and_one] 
    all_goals first | omega | rfl | (simp; done) | (rename_i hx; rw [hx]) | skip

theorem Clone_zone_ret (nl : Bool) (l : List Zp) (hl : l.length ≤ 1000) (hw : nl = true → l = []) : Ret E0 F_slices_Clone_api_Zone_api_Zone [.list nl (zpsD l)] (.list (nl && l.isEmpty) (zpsD l)) := by
  refine ret_of_pw dec_slices_Clone_api_Zone_api_Zone mixed (by simp) fun hwf => ?_
  rw [enter_eq]; unfold pc_slices_Clone_api_Zone_api_Zone
  cases nl with
  | true =>
    rw [hw rfl, show zpsD [] = [] from rfl]
    (try (simp -implicitDefEqProofs only [go_sem])); repeat' first | with_reducible exact True.intro | with_reducible refine And.intro ?_ ?_ | with_reducible intro _ | (((with_reducible refine vc_b ?_ ?_) <;> intro _) <;> try (simp -implicitDefEqProofs only [go_sem])) | simp (disch := omega) only [wrapI, wrapU, shl1, shl1', shl1'', shrN, shrN', and_one] 
    all_goals first | rfl | (simp; done) | skip
  | false =>
    (try (simp -implicitDefEqProofs only [go_sem, zpsD_len, zpsD_unif])); repeat' first | with_reducible exact True.intro | with_reducible refine And.intro ?_ ?_ | with_reducible intro _ | (((with_reducible refine vc_b ?_ ?_) <;> intro _) <;> try (simp -implicitDefEqProofs only [go_sem, zpsD_len, zpsD_unif])) | simp (disch := omega) only [wrapI, wrapU, shl1, shl1', shl1'', shrN, shrN', and_one] 
    all_goals first | omega | rfl | (simp; done) | (rename_i hx; rw [hx]) | skip

def openR (l : GLog) : D := if l.openE = 0 then .ptr (logC l.cp) else .nilptr
theorem journal_open_ret (l : GLog) (hs : l.sn = true → l.slots = []) (hz : l.disk.zn = true → l.disk.zones = []) : Ret E0 F_journal_open [logD l] (.tup [openR l, .int .i64 l.openE]) := by
  refine ret_of_pw dec_journal_open mixed (by simp) fun hwf => ?_
  have c1 := journal_Check_ret l
  rw [enter_eq]; unfold pc_journal_open openR GLog.openE
  by_cases hc : l.check = 0
  · rw [hc] at c1
    have g := check_good hc
    have m2 := g.m2
    have z2 := (good_of g.d).z2
    have c2 := Clone_rec_ret l.sn l.slots (by omega) hs
    have c3 := Clone_zone_ret l.disk.zn l.disk.zones (by omega) hz
    have c4 := journal_kept_ret l.cp (cp_good g)
    rw [cp_full, cp_keptA] at c4
    cases hf : l.full with
    | true =>
      rw [hf] at c4
      (try (simp -implicitDefEqProofs only [go_sem, logD_eq, logC_eq, GLog.cp, sn_ptrJ, hc])); repeat' first | with_reducible exact True.intro | with_reducible refine And.intro ?_ ?_ | with_reducible intro _ | (((with_reducible refine isCall ?_); first | refine call_b (c1) rfl ?_ ?_ | refine call_d (c1) rfl ?_ | refine call_sb (c1) rfl ?_ ?_ | refine call_s (c1) rfl rfl ?_ | refine call_b (c2) rfl ?_ ?_ | refine call_d (c2) rfl ?_ | refine call_sb (c2) rfl ?_ ?_ | refine call_s (c2) rfl rfl ?_ | refine call_b (c3) rfl ?_ ?_ | refine call_d (c3) rfl ?_ | refine call_sb (c3) rfl ?_ ?_ | refine call_s (c3) rfl rfl ?_ | refine call_b (c4) rfl ?_ ?_ | refine call_d (c4) rfl ?_ | refine call_sb (c4) rfl ?_ ?_ | refine call_s (c4) rfl rfl ?_) <;> try (simp -implicitDefEqProofs only [go_sem, logD_eq, logC_eq, GLog.cp, sn_ptrJ, hc])) | (((with_reducible refine vc_b ?_ ?_) <;> intro _) <;> try (simp -implicitDefEqProofs only [go_sem, logD_eq, logC_eq, GLog.cp, sn_ptrJ, hc])) | simp (disch := omega) only [wrapI, wrapU, shl1, shl1', shl1'', shrN, shrN', and_one] 
      all_goals first | omega | rfl | (simp [hc]; done)
    | false =>
      rw [hf] at c4
      (try (simp -implicitDefEqProofs only [go_sem, logD_eq, logC_eq, GLog.cp, sn_ptrJ, hc])); repeat' first | with_reducible exact True.intro | with_reducible refine And.intro ?_ ?_ | with_reducible intro _ | (((with_reducible refine isCall ?_); first | refine call_b (c1) rfl ?_ ?_ | refine call_d (c1) rfl ?_ | refine call_sb (c1) rfl ?_ ?_ | refine call_s (c1) rfl rfl ?_ | refine call_b (c2) rfl ?_ ?_ | refine call_d (c2) rfl ?_ | refine call_sb (c2) rfl ?_ ?_ | refine call_s (c2) rfl rfl ?_ | refine call_b (c3) rfl ?_ ?_ | refine call_d (c3) rfl ?_ | refine call_sb (c3) rfl ?_ ?_ | refine call_s (c3) rfl rfl ?_ | refine call_b (c4) rfl ?_ ?_ | refine call_d (c4) rfl ?_ | refine call_sb (c4) rfl ?_ ?_ | refine call_s (c4) rfl rfl ?_) <;> try (simp -implicitDefEqProofs only [go_sem, logD_eq, logC_eq, GLog.cp, sn_ptrJ, hc])) | (((with_reducible refine vc_b ?_ ?_) <;> intro _) <;> try (simp -implicitDefEqProofs only [go_sem, logD_eq, logC_eq, GLog.cp, sn_ptrJ, hc])) | simp (disch := omega) only [wrapI, wrapU, shl1, shl1', shl1'', shrN, shrN', and_one] 
      all_goals first | omega | rfl | (simp [hc]; done)
  · (try (simp -implicitDefEqProofs only [go_sem, logD_eq, logC_eq, hc])); repeat' first | with_reducible exact True.intro | with_reducible refine And.intro ?_ ?_ | with_reducible intro _ | (((with_reducible refine isCall ?_); first | refine call_b (c1) rfl ?_ ?_ | refine call_d (c1) rfl ?_ | refine call_sb (c1) rfl ?_ ?_ | refine call_s (c1) rfl rfl ?_) <;> try (simp -implicitDefEqProofs only [go_sem, logD_eq, logC_eq, hc])) | (((with_reducible refine vc_b ?_ ?_) <;> intro _) <;> try (simp -implicitDefEqProofs only [go_sem, logD_eq, logC_eq, hc])) | simp (disch := omega) only [wrapI, wrapU, shl1, shl1', shl1'', shrN, shrN', and_one] 
    all_goals first | omega | rfl | (simp [hc]; done)
end Go.Pw
