/- A part of the proof. -/
import Derived.Test.YtiphmemigdplgaaDoorJournalPC
import Derived.Test.YtiphmemigdplgaaDoorPwVC
import Derived.Test.YtiphmemigdplgaaDoorZonesSpec
set_option linter.all false
open Go Go.Pw Go.Proofs
namespace Go.Pw
set_option linter.unusedSimpArgs false
set_option linter.unusedVariables false
set_option maxRecDepth 100000
set_option maxHeartbeats 800000
attribute [local congr] cg_pw cg_seqI cg_seqE cg_stepI cg_ev cg_evBin cg_condB cg_condV cg_thenQ cg_blockQ cg_onSome cg_onCells cg_onRow cg_onMap cg_onOpt cg_ghosts cg_ghost cg_evCall cg_part cg_rng cg_guardV cg_frzV cg_frpV cg_ownV cg_owcV cg_occV cg_occX cg_resK cg_res1 cg_yldP cg_rndE cg_onlyN cg_onHist
attribute [local irreducible] IntKind.wrap bitsOp Option.getD and or

theorem zones_in_ret (n lo hi : Int) : Ret E0 F_zones_in [.int .i64 n, .int .i64 lo, .int .i64 hi] (.bool (inZ n lo hi)) := by
  refine ret_of_pw dec_zones_in mixed (by simp) fun hwf => ?_
  rw [enter_eq]; unfold pc_zones_in inZ
  (try (simp -implicitDefEqProofs only [go_sem])); repeat' first | with_reducible exact True.intro | with_reducible refine And.intro ?_ ?_ | with_reducible intro _ | (((with_reducible refine vc_b ?_ ?_) <;> intro _) <;> try (simp -implicitDefEqProofs only [go_sem])) | simp (disch := omega) only [wrapI, wrapU, shl1, shl1', shl1'', shrN, shrN', and_one] 
  all_goals first | omega | (simp_all; done) | (simp_all; omega)

theorem ref01_within_ret (n lo hi : Int) : Ret E0 F_ref01_within [.int .i64 n, .int .i64 lo, .int .i64 hi] (.bool (inZ n lo hi)) := by
  refine ret_of_pw dec_ref01_within mixed (by simp) fun hwf => ?_
  rw [enter_eq]; unfold pc_ref01_within inZ
  (try (simp -implicitDefEqProofs only [go_sem])); repeat' first | with_reducible exact True.intro | with_reducible refine And.intro ?_ ?_ | with_reducible intro _ | (((with_reducible refine vc_b ?_ ?_) <;> intro _) <;> try (simp -implicitDefEqProofs only [go_sem])) | simp (disch := omega) only [wrapI, wrapU, shl1, shl1', shl1'', shrN, shrN', and_one] 
  all_goals first | omega | (simp_all; done) | (simp_all; omega)

theorem zones_Check_1_ret (l h : Int) : Ret E0 F_zones_Check_1 [.agg [.int .i64 l, .int .i64 h]] (.bool (spanOk l h)) := by
  refine ret_of_pw dec_zones_Check_1 mixed (by simp) fun hwf => ?_
  rw [enter_eq]; unfold pc_zones_Check_1 spanOk
  (try (simp -implicitDefEqProofs only [go_sem])); repeat' first | with_reducible exact True.intro | with_reducible refine And.intro ?_ ?_ | with_reducible intro _ | (((with_reducible refine vc_b ?_ ?_) <;> intro _) <;> try (simp -implicitDefEqProofs only [go_sem])) | simp (disch := omega) only [wrapI, wrapU, shl1, shl1', shl1'', shrN, shrN', and_one] 
  all_goals first | omega | (simp_all; done) | (simp_all; omega)

theorem zones_disk_skew_ret (d : GDisk) (b : Bool) : Ret E0 F_zones_disk_skew [diskD d, .bool b] (.int .i64 (if b then d.cskew else d.hskew)) := by
  refine ret_of_pw dec_zones_disk_skew mixed (by simp) fun hwf => ?_
  rw [enter_eq]; unfold pc_zones_disk_skew
  cases b
  · (try (simp -implicitDefEqProofs only [go_sem, diskD_eq, diskC_eq])); repeat' first | with_reducible exact True.intro | with_reducible refine And.intro ?_ ?_ | with_reducible intro _ | (((with_reducible refine vc_b ?_ ?_) <;> intro _) <;> try (simp -implicitDefEqProofs only [go_sem, diskD_eq, diskC_eq])) | simp (disch := omega) only [wrapI, wrapU, shl1, shl1', shl1'', shrN, shrN', and_one] 
  · (try (simp -implicitDefEqProofs only [go_sem, diskD_eq, diskC_eq])); repeat' first | with_reducible exact True.intro | with_reducible refine And.intro ?_ ?_ | with_reducible intro _ | (((with_reducible refine vc_b ?_ ?_) <;> intro _) <;> try (simp -implicitDefEqProofs only [go_sem, diskD_eq, diskC_eq])) | simp (disch := omega) only [wrapI, wrapU, shl1, shl1', shl1'', shrN, shrN', and_one] 

end Go.Pw
