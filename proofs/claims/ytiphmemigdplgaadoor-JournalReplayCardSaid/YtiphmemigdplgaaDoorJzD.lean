/- A part of the proof. -/
import Derived.Test.YtiphmemigdplgaaDoorJzC
set_option linter.all false
open Go Go.Pw Go.Proofs
namespace Go.Pw
set_option linter.unusedSimpArgs false
set_option linter.unusedVariables false
set_option maxRecDepth 100000
set_option maxHeartbeats 1600000
attribute [local congr] cg_pw cg_seqI cg_seqE cg_stepI cg_ev cg_evBin cg_condB cg_condV cg_thenQ cg_blockQ cg_onSome cg_onCells cg_onRow cg_onMap cg_onOpt cg_ghosts cg_ghost cg_evCall cg_part cg_rng cg_guardV cg_frzV cg_frpV cg_ownV cg_owcV cg_occV cg_occX cg_resK cg_res1 cg_yldP cg_rndE cg_onlyN cg_onHist
attribute [local irreducible] IntKind.wrap bitsOp Option.getD and or
-- %RNGV

theorem zones_disk_size_ret (d : GDisk) (hok : d.ok = true) : Ret E0 F_zones_disk_size [diskD d] (.int .i64 d.size) := by
  have g := good_of hok
  refine ret_of_pw dec_zones_disk_size mixed (by simp) fun hwf => ?_
  rw [enter_eq]; unfold pc_zones_disk_size
  (try (simp -implicitDefEqProofs only [go_sem, diskD_eq, diskC_eq])); repeat' first | with_reducible exact True.intro | with_reducible refine And.intro ?_ ?_ | with_reducible intro _ | (((with_reducible refine vc_b ?_ ?_) <;> intro _) <;> try (simp -implicitDefEqProofs only [go_sem, diskD_eq, diskC_eq])) | simp (disch := omega) only [wrapI, wrapU, shl1, shl1', shl1'', shrN, shrN', and_one] | ((with_reducible refine isVx ?_); refine ⟨_, rfl, ?_⟩)
  refine pw_rngS (α := Int) (so := setOs) (l0 := ?l1) (m0 := ?m1) (fun x => [(5000002, .cells [.d (.int .i64 x)])]) (fun n x => x = d.tf n) (fun e x => False) 0 (zones_tracks_seq d hok) body_zones_disk_tracks ?h01 ?he1 (by simp [PC.noR]) ?hw1 ?hI1 ?step1 ?hend1 ?hjump1
  case h01 => (simp -implicitDefEqProofs only [go_sem, diskD_eq, diskC_eq]; first | exact ⟨rfl, rfl⟩ | exact rfl)
  case he1 => rfl
  case hw1 => simp -implicitDefEqProofs only [go_sem]
  case' hjump1 => (rintro e x hI; try dsimp only at hI)
  case' hend1 => (rintro x hI; try dsimp only at hI)
  case' step1 => (rintro n x ds hds hI; try dsimp only at hI)
  case' hI1 => try dsimp only
  · rfl
  · obtain ⟨hn, rfl⟩ := tracks_get hds
    refine ⟨rfl, ?_⟩
    have h1 := g.tf n (by omega)
    have h2 := g.ts hn
    have h3 := g.nt
    have hw : IntKind.i64.wrap (x + d.ts n) = x + d.ts n := wrapI _ (by omega)
    (try (simp -implicitDefEqProofs only [go_sem, trackD_eq, trackC_eq, GDisk.track, hw])); repeat' first | with_reducible exact True.intro | with_reducible refine And.intro ?_ ?_ | with_reducible intro _ | (((with_reducible refine vc_b ?_ ?_) <;> intro _) <;> try (simp -implicitDefEqProofs only [go_sem, trackD_eq, trackC_eq, GDisk.track, hw])) | simp (disch := omega) only [wrapI, wrapU, shl1, shl1', shl1'', shrN, shrN', and_one] | ((with_reducible refine isVx ?_); refine ⟨_, rfl, ?_⟩)
    all_goals first | omega | (simp; done) | (simp; omega) | skip
    all_goals (rw [hI]; rfl)
  · rw [tracks_len] at hI
    (try (simp -implicitDefEqProofs only [go_sem, hI])); repeat' first | with_reducible exact True.intro | with_reducible refine And.intro ?_ ?_ | with_reducible intro _ | (((with_reducible refine vc_b ?_ ?_) <;> intro _) <;> try (simp -implicitDefEqProofs only [go_sem, hI])) | simp (disch := omega) only [wrapI, wrapU, shl1, shl1', shl1'', shrN, shrN', and_one] | ((with_reducible refine isVx ?_); refine ⟨_, rfl, ?_⟩)
    rfl

theorem zones_open_ret (d : GDisk) : Ret E0 F_zones_open [diskD d] (.tup [diskD d, .int .i64 d.check]) := by
  refine ret_of_pw dec_zones_open mixed (by simp) fun hwf => ?_
  have c1 := zones_Check_ret d
  rw [diskD_eq, diskC_eq] at c1
  rw [enter_eq]; unfold pc_zones_open
  (try (simp -implicitDefEqProofs only [go_sem, diskD_eq, diskC_eq])); repeat' first | with_reducible exact True.intro | with_reducible refine And.intro ?_ ?_ | with_reducible intro _ | (((with_reducible refine isCall ?_); first | refine call_b (c1) rfl ?_ ?_ | refine call_d (c1) rfl ?_ | refine call_sb (c1) rfl ?_ ?_ | refine call_s (c1) rfl rfl ?_) <;> try (simp -implicitDefEqProofs only [go_sem, diskD_eq, diskC_eq])) | (((with_reducible refine vc_b ?_ ?_) <;> intro _) <;> try (simp -implicitDefEqProofs only [go_sem, diskD_eq, diskC_eq])) | simp (disch := omega) only [wrapI, wrapU, shl1, shl1', shl1'', shrN, shrN', and_one] 
  all_goals first | omega | (simp; done) | (simp; omega) | skip

theorem zones_Size_ret (d : GDisk) : Ret E0 F_zones_Size [diskD d] (.tup [.int .i64 (if d.ok then d.size else 0), .int .i64 d.check]) := by
  refine ret_of_pw dec_zones_Size mixed (by simp) fun hwf => ?_
  have c1 := zones_open_ret d
  rw [enter_eq]; unfold pc_zones_Size
  unfold GDisk.check at *
  cases h : d.ok with
  | false =>
    rw [h] at c1
    (try (simp -implicitDefEqProofs only [go_sem, diskD_eq, diskC_eq])); repeat' first | with_reducible exact True.intro | with_reducible refine And.intro ?_ ?_ | with_reducible intro _ | (((with_reducible refine isCall ?_); first | refine call_b (c1) rfl ?_ ?_ | refine call_d (c1) rfl ?_ | refine call_sb (c1) rfl ?_ ?_ | refine call_s (c1) rfl rfl ?_) <;> try (simp -implicitDefEqProofs only [go_sem, diskD_eq, diskC_eq])) | (((with_reducible refine vc_b ?_ ?_) <;> intro _) <;> try (simp -implicitDefEqProofs only [go_sem, diskD_eq, diskC_eq])) | simp (disch := omega) only [wrapI, wrapU, shl1, shl1', shl1'', shrN, shrN', and_one] 
    all_goals first | omega | (simp; done) | (simp; omega) | skip
  | true =>
    rw [h] at c1
    have c2 := zones_disk_size_ret d h
    (try (simp -implicitDefEqProofs only [go_sem, diskD_eq, diskC_eq])); repeat' first | with_reducible exact True.intro | with_reducible refine And.intro ?_ ?_ | with_reducible intro _ | (((with_reducible refine isCall ?_); first | refine call_b (c1) rfl ?_ ?_ | refine call_d (c1) rfl ?_ | refine call_sb (c1) rfl ?_ ?_ | refine call_s (c1) rfl rfl ?_ | refine call_b (c2) rfl ?_ ?_ | refine call_d (c2) rfl ?_ | refine call_sb (c2) rfl ?_ ?_ | refine call_s (c2) rfl rfl ?_) <;> try (simp -implicitDefEqProofs only [go_sem, diskD_eq, diskC_eq])) | (((with_reducible refine vc_b ?_ ?_) <;> intro _) <;> try (simp -implicitDefEqProofs only [go_sem, diskD_eq, diskC_eq])) | simp (disch := omega) only [wrapI, wrapU, shl1, shl1', shl1'', shrN, shrN', and_one] 
    all_goals first | omega | (simp; done) | (simp; omega) | skip

def placeD (c h s : Int) : D := .agg [.int .i64 c, .int .i64 h, .int .i64 s]
theorem placeD_eq (c h s : Int) : placeD c h s = .agg [.int .i64 c, .int .i64 h, .int .i64 s] := rfl


end Go.Pw
