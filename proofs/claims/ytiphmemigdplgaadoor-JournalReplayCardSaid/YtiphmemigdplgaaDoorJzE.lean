/- A part of the proof. -/
import Derived.Test.YtiphmemigdplgaaDoorJzD
import Derived.Test.YtiphmemigdplgaaDoorZonesSpec2
set_option linter.all false
open Go Go.Pw Go.Proofs
namespace Go.Pw
set_option linter.unusedSimpArgs false
set_option linter.unusedVariables false
set_option maxRecDepth 100000
set_option maxHeartbeats 1600000
attribute [local congr] cg_pw cg_seqI cg_seqE cg_stepI cg_ev cg_evBin cg_condB cg_condV cg_thenQ cg_blockQ cg_onSome cg_onCells cg_onRow cg_onMap cg_onOpt cg_ghosts cg_ghost cg_evCall cg_part cg_rng cg_guardV cg_frzV cg_frpV cg_ownV cg_owcV cg_occV cg_occX cg_resK cg_res1 cg_yldP cg_rndE cg_onlyN cg_onHist
attribute [local irreducible] IntKind.wrap bitsOp Option.getD and or

theorem zones_gap_ret (d : GDisk) (g : d.Good) (skew ticks : Int) (h1 : 0 ≤ skew ∧ skew < d.turn) (h2 : 0 ≤ ticks ∧ ticks ≤ 2000) : Ret E0 F_zones_disk_gap [diskD d, .int .i64 skew, .int .i64 ticks] (.tup [.int .i64 (gapV d.turn skew ticks), .int .i64 (gapT d.turn skew ticks)]) := by
  refine ret_of_pw dec_zones_disk_gap mixed (by simp) fun hwf => ?_
  have t1 := g.t1; have t2 := g.t2
  obtain ⟨k0, k1, k2⟩ := gapT_spec (t := d.turn) (skew := skew) (ticks := ticks) (by omega)
  have hle := gapT_le (t := d.turn) (skew := skew) (ticks := ticks) (by omega) h2.2 h1.1
  rw [enter_eq]; unfold pc_zones_disk_gap gapV
  generalize gapT d.turn skew ticks = q at *
  (try (simp -implicitDefEqProofs only [go_sem, diskD_eq, diskC_eq])); repeat' first | with_reducible exact True.intro | with_reducible refine And.intro ?_ ?_ | with_reducible intro _ | (((with_reducible refine vc_b ?_ ?_) <;> intro _) <;> try (simp -implicitDefEqProofs only [go_sem, diskD_eq, diskC_eq])) | simp (disch := omega) only [wrapI, wrapU, shl1, shl1', shl1'', shrN, shrN', and_one] | ((with_reducible refine isEx ?_); refine ⟨_, rfl, ?_, ?_⟩)
  all_goals first | omega | (simp; done) | (simp; omega) | skip
  refine pw_loopS (α := Int) (l0 := ?l1) (m0 := ?m1) (fun x => [(7, .d (.int .i64 x))]) (fun x => []) (fun x => 0 ≤ x ∧ x ≤ q) (fun x => (q - x).toNat) ?a1_0 ?h01 ?he1 ?he21 ?hI1 ?step1
  case h01 => (simp -implicitDefEqProofs only [go_sem, diskC_eq]; rfl)
  case he1 => rfl
  case he21 => rfl
  case' step1 => (rintro t hI; try dsimp only at hI)
  case' hI1 => try dsimp only
  · exact ⟨by omega, by omega⟩
  · have hb : 0 ≤ t * d.turn ∧ t * d.turn ≤ 2000 * 1000 := ⟨Int.mul_nonneg (by omega) (by omega), Int.mul_le_mul (by omega) (by omega) (by omega) (by omega)⟩
    have hw1 : IntKind.i64.wrap (t * d.turn) = t * d.turn := wrapI _ (by omega)
    have hw2 : IntKind.i64.wrap (skew + t * d.turn) = skew + t * d.turn := wrapI _ (by omega)
    have hw3 : IntKind.i64.wrap (t + 1) = t + 1 := wrapI _ (by omega)
    by_cases ht : t < q
    · have hlt := k2 t ht hI.1
      (try (simp -implicitDefEqProofs only [go_sem, diskC_eq, hw1, hw2, hw3, hlt])); repeat' first | with_reducible exact True.intro | with_reducible refine And.intro ?_ ?_ | with_reducible intro _ | (((with_reducible refine vc_b ?_ ?_) <;> intro _) <;> try (simp -implicitDefEqProofs only [go_sem, diskC_eq, hw1, hw2, hw3, hlt])) | simp (disch := omega) only [wrapI, wrapU, shl1, shl1', shl1'', shrN, shrN', and_one] | ((with_reducible refine isEx ?_); refine ⟨_, rfl, ?_, ?_⟩)
      all_goals first | omega | (simp; done) | (simp; omega) | skip
    · have hte : t = q := by omega
      subst hte
      have hlt : ¬ skew + t * d.turn < ticks := by omega
      (try (simp -implicitDefEqProofs only [go_sem, diskC_eq, hw1, hw2, hw3, hlt])); repeat' first | with_reducible exact True.intro | with_reducible refine And.intro ?_ ?_ | with_reducible intro _ | (((with_reducible refine vc_b ?_ ?_) <;> intro _) <;> try (simp -implicitDefEqProofs only [go_sem, diskC_eq, hw1, hw2, hw3, hlt])) | simp (disch := omega) only [wrapI, wrapU, shl1, shl1', shl1'', shrN, shrN', and_one] | ((with_reducible refine isEx ?_); refine ⟨_, rfl, ?_, ?_⟩)
      all_goals first | omega | (simp; done) | (simp; omega) | skip

theorem zones_changes_ret (d : GDisk) : Ret E0 F_zones_disk_changes [diskD d] (.agg [.int .i64 d.hlo, .int .i64 d.hhi, .int .i64 d.hskew, .int .i64 d.clo, .int .i64 d.chi, .int .i64 d.cskew]) := by
  refine ret_of_pw dec_zones_disk_changes mixed (by simp) fun hwf => ?_
  rw [enter_eq]; unfold pc_zones_disk_changes
  (try (simp -implicitDefEqProofs only [go_sem, diskD_eq, diskC_eq])); repeat' first | with_reducible exact True.intro | with_reducible refine And.intro ?_ ?_ | with_reducible intro _ | (((with_reducible refine vc_b ?_ ?_) <;> intro _) <;> try (simp -implicitDefEqProofs only [go_sem, diskD_eq, diskC_eq])) | simp (disch := omega) only [wrapI, wrapU, shl1, shl1', shl1'', shrN, shrN', and_one] 
  all_goals first | omega | (simp; done) | (simp; omega) | skip

end Go.Pw
