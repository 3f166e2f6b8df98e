/- A part of the proof. -/
import Derived.Test.YtddmlbflglpgbaaZonesK
import Derived.Test.YtddmlbflglpgbaaZonesSpec6
set_option linter.all false
open Go Go.Pw Go.Proofs
namespace Go.Pw
set_option linter.unusedSimpArgs false
set_option linter.unusedVariables false
set_option maxRecDepth 100000
set_option maxHeartbeats 3200000
def leastF (f : Nat → Int) (j : Nat) : Int := if j = 0 then -1 else f (argF f j)
theorem leastF_next {f : Nat → Int} {j : Nat} (h : ∀ i, i ≤ j → 0 ≤ f i) : (f j < leastF f j ∨ leastF f j < 0 → leastF f (j + 1) = f j ∧ argF f (j + 1) = j) ∧ (¬ f j < leastF f j → ¬ leastF f j < 0 → leastF f (j + 1) = leastF f j ∧ argF f (j + 1) = argF f j) := by
  unfold leastF
  by_cases hj : j = 0
  · subst hj
    have hz : argF f (0 + 1) = 0 := by rw [argF]; split <;> rfl
    have h0 := h 0 (Nat.le_refl _)
    constructor
    · intro _; simp [hz]
    · intro _ h2; simp at h2
  · obtain ⟨a1, a2, a3⟩ := argF_spec f j (by omega)
    have hp := h (argF f j) (by omega)
    rw [if_neg hj, if_neg (by omega), argF]
    constructor
    · intro hh
      have : f j < f (argF f j) := by omega
      rw [if_pos this]; exact ⟨rfl, rfl⟩
    · intro h1 _
      rw [if_neg h1]; exact ⟨rfl, rfl⟩
attribute [local congr] cg_pw cg_seqI cg_seqE cg_stepI cg_ev cg_evBin cg_condB cg_condV cg_thenQ cg_blockQ cg_onSome cg_onCells cg_onRow cg_onMap cg_onOpt cg_ghosts cg_ghost cg_evCall cg_part cg_rng cg_guardV cg_frzV cg_frpV cg_ownV cg_owcV cg_occV cg_occX cg_resK cg_res1 cg_yldP cg_rndE cg_onlyN cg_onHist
attribute [local irreducible] IntKind.wrap bitsOp Option.getD and or

theorem zones_Skews_ret (d : GDisk) (step : Int) : Ret E0 F_zones_Skews [diskD d, .int .i64 step] (.tup [.int .i64 (d.skR step).1, .int .i64 (d.skR step).2.1, .int .i64 (d.skR step).2.2.1, .int .i64 (d.skR step).2.2.2]) := by
  refine ret_of_pw dec_zones_Skews mixed (by simp) fun hwf => ?_
  have c1 := zones_open_ret d
  rw [enter_eq]; unfold pc_zones_Skews
  unfold GDisk.check at c1
  unfold GDisk.skR
  cases h : d.ok with
  | false =>
    rw [h] at c1
    (try (simp -implicitDefEqProofs only [go_sem, diskD_eq, diskC_eq])); repeat' first | with_reducible exact True.intro | with_reducible refine And.intro ?_ ?_ | with_reducible intro _ | (((with_reducible refine isCall ?_); first | refine call_b (c1) rfl ?_ ?_ | refine call_d (c1) rfl ?_ | refine call_sb (c1) rfl ?_ ?_ | refine call_s (c1) rfl rfl ?_) <;> try (simp -implicitDefEqProofs only [go_sem, diskD_eq, diskC_eq])) | (((with_reducible refine vc_b ?_ ?_) <;> intro _) <;> try (simp -implicitDefEqProofs only [go_sem, diskD_eq, diskC_eq])) | simp (disch := omega) only [wrapI, wrapU, shl1, shl1', shl1'', shrN, shrN', and_one] | ((with_reducible refine isEx4 ?_); refine ⟨(_, _, _, _), rfl, ?_, ?_⟩) | ((with_reducible refine isEx3 ?_); refine ⟨(_, _, _), rfl, ?_, ?_⟩)
    all_goals first | omega | (simp; done) | (simp; omega) | skip
  | true =>
  rw [h] at c1
  have c2 := zones_in_ret step 1 d.turn
  cases hb : inZ step 1 d.turn with
  | false =>
    rw [hb] at c2
    (try (simp -implicitDefEqProofs only [go_sem, diskD_eq, diskC_eq])); repeat' first | with_reducible exact True.intro | with_reducible refine And.intro ?_ ?_ | with_reducible intro _ | (((with_reducible refine isCall ?_); first | refine call_b (c1) rfl ?_ ?_ | refine call_d (c1) rfl ?_ | refine call_sb (c1) rfl ?_ ?_ | refine call_s (c1) rfl rfl ?_ | refine call_b (c2) rfl ?_ ?_ | refine call_d (c2) rfl ?_ | refine call_sb (c2) rfl ?_ ?_ | refine call_s (c2) rfl rfl ?_) <;> try (simp -implicitDefEqProofs only [go_sem, diskD_eq, diskC_eq])) | (((with_reducible refine vc_b ?_ ?_) <;> intro _) <;> try (simp -implicitDefEqProofs only [go_sem, diskD_eq, diskC_eq])) | simp (disch := omega) only [wrapI, wrapU, shl1, shl1', shl1'', shrN, shrN', and_one] | ((with_reducible refine isEx4 ?_); refine ⟨(_, _, _, _), rfl, ?_, ?_⟩) | ((with_reducible refine isEx3 ?_); refine ⟨(_, _, _), rfl, ?_, ?_⟩)
    all_goals first | omega | (simp; done) | (simp; omega) | skip
  | true =>
  rw [hb] at c2
  have hst := inZ_iff.1 hb
  have g := good_of h
  have hsz := size_bound g
  have t1 := g.t1; have t2 := g.t2
  have s1 := g.s1; have s2 := g.s2; have s3 := g.s3; have s4 := g.s4; have s5 := g.s5; have s6 := g.s6
  have c3 := zones_disk_size_ret d h
  have c4 := zones_run_ret d h 0 d.size (by omega) (by omega) (by omega)
  have c5 := zones_changes_ret d
  have b0 := ticksR_bound g 0 d.size.toNat
  have b1 := swR_bound (d := d) 1 0 d.size.toNat
  have b2 := swR_bound (d := d) 2 0 d.size.toNat
  have hM := stepsN_iff (t := d.turn) (s := step) hst.1 t1
  have hMp := stepsN_pos (t := d.turn) (s := step) hst.1 t1
  have e1 : ∀ j : Nat, j < stepsN d.turn step → Ret E0 F_zones_disk_gap [diskD d, .int .i64 (j * step), .int .i64 d.hhi] (.tup [.int .i64 (gapV d.turn (j * step) d.hhi), .int .i64 (gapT d.turn (j * step) d.hhi)]) := fun j hj =>
    zones_gap_ret d g _ _ (skF_bound g (hi := d.hhi) (sw := 0) (by omega) (by omega) hst.1 hj).1 (by omega)
  have e2 : ∀ j : Nat, j < stepsN d.turn step → Ret E0 F_zones_disk_gap [diskD d, .int .i64 (j * step), .int .i64 d.chi] (.tup [.int .i64 (gapV d.turn (j * step) d.chi), .int .i64 (gapT d.turn (j * step) d.chi)]) := fun j hj =>
    zones_gap_ret d g _ _ (skF_bound g (hi := d.chi) (sw := 0) (by omega) (by omega) hst.1 hj).1 (by omega)
  have f1b : ∀ j, j < stepsN d.turn step → 0 ≤ d.F1 step j ∧ d.F1 step j ≤ 2001000 * 5120 := fun j hj => (skF_bound g (hi := d.hhi) (sw := d.sw1) (by omega) (by unfold GDisk.sw1; omega) hst.1 hj).2.2
  have f2b : ∀ j, j < stepsN d.turn step → 0 ≤ d.F2 step j ∧ d.F2 step j ≤ 2001000 * 5120 := fun j hj => (skF_bound g (hi := d.chi) (sw := d.sw2) (by omega) (by unfold GDisk.sw2; omega) hst.1 hj).2.2
  have f1e : ∀ j : Nat, gapV d.turn (j * step) d.hhi * d.sw1 = d.F1 step j := fun j => rfl
  have f2e : ∀ j : Nat, gapV d.turn (j * step) d.chi * d.sw2 = d.F2 step j := fun j => rfl
  have l1 : leastF (d.F1 step) (stepsN d.turn step) = d.F1 step (d.A1 step) := by unfold leastF; rw [if_neg (by omega)]; rfl
  have l2 : leastF (d.F2 step) (stepsN d.turn step) = d.F2 step (d.A2 step) := by unfold leastF; rw [if_neg (by omega)]; rfl
  have a1 : argF (d.F1 step) (stepsN d.turn step) = d.A1 step := rfl
  have a2 : argF (d.F2 step) (stepsN d.turn step) = d.A2 step := rfl
  have hA1 := f1b (d.A1 step) (argF_spec _ _ hMp).1
  have hA2 := f2b (d.A2 step) (argF_spec _ _ hMp).1
  change Ret _ _ _ (.tup [_, .agg [.int .i64 d.sw1, .int .i64 d.sw2]]) at c4
  generalize d.ticksR 0 d.size.toNat = t0 at *
  generalize d.F1 step = F at *
  generalize d.F2 step = H at *
  generalize d.A1 step = A at *
  generalize d.A2 step = B at *
  generalize d.sw1 = u1 at *
  generalize d.sw2 = u2 at *
  generalize stepsN d.turn step = M at *
  have x1 : IntKind.i64.wrap (t0 + F A) = t0 + F A := wrapI _ (by omega)
  have x2 : IntKind.i64.wrap (t0 + F A + H B) = t0 + F A + H B := wrapI _ (by omega)
  (try (simp -implicitDefEqProofs only [go_sem, diskD_eq, diskC_eq])); repeat' first | with_reducible exact True.intro | with_reducible refine And.intro ?_ ?_ | with_reducible intro _ | (((with_reducible refine isCall ?_); first | refine call_b (c1) rfl ?_ ?_ | refine call_d (c1) rfl ?_ | refine call_sb (c1) rfl ?_ ?_ | refine call_s (c1) rfl rfl ?_ | refine call_b (c2) rfl ?_ ?_ | refine call_d (c2) rfl ?_ | refine call_sb (c2) rfl ?_ ?_ | refine call_s (c2) rfl rfl ?_ | refine call_b (c3) rfl ?_ ?_ | refine call_d (c3) rfl ?_ | refine call_sb (c3) rfl ?_ ?_ | refine call_s (c3) rfl rfl ?_ | refine call_b (c4) rfl ?_ ?_ | refine call_d (c4) rfl ?_ | refine call_sb (c4) rfl ?_ ?_ | refine call_s (c4) rfl rfl ?_ | refine call_b (c5) rfl ?_ ?_ | refine call_d (c5) rfl ?_ | refine call_sb (c5) rfl ?_ ?_ | refine call_s (c5) rfl rfl ?_) <;> try (simp -implicitDefEqProofs only [go_sem, diskD_eq, diskC_eq])) | (((with_reducible refine vc_b ?_ ?_) <;> intro _) <;> try (simp -implicitDefEqProofs only [go_sem, diskD_eq, diskC_eq])) | simp (disch := omega) only [wrapI, wrapU, shl1, shl1', shl1'', shrN, shrN', and_one] | ((with_reducible refine isEx4 ?_); refine ⟨(_, _, _, _), rfl, ?_, ?_⟩) | ((with_reducible refine isEx3 ?_); refine ⟨(_, _, _), rfl, ?_, ?_⟩)
  all_goals first | omega | (simp; done) | (simp; omega) | skip
  refine pw_loopS (α := Int × Int × Int × Int) (l0 := ?l1) (m0 := ?m1) (fun x => [(41, .d (.int .i64 x.1)), (6, .d (.int .i64 x.2.1))]) (fun x => [(10, .cells [.d (.int .i64 x.2.2.1), .d (.int .i64 x.2.2.2)])]) (fun x => (x.1 = 0 ∧ x.2.1 = t0 ∧ x.2.2.1 = 0 ∧ x.2.2.2 = 0) ∨ (x.1 = 1 ∧ x.2.1 = t0 + F A ∧ x.2.2.1 = A * step ∧ x.2.2.2 = 0) ∨ (x.1 = 2 ∧ x.2.1 = t0 + F A + H B ∧ x.2.2.1 = A * step ∧ x.2.2.2 = B * step)) (fun x => (2 - x.1).toNat) (?a1_0, ?a1_1, ?a1_2, ?a1_3) ?h01 ?he1 ?he21 ?hI1 ?step1
  case h01 => (simp -implicitDefEqProofs only [go_sem, diskC_eq]; rfl)
  case he1 => rfl
  case he21 => rfl
  case' step1 => (rintro ⟨i, t, p, q⟩ hI; try dsimp only at hI)
  case' hI1 => try dsimp only
  · exact .inl ⟨rfl, rfl, rfl, rfl⟩
  · rcases hI with ⟨rfl, rfl, rfl, rfl⟩ | ⟨rfl, rfl, rfl, rfl⟩ | ⟨rfl, rfl, rfl, rfl⟩
    · (try (simp -implicitDefEqProofs only [go_sem, diskC_eq, diskD_eq])); repeat' first | with_reducible exact True.intro | with_reducible refine And.intro ?_ ?_ | with_reducible intro _ | (((with_reducible refine vc_b ?_ ?_) <;> intro _) <;> try (simp -implicitDefEqProofs only [go_sem, diskC_eq, diskD_eq])) | simp (disch := omega) only [wrapI, wrapU, shl1, shl1', shl1'', shrN, shrN', and_one] | ((with_reducible refine isEx4 ?_); refine ⟨(_, _, _, _), rfl, ?_, ?_⟩) | ((with_reducible refine isEx3 ?_); refine ⟨(_, _, _), rfl, ?_, ?_⟩)
      all_goals first | omega | (simp; done) | (simp; omega) | skip
      refine pw_loopS (α := Int × Int × Int) (l0 := ?l2) (m0 := ?m2) (fun x => [(13, .d (.int .i64 x.1)), (14, .d (.int .i64 x.2.1))]) (fun x => [(10, .cells [.d (.int .i64 x.2.2), .d (.int .i64 0)])]) (fun x => ∃ j : Nat, j ≤ M ∧ x.2.1 = j * step ∧ x.1 = leastF F j ∧ x.2.2 = argF F j * step) (fun x => (d.turn + step - x.2.1).toNat) (-1, 0, ?a2_2) ?h02 ?he2 ?he22 ?hI2 ?step2
      case h02 => (simp -implicitDefEqProofs only [go_sem, diskC_eq]; rfl)
      case he2 => rfl
      case he22 => rfl
      case' step2 => (rintro ⟨l, s, z⟩ hI2; try dsimp only at hI2)
      case' hI2 => try dsimp only
      · exact ⟨0, by omega, by simp, rfl, by simp [argF]⟩
      · obtain ⟨j, q1, q2, q3, q4⟩ := hI2
        by_cases hj : j < M
        · have hlt := (hM j).1 hj
          have hs0 : 0 ≤ (j : Int) * step := Int.mul_nonneg (by omega) (by omega)
          have c6 := e1 j hj
          rw [← q2] at c6 hlt hs0
          have hF := f1b j hj
          have w1 : IntKind.i64.wrap (gapV d.turn s d.hhi * u1) = F j := by rw [q2, f1e]; exact wrapI _ (by omega)
          have w2 : IntKind.i64.wrap (s + step) = s + step := wrapI _ (by omega)
          have hn : s + step = ((j + 1 : Nat) : Int) * step := by rw [show ((j + 1 : Nat) : Int) = (j : Int) + 1 by omega, Int.add_mul, ← q2]; omega
          obtain ⟨n1, n2⟩ := leastF_next (f := F) (j := j) fun i hi => (f1b i (by omega)).1
          rw [← q3] at n1 n2
          have fin1 : (F j < l ∨ l < 0) → ∃ k : Nat, k ≤ M ∧ s + step = k * step ∧ F j = leastF F k ∧ s = argF F k * step := fun hh => ⟨j + 1, hj, hn, (n1 hh).1.symm, by rw [(n1 hh).2]; exact q2⟩
          have fin2 : ¬ F j < l → ¬ l < 0 → ∃ k : Nat, k ≤ M ∧ s + step = k * step ∧ l = leastF F k ∧ z = argF F k * step := fun h1 h2 => ⟨j + 1, hj, hn, (n2 h1 h2).1.symm, by rw [(n2 h1 h2).2]; exact q4⟩
          generalize F j = v at *
          by_cases h1 : l < 0
          · have fin := fin1 (.inr h1)
            (try (simp -implicitDefEqProofs only [go_sem, diskC_eq, diskD_eq, hlt, w1, w2, h1])); repeat' first | with_reducible exact True.intro | with_reducible refine And.intro ?_ ?_ | with_reducible intro _ | (((with_reducible refine isCall ?_); first | refine call_b (c6) rfl ?_ ?_ | refine call_d (c6) rfl ?_ | refine call_sb (c6) rfl ?_ ?_ | refine call_s (c6) rfl rfl ?_) <;> try (simp -implicitDefEqProofs only [go_sem, diskC_eq, diskD_eq, hlt, w1, w2, h1])) | (((with_reducible refine vc_b ?_ ?_) <;> intro _) <;> try (simp -implicitDefEqProofs only [go_sem, diskC_eq, diskD_eq, hlt, w1, w2, h1])) | simp (disch := omega) only [wrapI, wrapU, shl1, shl1', shl1'', shrN, shrN', and_one] | ((with_reducible refine isEx4 ?_); refine ⟨(_, _, _, _), rfl, ?_, ?_⟩) | ((with_reducible refine isEx3 ?_); refine ⟨(_, _, _), rfl, ?_, ?_⟩)
            all_goals first | exact fin | omega | skip
          · by_cases h2 : v < l
            · have fin := fin1 (.inl h2)
              (try (simp -implicitDefEqProofs only [go_sem, diskC_eq, diskD_eq, hlt, w1, w2, h1, h2])); repeat' first | with_reducible exact True.intro | with_reducible refine And.intro ?_ ?_ | with_reducible intro _ | (((with_reducible refine isCall ?_); first | refine call_b (c6) rfl ?_ ?_ | refine call_d (c6) rfl ?_ | refine call_sb (c6) rfl ?_ ?_ | refine call_s (c6) rfl rfl ?_) <;> try (simp -implicitDefEqProofs only [go_sem, diskC_eq, diskD_eq, hlt, w1, w2, h1, h2])) | (((with_reducible refine vc_b ?_ ?_) <;> intro _) <;> try (simp -implicitDefEqProofs only [go_sem, diskC_eq, diskD_eq, hlt, w1, w2, h1, h2])) | simp (disch := omega) only [wrapI, wrapU, shl1, shl1', shl1'', shrN, shrN', and_one] | ((with_reducible refine isEx4 ?_); refine ⟨(_, _, _, _), rfl, ?_, ?_⟩) | ((with_reducible refine isEx3 ?_); refine ⟨(_, _, _), rfl, ?_, ?_⟩)
              all_goals first | exact fin | omega | skip
            · have fin := fin2 h2 h1
              (try (simp -implicitDefEqProofs only [go_sem, diskC_eq, diskD_eq, hlt, w1, w2, h1, h2])); repeat' first | with_reducible exact True.intro | with_reducible refine And.intro ?_ ?_ | with_reducible intro _ | (((with_reducible refine isCall ?_); first | refine call_b (c6) rfl ?_ ?_ | refine call_d (c6) rfl ?_ | refine call_sb (c6) rfl ?_ ?_ | refine call_s (c6) rfl rfl ?_) <;> try (simp -implicitDefEqProofs only [go_sem, diskC_eq, diskD_eq, hlt, w1, w2, h1, h2])) | (((with_reducible refine vc_b ?_ ?_) <;> intro _) <;> try (simp -implicitDefEqProofs only [go_sem, diskC_eq, diskD_eq, hlt, w1, w2, h1, h2])) | simp (disch := omega) only [wrapI, wrapU, shl1, shl1', shl1'', shrN, shrN', and_one] | ((with_reducible refine isEx4 ?_); refine ⟨(_, _, _, _), rfl, ?_, ?_⟩) | ((with_reducible refine isEx3 ?_); refine ⟨(_, _, _), rfl, ?_, ?_⟩)
              all_goals first | exact fin | omega | skip
        · have hje : j = M := by omega
          have hge : ¬ s < d.turn := fun hh => hj ((hM j).2 (by rw [← q2]; exact hh))
          rw [hje, l1] at q3
          rw [hje, a1] at q4
          (try (simp -implicitDefEqProofs only [go_sem, diskC_eq, diskD_eq, hge, q3, q4, x1])); repeat' first | with_reducible exact True.intro | with_reducible refine And.intro ?_ ?_ | with_reducible intro _ | (((with_reducible refine vc_b ?_ ?_) <;> intro _) <;> try (simp -implicitDefEqProofs only [go_sem, diskC_eq, diskD_eq, hge, q3, q4, x1])) | simp (disch := omega) only [wrapI, wrapU, shl1, shl1', shl1'', shrN, shrN', and_one] | ((with_reducible refine isEx4 ?_); refine ⟨(_, _, _, _), rfl, ?_, ?_⟩) | ((with_reducible refine isEx3 ?_); refine ⟨(_, _, _), rfl, ?_, ?_⟩)
          all_goals first | omega | (simp; done) | exact .inr (.inl ⟨rfl, rfl, rfl, rfl⟩) | exact .inr (.inr ⟨rfl, rfl, rfl, rfl⟩) | skip
    · (try (simp -implicitDefEqProofs only [go_sem, diskC_eq, diskD_eq])); repeat' first | with_reducible exact True.intro | with_reducible refine And.intro ?_ ?_ | with_reducible intro _ | (((with_reducible refine vc_b ?_ ?_) <;> intro _) <;> try (simp -implicitDefEqProofs only [go_sem, diskC_eq, diskD_eq])) | simp (disch := omega) only [wrapI, wrapU, shl1, shl1', shl1'', shrN, shrN', and_one] | ((with_reducible refine isEx4 ?_); refine ⟨(_, _, _, _), rfl, ?_, ?_⟩) | ((with_reducible refine isEx3 ?_); refine ⟨(_, _, _), rfl, ?_, ?_⟩)
      all_goals first | omega | (simp; done) | (simp; omega) | skip
      refine pw_loopS (α := Int × Int × Int) (l0 := ?l3) (m0 := ?m3) (fun x => [(13, .d (.int .i64 x.1)), (14, .d (.int .i64 x.2.1))]) (fun x => [(10, .cells [.d (.int .i64 (A * step)), .d (.int .i64 x.2.2)])]) (fun x => ∃ j : Nat, j ≤ M ∧ x.2.1 = j * step ∧ x.1 = leastF H j ∧ x.2.2 = argF H j * step) (fun x => (d.turn + step - x.2.1).toNat) (-1, 0, ?a3_2) ?h03 ?he3 ?he23 ?hI3 ?step3
      case h03 => (simp -implicitDefEqProofs only [go_sem, diskC_eq]; rfl)
      case he3 => rfl
      case he23 => rfl
      case' step3 => (rintro ⟨l, s, z⟩ hI3; try dsimp only at hI3)
      case' hI3 => try dsimp only
      · exact ⟨0, by omega, by simp, rfl, by simp [argF]⟩
      · obtain ⟨j, q1, q2, q3, q4⟩ := hI3
        by_cases hj : j < M
        · have hlt := (hM j).1 hj
          have hs0 : 0 ≤ (j : Int) * step := Int.mul_nonneg (by omega) (by omega)
          have c6 := e2 j hj
          rw [← q2] at c6 hlt hs0
          have hF := f2b j hj
          have w1 : IntKind.i64.wrap (gapV d.turn s d.chi * u2) = H j := by rw [q2, f2e]; exact wrapI _ (by omega)
          have w2 : IntKind.i64.wrap (s + step) = s + step := wrapI _ (by omega)
          have hn : s + step = ((j + 1 : Nat) : Int) * step := by rw [show ((j + 1 : Nat) : Int) = (j : Int) + 1 by omega, Int.add_mul, ← q2]; omega
          obtain ⟨n1, n2⟩ := leastF_next (f := H) (j := j) fun i hi => (f2b i (by omega)).1
          rw [← q3] at n1 n2
          have fin1 : (H j < l ∨ l < 0) → ∃ k : Nat, k ≤ M ∧ s + step = k * step ∧ H j = leastF H k ∧ s = argF H k * step := fun hh => ⟨j + 1, hj, hn, (n1 hh).1.symm, by rw [(n1 hh).2]; exact q2⟩
          have fin2 : ¬ H j < l → ¬ l < 0 → ∃ k : Nat, k ≤ M ∧ s + step = k * step ∧ l = leastF H k ∧ z = argF H k * step := fun h1 h2 => ⟨j + 1, hj, hn, (n2 h1 h2).1.symm, by rw [(n2 h1 h2).2]; exact q4⟩
          generalize H j = v at *
          by_cases h1 : l < 0
          · have fin := fin1 (.inr h1)
            (try (simp -implicitDefEqProofs only [go_sem, diskC_eq, diskD_eq, hlt, w1, w2, h1])); repeat' first | with_reducible exact True.intro | with_reducible refine And.intro ?_ ?_ | with_reducible intro _ | (((with_reducible refine isCall ?_); first | refine call_b (c6) rfl ?_ ?_ | refine call_d (c6) rfl ?_ | refine call_sb (c6) rfl ?_ ?_ | refine call_s (c6) rfl rfl ?_) <;> try (simp -implicitDefEqProofs only [go_sem, diskC_eq, diskD_eq, hlt, w1, w2, h1])) | (((with_reducible refine vc_b ?_ ?_) <;> intro _) <;> try (simp -implicitDefEqProofs only [go_sem, diskC_eq, diskD_eq, hlt, w1, w2, h1])) | simp (disch := omega) only [wrapI, wrapU, shl1, shl1', shl1'', shrN, shrN', and_one] | ((with_reducible refine isEx4 ?_); refine ⟨(_, _, _, _), rfl, ?_, ?_⟩) | ((with_reducible refine isEx3 ?_); refine ⟨(_, _, _), rfl, ?_, ?_⟩)
            all_goals first | exact fin | omega | skip
          · by_cases h2 : v < l
            · have fin := fin1 (.inl h2)
              (try (simp -implicitDefEqProofs only [go_sem, diskC_eq, diskD_eq, hlt, w1, w2, h1, h2])); repeat' first | with_reducible exact True.intro | with_reducible refine And.intro ?_ ?_ | with_reducible intro _ | (((with_reducible refine isCall ?_); first | refine call_b (c6) rfl ?_ ?_ | refine call_d (c6) rfl ?_ | refine call_sb (c6) rfl ?_ ?_ | refine call_s (c6) rfl rfl ?_) <;> try (simp -implicitDefEqProofs only [go_sem, diskC_eq, diskD_eq, hlt, w1, w2, h1, h2])) | (((with_reducible refine vc_b ?_ ?_) <;> intro _) <;> try (simp -implicitDefEqProofs only [go_sem, diskC_eq, diskD_eq, hlt, w1, w2, h1, h2])) | simp (disch := omega) only [wrapI, wrapU, shl1, shl1', shl1'', shrN, shrN', and_one] | ((with_reducible refine isEx4 ?_); refine ⟨(_, _, _, _), rfl, ?_, ?_⟩) | ((with_reducible refine isEx3 ?_); refine ⟨(_, _, _), rfl, ?_, ?_⟩)
              all_goals first | exact fin | omega | skip
            · have fin := fin2 h2 h1
              (try (simp -implicitDefEqProofs only [go_sem, diskC_eq, diskD_eq, hlt, w1, w2, h1, h2])); repeat' first | with_reducible exact True.intro | with_reducible refine And.intro ?_ ?_ | with_reducible intro _ | (((with_reducible refine isCall ?_); first | refine call_b (c6) rfl ?_ ?_ | refine call_d (c6) rfl ?_ | refine call_sb (c6) rfl ?_ ?_ | refine call_s (c6) rfl rfl ?_) <;> try (simp -implicitDefEqProofs only [go_sem, diskC_eq, diskD_eq, hlt, w1, w2, h1, h2])) | (((with_reducible refine vc_b ?_ ?_) <;> intro _) <;> try (simp -implicitDefEqProofs only [go_sem, diskC_eq, diskD_eq, hlt, w1, w2, h1, h2])) | simp (disch := omega) only [wrapI, wrapU, shl1, shl1', shl1'', shrN, shrN', and_one] | ((with_reducible refine isEx4 ?_); refine ⟨(_, _, _, _), rfl, ?_, ?_⟩) | ((with_reducible refine isEx3 ?_); refine ⟨(_, _, _), rfl, ?_, ?_⟩)
              all_goals first | exact fin | omega | skip
        · have hje : j = M := by omega
          have hge : ¬ s < d.turn := fun hh => hj ((hM j).2 (by rw [← q2]; exact hh))
          rw [hje, l2] at q3
          rw [hje, a2] at q4
          (try (simp -implicitDefEqProofs only [go_sem, diskC_eq, diskD_eq, hge, q3, q4, x2])); repeat' first | with_reducible exact True.intro | with_reducible refine And.intro ?_ ?_ | with_reducible intro _ | (((with_reducible refine vc_b ?_ ?_) <;> intro _) <;> try (simp -implicitDefEqProofs only [go_sem, diskC_eq, diskD_eq, hge, q3, q4, x2])) | simp (disch := omega) only [wrapI, wrapU, shl1, shl1', shl1'', shrN, shrN', and_one] | ((with_reducible refine isEx4 ?_); refine ⟨(_, _, _, _), rfl, ?_, ?_⟩) | ((with_reducible refine isEx3 ?_); refine ⟨(_, _, _), rfl, ?_, ?_⟩)
          all_goals first | omega | (simp; done) | exact .inr (.inl ⟨rfl, rfl, rfl, rfl⟩) | exact .inr (.inr ⟨rfl, rfl, rfl, rfl⟩) | skip
    · (try (simp -implicitDefEqProofs only [go_sem, diskC_eq, diskD_eq])); repeat' first | with_reducible exact True.intro | with_reducible refine And.intro ?_ ?_ | with_reducible intro _ | (((with_reducible refine vc_b ?_ ?_) <;> intro _) <;> try (simp -implicitDefEqProofs only [go_sem, diskC_eq, diskD_eq])) | simp (disch := omega) only [wrapI, wrapU, shl1, shl1', shl1'', shrN, shrN', and_one] | ((with_reducible refine isEx4 ?_); refine ⟨(_, _, _, _), rfl, ?_, ?_⟩) | ((with_reducible refine isEx3 ?_); refine ⟨(_, _, _), rfl, ?_, ?_⟩)
      all_goals first | omega | (simp; done) | (simp; omega) | skip
end Go.Pw
