/- A part of the proof. -/
import Derived.Test.YtiphmemigdplgaaDoorPgJzC
import Derived.Test.YtiphmemigdplgaaDoorPgZonesSpec
set_option linter.all false
section
open Go Go.Pw Go.Proofs
namespace Go.Pw
set_option linter.unusedSimpArgs false
set_option linter.unusedVariables false
set_option maxRecDepth 100000
set_option maxHeartbeats 1600000
attribute [local congr] cg_pw cg_seqI cg_seqE cg_stepI cg_ev cg_evBin cg_condB cg_condV cg_thenQ cg_blockQ cg_onSome cg_onCells cg_onRow cg_onMap cg_onOpt cg_ghosts cg_ghost cg_evCall cg_part cg_rng cg_guardV cg_frzV cg_frpV cg_ownV cg_owcV cg_occV cg_occX cg_resK cg_res1 cg_yldP cg_rndE cg_onlyN cg_onHist
attribute [local irreducible] IntKind.wrap bitsOp Option.getD and or
-- %RNGV

theorem zones_run_ret (d : GDisk) (h : d.ok = true) (a c : Int) (ha : 0 ≤ a) (hc : 1 ≤ c) (hs : a + c ≤ d.size) :
    Ret E0 F_zones_disk_run [diskD d, .int .i64 a, .int .i64 c] (.tup [.int .i64 (d.ticksR a c.toNat), .agg [.int .i64 (d.swR 1 a c.toNat), .int .i64 (d.swR 2 a c.toNat)]]) := by
  refine ret_of_pw dec_zones_disk_run mixed (by simp) fun hwf => ?_
  have g := good_of h
  have hz := size_bound g
  have t1 := g.t1; have t2 := g.t2; have g1 := g.h1; have g2 := g.h2
  rw [enter_eq]; unfold pc_zones_disk_run
  (try (simp -implicitDefEqProofs only [go_sem, diskD_eq, diskC_eq])); repeat' first | with_reducible exact True.intro | with_reducible refine And.intro ?_ ?_ | with_reducible intro _ | (((with_reducible refine vc_b ?_ ?_) <;> intro _) <;> try (simp -implicitDefEqProofs only [go_sem, diskD_eq, diskC_eq])) | simp (disch := omega) only [wrapI, wrapU, shl1, shl1', shl1'', shrN, shrN', and_one] | ((with_reducible refine isVx3 ?_); refine ⟨(_, _, _), rfl, ?_⟩)
  all_goals first | omega | (simp; done) | (simp; omega) | skip
  refine pw_rngS (α := Int × Int × Int) (so := setOs) (l0 := ?l1) (m0 := ?m1) (fun x => [(5000006, .cells [.d (.int .i64 x.1)]), (5000007, .cells [.d (.int .i64 x.2.1), .d (.int .i64 x.2.2)])]) (fun n x => x.1 = d.tks a c n ∧ x.2.1 = d.sws 1 a c n ∧ x.2.2 = d.sws 2 a c n) (fun e x => False) (?a1_0, ?a1_1, ?a1_2) (zones_tracks_seq d h) body_zones_disk_tracks ?h01 ?he1 (by simp [PC.noR]) ?hw1 ?hI1 ?step1 ?hend1 ?hjump1
  case h01 => (simp -implicitDefEqProofs only [go_sem, diskD_eq, diskC_eq]; first | exact ⟨rfl, rfl⟩ | exact rfl)
  case he1 => rfl
  case hw1 => simp -implicitDefEqProofs only [go_sem]
  case' hjump1 => (rintro e ⟨t, p, q⟩ hI; try dsimp only at hI)
  case' hend1 => (rintro ⟨t, p, q⟩ hI; try dsimp only at hI)
  case' step1 => (rintro n ⟨t, p, q⟩ ds hds hI; try dsimp only at hI)
  case' hI1 => try dsimp only
  · exact ⟨(run_0 ha 1).1.symm, (run_0 ha 1).2.symm, (run_0 ha 2).2.symm⟩
  · obtain ⟨i1, i2, i3⟩ := hI
    obtain ⟨hn, rfl⟩ := tracks_get hds
    refine ⟨rfl, ?_⟩
    have h2 := g.tf n (by omega)
    have h3 := g.ts hn
    have h4 := g.nt
    have h5 := g.own hn
    have b1 : 0 ≤ t ∧ t ≤ 5120 * 1000 := by
      have := sumF_bound (f := d.ownN) (a := a) (M := 1000) (d.cov a c n) fun i _ => ownN_bound g _
      have hcv : d.cov a c n ≤ 5120 := by unfold GDisk.cov; omega
      unfold GDisk.tks at i1; omega
    have b2 : 0 ≤ p ∧ p ≤ 5120 := by
      have := sumF_bound (f := d.isK 1) (a := a + 1) (M := 1) (max 0 (min (d.tf n - a) (c - 1))).toNat fun i _ => isK_bound 1 _
      unfold GDisk.sws at i2; omega
    have b3 : 0 ≤ q ∧ q ≤ 5120 := by
      have := sumF_bound (f := d.isK 2) (a := a + 1) (M := 1) (max 0 (min (d.tf n - a) (c - 1))).toNat fun i _ => isK_bound 2 _
      unfold GDisk.sws at i3; omega
    have w1 : IntKind.i64.wrap (a + c) = a + c := wrapI _ (by omega)
    have w2 : IntKind.i64.wrap (d.tf n + d.ts n) = d.tf n + d.ts n := wrapI _ (by omega)
    have w3 : IntKind.i64.wrap (min (a + c) (d.tf n + d.ts n) - 1) = min (a + c) (d.tf n + d.ts n) - 1 := wrapI _ (by omega)
    have w8 : IntKind.i64.wrap (d.heads - 1) = d.heads - 1 := wrapI _ (by omega)
    have w9 : IntKind.i64.wrap (a + c - 1) = a + c - 1 := wrapI _ (by omega)
    have hq := h5.2.2.2
    have hne : ¬ d.ts n = 0 := by omega
    obtain ⟨f, hf⟩ : ∃ f, max a (d.tf n) = f := ⟨_, rfl⟩
    obtain ⟨l, hl⟩ : ∃ l, min (a + c) (d.tf n + d.ts n) - 1 = l := ⟨_, rfl⟩
    rw [hl] at w3
    by_cases hfl : l < f
    · have k1 := run_skip (d := d) (a := a) (c := c) (k := n) hc (by omega) (by omega) 1
      have k2 := run_skip (d := d) (a := a) (c := c) (k := n) hc (by omega) (by omega) 2
      (try (simp -implicitDefEqProofs only [go_sem, trackD_eq, trackC_eq, GDisk.track, w1, w2, w3, hf, hl, hfl])); repeat' first | with_reducible exact True.intro | with_reducible refine And.intro ?_ ?_ | with_reducible intro _ | (((with_reducible refine vc_b ?_ ?_) <;> intro _) <;> try (simp -implicitDefEqProofs only [go_sem, trackD_eq, trackC_eq, GDisk.track, w1, w2, w3, hf, hl, hfl])) | simp (disch := omega) only [wrapI, wrapU, shl1, shl1', shl1'', shrN, shrN', and_one] | ((with_reducible refine isVx3 ?_); refine ⟨(_, _, _), rfl, ?_⟩)
      all_goals first | omega | (simp; done) | (simp; omega) | skip
    · have hm : 0 ≤ (l - f + 1) * d.own n ∧ (l - f + 1) * d.own n ≤ 16 * 1000 := ⟨Int.mul_nonneg (by omega) (by omega), Int.mul_le_mul (by omega) (by omega) (by omega) (by omega)⟩
      have w4 : IntKind.i64.wrap (l - f) = l - f := wrapI _ (by omega)
      have w5 : IntKind.i64.wrap (l - f + 1) = l - f + 1 := wrapI _ (by omega)
      have w6 : IntKind.i64.wrap ((l - f + 1) * d.own n) = (l - f + 1) * d.own n := wrapI _ (by omega)
      have w7 : IntKind.i64.wrap (t + (l - f + 1) * d.own n) = t + (l - f + 1) * d.own n := wrapI _ (by omega)
      have w10 : IntKind.i64.wrap (d.own n) = d.own n := wrapI _ (by omega)
      have k1 := run_ticks g (a := a) (c := c) hn (by omega)
      rw [hl, hf] at k1
      have wp : IntKind.i64.wrap (p + 1) = p + 1 := wrapI _ (by omega)
      have wq : IntKind.i64.wrap (q + 1) = q + 1 := wrapI _ (by omega)
      by_cases hlast : l = a + c - 1
      · have k2 := run_last g (a := a) (c := c) hn hc (by omega) (by omega) 1 (by omega)
        have k3 := run_last g (a := a) (c := c) hn hc (by omega) (by omega) 2 (by omega)
        (try (simp -implicitDefEqProofs only [go_sem, trackD_eq, trackC_eq, GDisk.track, w1, w2, w3, hf, hl, hfl, w4, w5, w6, w7, w10, hq, hne, w9, eq_true hlast])); repeat' first | with_reducible exact True.intro | with_reducible refine And.intro ?_ ?_ | with_reducible intro _ | (((with_reducible refine vc_b ?_ ?_) <;> intro _) <;> try (simp -implicitDefEqProofs only [go_sem, trackD_eq, trackC_eq, GDisk.track, w1, w2, w3, hf, hl, hfl, w4, w5, w6, w7, w10, hq, hne, w9, eq_true hlast])) | simp (disch := omega) only [wrapI, wrapU, shl1, shl1', shl1'', shrN, shrN', and_one] | ((with_reducible refine isVx3 ?_); refine ⟨(_, _, _), rfl, ?_⟩)
        all_goals first | omega | (simp; done) | (simp; omega) | skip
      · have k2 := run_more g (a := a) (c := c) hn hc (by omega) (by omega) hs 1 (by omega)
        have k3 := run_more g (a := a) (c := c) hn hc (by omega) (by omega) hs 2 (by omega)
        by_cases hth : d.th n = d.heads - 1
        · rw [if_pos hth] at k2 k3
          (try (simp -implicitDefEqProofs only [go_sem, trackD_eq, trackC_eq, GDisk.track, w1, w2, w3, hf, hl, hfl, w4, w5, w6, w7, w10, hq, hne, w9, hlast, w8, hth, wp, wq])); repeat' first | with_reducible exact True.intro | with_reducible refine And.intro ?_ ?_ | with_reducible intro _ | (((with_reducible refine vc_b ?_ ?_) <;> intro _) <;> try (simp -implicitDefEqProofs only [go_sem, trackD_eq, trackC_eq, GDisk.track, w1, w2, w3, hf, hl, hfl, w4, w5, w6, w7, w10, hq, hne, w9, hlast, w8, hth, wp, wq])) | simp (disch := omega) only [wrapI, wrapU, shl1, shl1', shl1'', shrN, shrN', and_one] | ((with_reducible refine isVx3 ?_); refine ⟨(_, _, _), rfl, ?_⟩)
          all_goals first | omega | (simp; done) | (simp; omega) | skip
        · rw [if_neg hth] at k2 k3
          (try (simp -implicitDefEqProofs only [go_sem, trackD_eq, trackC_eq, GDisk.track, w1, w2, w3, hf, hl, hfl, w4, w5, w6, w7, w10, hq, hne, w9, hlast, w8, hth, wp, wq])); repeat' first | with_reducible exact True.intro | with_reducible refine And.intro ?_ ?_ | with_reducible intro _ | (((with_reducible refine vc_b ?_ ?_) <;> intro _) <;> try (simp -implicitDefEqProofs only [go_sem, trackD_eq, trackC_eq, GDisk.track, w1, w2, w3, hf, hl, hfl, w4, w5, w6, w7, w10, hq, hne, w9, hlast, w8, hth, wp, wq])) | simp (disch := omega) only [wrapI, wrapU, shl1, shl1', shl1'', shrN, shrN', and_one] | ((with_reducible refine isVx3 ?_); refine ⟨(_, _, _), rfl, ?_⟩)
          all_goals first | omega | (simp; done) | (simp; omega) | skip
  · obtain ⟨i1, i2, i3⟩ := hI
    rw [tracks_len] at i1 i2 i3
    have k1 := run_nt (d := d) (a := a) (c := c) hc hs 1
    have k2 := run_nt (d := d) (a := a) (c := c) hc hs 2
    rw [k1.1] at i1; rw [k1.2] at i2; rw [k2.2] at i3
    (try (simp -implicitDefEqProofs only [go_sem, i1, i2, i3])); repeat' first | with_reducible exact True.intro | with_reducible refine And.intro ?_ ?_ | with_reducible intro _ | (((with_reducible refine vc_b ?_ ?_) <;> intro _) <;> try (simp -implicitDefEqProofs only [go_sem, i1, i2, i3])) | simp (disch := omega) only [wrapI, wrapU, shl1, shl1', shl1'', shrN, shrN', and_one] | ((with_reducible refine isVx3 ?_); refine ⟨(_, _, _), rfl, ?_⟩)
    all_goals first | omega | (simp; done) | (simp; omega) | skip

/-- What a run takes at least and at most; the turns that it can lose. -/
def GDisk.low (d : GDisk) (a : Int) (m : Nat) : Int := d.ticksR a m + gapV d.turn d.hskew d.hlo * d.swR 1 a m + gapV d.turn d.cskew d.clo * d.swR 2 a m
def GDisk.high (d : GDisk) (a : Int) (m : Nat) : Int := d.ticksR a m + gapV d.turn d.hskew d.hhi * d.swR 1 a m + gapV d.turn d.cskew d.chi * d.swR 2 a m
def GDisk.turns (d : GDisk) (a : Int) (m : Nat) : Int := gapT d.turn d.hskew d.hhi * d.swR 1 a m + gapT d.turn d.cskew d.chi * d.swR 2 a m
theorem gap_bound {t s k x : Int} (ht : 1 ≤ t ∧ t ≤ 1000) (hs : 0 ≤ s ∧ s < t) (hk : 0 ≤ k ∧ k ≤ 2000) (hx : 0 ≤ x ∧ x ≤ 5120) :
    (0 ≤ gapV t s k ∧ gapV t s k ≤ 2001000) ∧ (0 ≤ gapT t s k ∧ gapT t s k ≤ 2000) ∧ (0 ≤ gapV t s k * x ∧ gapV t s k * x ≤ 2001000 * 5120) ∧ (0 ≤ gapT t s k * x ∧ gapT t s k * x ≤ 2000 * 5120) := by
  obtain ⟨k0, k1, k2⟩ := gapT_spec (t := t) (skew := s) (ticks := k) (by omega)
  have hle := gapT_le (t := t) (skew := s) (ticks := k) (by omega) hk.2 hs.1
  have h1 : 0 ≤ gapT t s k * t ∧ gapT t s k * t ≤ 2000 * 1000 := ⟨Int.mul_nonneg (by omega) (by omega), Int.mul_le_mul (by omega) (by omega) (by omega) (by omega)⟩
  have h2 : 0 ≤ gapV t s k ∧ gapV t s k ≤ 2001000 := by unfold gapV; omega
  exact ⟨h2, ⟨k0, hle⟩, ⟨Int.mul_nonneg (by omega) (by omega), Int.mul_le_mul (by omega) (by omega) (by omega) (by omega)⟩, ⟨Int.mul_nonneg (by omega) (by omega), Int.mul_le_mul (by omega) (by omega) (by omega) (by omega)⟩⟩

theorem zones_span_ret (d : GDisk) (h : d.ok = true) (a c : Int) (ha : 0 ≤ a) (hc : 1 ≤ c) (hs : a + c ≤ d.size) :
    Ret E0 F_zones_disk_span [diskD d, .int .i64 a, .int .i64 c] (.tup [.agg [.int .i64 (d.low a c.toNat), .int .i64 (d.high a c.toNat)], .int .i64 (d.turns a c.toNat)]) := by
  refine ret_of_pw dec_zones_disk_span mixed (by simp) fun hwf => ?_
  have g := good_of h
  have hz := size_bound g
  have t1 := g.t1; have t2 := g.t2
  have s0 := g.k1; have s00 := g.k2; have s01 := g.c1; have s02 := g.c2
  have s1 := g.s1; have s2 := g.s2; have s3 := g.s3; have s4 := g.s4; have s5 := g.s5; have s6 := g.s6
  have c1 := zones_run_ret d h a c ha hc hs
  have c2 := zones_changes_ret d
  have e1 := zones_gap_ret d g d.hskew d.hlo (by omega) (by omega)
  have e2 := zones_gap_ret d g d.hskew d.hhi (by omega) (by omega)
  have e3 := zones_gap_ret d g d.cskew d.clo (by omega) (by omega)
  have e4 := zones_gap_ret d g d.cskew d.chi (by omega) (by omega)
  have q0 := ticksR_bound g a c.toNat
  have q1 := swR_bound (d := d) 1 a c.toNat
  have q2 := swR_bound (d := d) 2 a c.toNat
  have r1 := gap_bound (t := d.turn) (s := d.hskew) (k := d.hlo) (x := d.swR 1 a c.toNat) (by omega) (by omega) (by omega) (by omega)
  have r2 := gap_bound (t := d.turn) (s := d.hskew) (k := d.hhi) (x := d.swR 1 a c.toNat) (by omega) (by omega) (by omega) (by omega)
  have r3 := gap_bound (t := d.turn) (s := d.cskew) (k := d.clo) (x := d.swR 2 a c.toNat) (by omega) (by omega) (by omega) (by omega)
  have r4 := gap_bound (t := d.turn) (s := d.cskew) (k := d.chi) (x := d.swR 2 a c.toNat) (by omega) (by omega) (by omega) (by omega)
  rw [enter_eq]; unfold pc_zones_disk_span GDisk.low GDisk.high GDisk.turns
  generalize d.ticksR a c.toNat = t at *
  generalize d.swR 1 a c.toNat = sx at *
  generalize d.swR 2 a c.toNat = sy at *
  generalize gapV d.turn d.hskew d.hlo = v1 at *
  generalize gapV d.turn d.hskew d.hhi = v2 at *
  generalize gapV d.turn d.cskew d.clo = v3 at *
  generalize gapV d.turn d.cskew d.chi = v4 at *
  generalize gapT d.turn d.hskew d.hhi = m2 at *
  generalize gapT d.turn d.cskew d.chi = m4 at *
  have w1 : IntKind.i64.wrap (v1 * sx) = v1 * sx := wrapI _ (by omega)
  have w2 : IntKind.i64.wrap (v2 * sx) = v2 * sx := wrapI _ (by omega)
  have w3 : IntKind.i64.wrap (v3 * sy) = v3 * sy := wrapI _ (by omega)
  have w4 : IntKind.i64.wrap (v4 * sy) = v4 * sy := wrapI _ (by omega)
  have w5 : IntKind.i64.wrap (m2 * sx) = m2 * sx := wrapI _ (by omega)
  have w6 : IntKind.i64.wrap (m4 * sy) = m4 * sy := wrapI _ (by omega)
  have x1 : IntKind.i64.wrap (t + v1 * sx) = t + v1 * sx := wrapI _ (by omega)
  have x2 : IntKind.i64.wrap (t + v2 * sx) = t + v2 * sx := wrapI _ (by omega)
  have x3 : IntKind.i64.wrap (t + v1 * sx + v3 * sy) = t + v1 * sx + v3 * sy := wrapI _ (by omega)
  have x4 : IntKind.i64.wrap (t + v2 * sx + v4 * sy) = t + v2 * sx + v4 * sy := wrapI _ (by omega)
  have x5 : IntKind.i64.wrap (0 + m2 * sx) = m2 * sx := by rw [Int.zero_add]; exact w5
  have x6 : IntKind.i64.wrap (m2 * sx + m4 * sy) = m2 * sx + m4 * sy := wrapI _ (by omega)
  (try (simp -implicitDefEqProofs only [go_sem, diskD_eq, diskC_eq])); repeat' first | with_reducible exact True.intro | with_reducible refine And.intro ?_ ?_ | with_reducible intro _ | (((with_reducible refine isCall ?_); first | refine call_b (c1) rfl ?_ ?_ | refine call_d (c1) rfl ?_ | refine call_sb (c1) rfl ?_ ?_ | refine call_s (c1) rfl rfl ?_ | refine call_b (c2) rfl ?_ ?_ | refine call_d (c2) rfl ?_ | refine call_sb (c2) rfl ?_ ?_ | refine call_s (c2) rfl rfl ?_) <;> try (simp -implicitDefEqProofs only [go_sem, diskD_eq, diskC_eq])) | (((with_reducible refine vc_b ?_ ?_) <;> intro _) <;> try (simp -implicitDefEqProofs only [go_sem, diskD_eq, diskC_eq])) | simp (disch := omega) only [wrapI, wrapU, shl1, shl1', shl1'', shrN, shrN', and_one] | ((with_reducible refine isEx4 ?_); refine ⟨(_, _, _, _), rfl, ?_, ?_⟩)
  all_goals first | omega | (simp; done) | (simp; omega) | skip
  refine pw_loopS (α := Int × Int × Int × Int) (l0 := ?l2) (m0 := ?m2) (fun x => [(28, .d (.int .i64 x.1)), (7, .d (.int .i64 x.2.2.2))]) (fun x => [(6, .cells [.d (.int .i64 x.2.1), .d (.int .i64 x.2.2.1)])]) (fun x => (x.1 = 0 ∧ x.2.1 = t ∧ x.2.2.1 = t ∧ x.2.2.2 = 0) ∨ (x.1 = 1 ∧ x.2.1 = t + v1 * sx ∧ x.2.2.1 = t + v2 * sx ∧ x.2.2.2 = m2 * sx) ∨ (x.1 = 2 ∧ x.2.1 = t + v1 * sx + v3 * sy ∧ x.2.2.1 = t + v2 * sx + v4 * sy ∧ x.2.2.2 = m2 * sx + m4 * sy)) (fun x => (2 - x.1).toNat) (?a2_0, ?a2_1, ?a2_2, ?a2_3) ?h02 ?he2 ?he22 ?hI2 ?step2
  case h02 => (simp -implicitDefEqProofs only [go_sem, diskC_eq]; rfl)
  case he2 => rfl
  case he22 => rfl
  case' step2 => (rintro ⟨i, lo, hi, n⟩ hI; try dsimp only at hI)
  case' hI2 => try dsimp only
  · exact .inl ⟨rfl, rfl, rfl, rfl⟩
  · rcases hI with ⟨rfl, rfl, rfl, rfl⟩ | ⟨rfl, rfl, rfl, rfl⟩ | ⟨rfl, rfl, rfl, rfl⟩
    · (try (simp -implicitDefEqProofs only [go_sem, diskC_eq, diskD_eq, w1, w2, w5, x1, x2, x5])); repeat' first | with_reducible exact True.intro | with_reducible refine And.intro ?_ ?_ | with_reducible intro _ | (((with_reducible refine isCall ?_); first | refine call_b (e1) rfl ?_ ?_ | refine call_d (e1) rfl ?_ | refine call_sb (e1) rfl ?_ ?_ | refine call_s (e1) rfl rfl ?_ | refine call_b (e2) rfl ?_ ?_ | refine call_d (e2) rfl ?_ | refine call_sb (e2) rfl ?_ ?_ | refine call_s (e2) rfl rfl ?_) <;> try (simp -implicitDefEqProofs only [go_sem, diskC_eq, diskD_eq, w1, w2, w5, x1, x2, x5])) | (((with_reducible refine vc_b ?_ ?_) <;> intro _) <;> try (simp -implicitDefEqProofs only [go_sem, diskC_eq, diskD_eq, w1, w2, w5, x1, x2, x5])) | simp (disch := omega) only [wrapI, wrapU, shl1, shl1', shl1'', shrN, shrN', and_one] | ((with_reducible refine isEx4 ?_); refine ⟨(_, _, _, _), rfl, ?_, ?_⟩)
      all_goals first | omega | (simp; done) | (simp; omega) | skip
    · (try (simp -implicitDefEqProofs only [go_sem, diskC_eq, diskD_eq, w3, w4, w6, x3, x4, x6])); repeat' first | with_reducible exact True.intro | with_reducible refine And.intro ?_ ?_ | with_reducible intro _ | (((with_reducible refine isCall ?_); first | refine call_b (e3) rfl ?_ ?_ | refine call_d (e3) rfl ?_ | refine call_sb (e3) rfl ?_ ?_ | refine call_s (e3) rfl rfl ?_ | refine call_b (e4) rfl ?_ ?_ | refine call_d (e4) rfl ?_ | refine call_sb (e4) rfl ?_ ?_ | refine call_s (e4) rfl rfl ?_) <;> try (simp -implicitDefEqProofs only [go_sem, diskC_eq, diskD_eq, w3, w4, w6, x3, x4, x6])) | (((with_reducible refine vc_b ?_ ?_) <;> intro _) <;> try (simp -implicitDefEqProofs only [go_sem, diskC_eq, diskD_eq, w3, w4, w6, x3, x4, x6])) | simp (disch := omega) only [wrapI, wrapU, shl1, shl1', shl1'', shrN, shrN', and_one] | ((with_reducible refine isEx4 ?_); refine ⟨(_, _, _, _), rfl, ?_, ?_⟩)
      all_goals first | omega | (simp; done) | (simp; omega) | skip
    · (try (simp -implicitDefEqProofs only [go_sem, diskC_eq, diskD_eq])); repeat' first | with_reducible exact True.intro | with_reducible refine And.intro ?_ ?_ | with_reducible intro _ | (((with_reducible refine vc_b ?_ ?_) <;> intro _) <;> try (simp -implicitDefEqProofs only [go_sem, diskC_eq, diskD_eq])) | simp (disch := omega) only [wrapI, wrapU, shl1, shl1', shl1'', shrN, shrN', and_one] | ((with_reducible refine isEx4 ?_); refine ⟨(_, _, _, _), rfl, ?_, ?_⟩)
      all_goals first | omega | (simp; done) | (simp; omega) | skip

def GDisk.isRun (d : GDisk) (a c : Int) : Prop := (0 ≤ a ∧ 1 ≤ c) ∧ a + c ≤ d.size
instance (d : GDisk) (a c : Int) : Decidable (d.isRun a c) := by unfold GDisk.isRun; infer_instance
/-- Run. -/
def GDisk.run (d : GDisk) (a c : Int) : (Int × Int) × Int := if d.ok then (if d.isRun a c then ((d.low a c.toNat, d.high a c.toNat), 0) else ((0, 0), 1)) else ((0, 0), 10)

theorem zones_Run_ret (d : GDisk) (a c : Int) : Ret E0 F_zones_Run [diskD d, .int .i64 a, .int .i64 c] (.tup [.agg [.int .i64 (d.run a c).1.1, .int .i64 (d.run a c).1.2], .int .i64 (d.run a c).2]) := by
  refine ret_of_pw dec_zones_Run mixed (by simp) fun hwf => ?_
  have c1 := zones_open_ret d
  rw [enter_eq]; unfold pc_zones_Run
  unfold GDisk.check at c1
  unfold GDisk.run
  cases h : d.ok with
  | false =>
    rw [h] at c1
    (try (simp -implicitDefEqProofs only [go_sem, diskD_eq, diskC_eq])); repeat' first | with_reducible exact True.intro | with_reducible refine And.intro ?_ ?_ | with_reducible intro _ | (((with_reducible refine isCall ?_); first | refine call_b (c1) rfl ?_ ?_ | refine call_d (c1) rfl ?_ | refine call_sb (c1) rfl ?_ ?_ | refine call_s (c1) rfl rfl ?_) <;> try (simp -implicitDefEqProofs only [go_sem, diskD_eq, diskC_eq])) | (((with_reducible refine vc_b ?_ ?_) <;> intro _) <;> try (simp -implicitDefEqProofs only [go_sem, diskD_eq, diskC_eq])) | simp (disch := omega) only [wrapI, wrapU, shl1, shl1', shl1'', shrN, shrN', and_one] 
    all_goals first | omega | (simp; done) | (simp; omega) | skip
  | true =>
    rw [h] at c1
    have g := good_of h
    have hz := size_bound g
    have c2 := zones_disk_size_ret d h
    by_cases hr : d.isRun a c
    · obtain ⟨⟨r1, r2⟩, r3⟩ := hr
      have c3 := zones_span_ret d h a c r1 r2 r3
      rw [if_pos (show d.isRun a c from ⟨⟨r1, r2⟩, r3⟩)]
      have hw : IntKind.i64.wrap (d.size - c) = d.size - c := wrapI _ (by omega)
      have e1 : ¬ a < 0 := by omega
      have e2 : ¬ c < 1 := by omega
      have e3 : ¬ d.size < c := by omega
      have e4 : ¬ d.size - c < a := by omega
      (try (simp -implicitDefEqProofs only [go_sem, diskD_eq, diskC_eq, hw, e1, e2, e3, e4])); repeat' first | with_reducible exact True.intro | with_reducible refine And.intro ?_ ?_ | with_reducible intro _ | (((with_reducible refine isCall ?_); first | refine call_b (c1) rfl ?_ ?_ | refine call_d (c1) rfl ?_ | refine call_sb (c1) rfl ?_ ?_ | refine call_s (c1) rfl rfl ?_ | refine call_b (c2) rfl ?_ ?_ | refine call_d (c2) rfl ?_ | refine call_sb (c2) rfl ?_ ?_ | refine call_s (c2) rfl rfl ?_ | refine call_b (c3) rfl ?_ ?_ | refine call_d (c3) rfl ?_ | refine call_sb (c3) rfl ?_ ?_ | refine call_s (c3) rfl rfl ?_) <;> try (simp -implicitDefEqProofs only [go_sem, diskD_eq, diskC_eq, hw, e1, e2, e3, e4])) | (((with_reducible refine vc_b ?_ ?_) <;> intro _) <;> try (simp -implicitDefEqProofs only [go_sem, diskD_eq, diskC_eq, hw, e1, e2, e3, e4])) | simp (disch := omega) only [wrapI, wrapU, shl1, shl1', shl1'', shrN, shrN', and_one] 
      all_goals first | omega | (simp; done) | (simp; omega) | skip
    · rw [if_neg hr]
      unfold GDisk.isRun at hr
      by_cases hc : 1 ≤ c ∧ c ≤ d.size
      · have hw : IntKind.i64.wrap (d.size - c) = d.size - c := wrapI _ (by omega)
        (try (simp -implicitDefEqProofs only [go_sem, diskD_eq, diskC_eq, hw])); repeat' first | with_reducible exact True.intro | with_reducible refine And.intro ?_ ?_ | with_reducible intro _ | (((with_reducible refine isCall ?_); first | refine call_b (c1) rfl ?_ ?_ | refine call_d (c1) rfl ?_ | refine call_sb (c1) rfl ?_ ?_ | refine call_s (c1) rfl rfl ?_ | refine call_b (c2) rfl ?_ ?_ | refine call_d (c2) rfl ?_ | refine call_sb (c2) rfl ?_ ?_ | refine call_s (c2) rfl rfl ?_) <;> try (simp -implicitDefEqProofs only [go_sem, diskD_eq, diskC_eq, hw])) | (((with_reducible refine vc_b ?_ ?_) <;> intro _) <;> try (simp -implicitDefEqProofs only [go_sem, diskD_eq, diskC_eq, hw])) | simp (disch := omega) only [wrapI, wrapU, shl1, shl1', shl1'', shrN, shrN', and_one] 
        all_goals first | omega | (simp; done) | (simp; omega) | skip
      · have hcc : c < 1 ∨ d.size < c := by omega
        (try (simp -implicitDefEqProofs only [go_sem, diskD_eq, diskC_eq])); repeat' first | with_reducible exact True.intro | with_reducible refine And.intro ?_ ?_ | with_reducible intro _ | (((with_reducible refine isCall ?_); first | refine call_b (c1) rfl ?_ ?_ | refine call_d (c1) rfl ?_ | refine call_sb (c1) rfl ?_ ?_ | refine call_s (c1) rfl rfl ?_ | refine call_b (c2) rfl ?_ ?_ | refine call_d (c2) rfl ?_ | refine call_sb (c2) rfl ?_ ?_ | refine call_s (c2) rfl rfl ?_) <;> try (simp -implicitDefEqProofs only [go_sem, diskD_eq, diskC_eq])) | (((with_reducible refine vc_b ?_ ?_) <;> intro _) <;> try (simp -implicitDefEqProofs only [go_sem, diskD_eq, diskC_eq])) | simp (disch := omega) only [wrapI, wrapU, shl1, shl1', shl1'', shrN, shrN', and_one] 
        all_goals first | omega | (simp; done) | (simp; omega) | skip

def GDisk.lost (d : GDisk) : Int × Int := if d.ok then (d.turns 0 d.size.toNat, 0) else (0, 10)

end Go.Pw
end
section
open Go Go.Pw Go.Proofs
namespace Go.Pw
set_option linter.unusedSimpArgs false
set_option linter.unusedVariables false
set_option maxRecDepth 100000
set_option maxHeartbeats 1600000
attribute [local congr] cg_pw cg_seqI cg_seqE cg_stepI cg_ev cg_evBin cg_condB cg_condV cg_thenQ cg_blockQ cg_onSome cg_onCells cg_onRow cg_onMap cg_onOpt cg_ghosts cg_ghost cg_evCall cg_part cg_rng cg_guardV cg_frzV cg_frpV cg_ownV cg_owcV cg_occV cg_occX cg_resK cg_res1 cg_yldP cg_rndE cg_onlyN cg_onHist
attribute [local irreducible] IntKind.wrap bitsOp Option.getD and or

theorem ref01_Cylinders_ret (d : GDisk) (h : d.ok = true) : Ret E0 F_ref01_Cylinders [diskD d] (.int .i64 d.cyls) := by
  have g := good_of h
  refine ret_of_pw dec_ref01_Cylinders mixed (by simp) fun hwf => ?_
  have z2 := g.z2
  rw [enter_eq]; unfold pc_ref01_Cylinders
  (try (simp -implicitDefEqProofs only [go_sem, diskD_eq, diskC_eq])); repeat' first | with_reducible exact True.intro | with_reducible refine And.intro ?_ ?_ | with_reducible intro _ | (((with_reducible refine vc_b ?_ ?_) <;> intro _) <;> try (simp -implicitDefEqProofs only [go_sem, diskD_eq, diskC_eq])) | simp (disch := omega) only [wrapI, wrapU, shl1, shl1', shl1'', shrN, shrN', and_one] | ((with_reducible refine isEx2 ?_); refine ⟨(_, _), rfl, ?_, ?_⟩)
  all_goals first | omega | (simp; done) | (simp; omega) | skip
  refine pw_loopS (α := Int × Int) (l0 := ?l1) (m0 := ?m1) (fun x => [(4, .d (.int .i64 x.1)), (3, .d (.int .i64 x.2))]) (fun x => []) (fun x => (0 ≤ x.1 ∧ x.1 ≤ d.zones.length) ∧ x.2 = d.base x.1.toNat) (fun x => (d.zones.length - x.1).toNat) (?a1_0, ?a1_1) ?h01 ?he1 ?he21 ?hI1 ?step1
  case h01 => (simp -implicitDefEqProofs only [go_sem, diskC_eq, zpsD_len]; rfl)
  case he1 => rfl
  case he21 => rfl
  case' step1 => (rintro ⟨i, n⟩ hI; try dsimp only at hI)
  case' hI1 => try dsimp only
  · exact ⟨⟨by omega, by omega⟩, by simp [GDisk.base]⟩
  · obtain ⟨⟨h1, h2⟩, h3⟩ := hI
    have hb := g.base i.toNat (by omega)
    by_cases hi : i < d.zones.length
    · have hz := g.z i.toNat (by omega)
      obtain ⟨z, hze⟩ : ∃ z, d.zones[i.toNat]?.getD default = z := ⟨_, rfl⟩
      rw [hze] at hz
      have hn : d.base (i + 1).toNat = d.base i.toNat + z.1.toNat := by rw [show (i + 1).toNat = i.toNat + 1 by omega, GDisk.base, hze]
      have w1 : IntKind.i64.wrap (i + 1) = i + 1 := wrapI _ (by omega)
      have w2 : IntKind.i64.wrap (n + z.1) = n + z.1 := wrapI _ (by omega)
      (try (simp -implicitDefEqProofs only [go_sem, diskC_eq, zpsD_len, onSome_zps, hze, zpD_eq, zpsD_unif, w1, w2])); repeat' first | with_reducible exact True.intro | with_reducible refine And.intro ?_ ?_ | with_reducible intro _ | (((with_reducible refine vc_b ?_ ?_) <;> intro _) <;> try (simp -implicitDefEqProofs only [go_sem, diskC_eq, zpsD_len, onSome_zps, hze, zpD_eq, zpsD_unif, w1, w2])) | simp (disch := omega) only [wrapI, wrapU, shl1, shl1', shl1'', shrN, shrN', and_one] | ((with_reducible refine isEx2 ?_); refine ⟨(_, _), rfl, ?_, ?_⟩)
      all_goals first | omega | (simp; done) | (simp; omega) | skip
    · have hie : i = d.zones.length := by omega
      have hn : n = d.cyls := by rw [h3, hie, ← base_len]; simp
      (try (simp -implicitDefEqProofs only [go_sem, diskC_eq, zpsD_len, hi])); repeat' first | with_reducible exact True.intro | with_reducible refine And.intro ?_ ?_ | with_reducible intro _ | (((with_reducible refine vc_b ?_ ?_) <;> intro _) <;> try (simp -implicitDefEqProofs only [go_sem, diskC_eq, zpsD_len, hi])) | simp (disch := omega) only [wrapI, wrapU, shl1, shl1', shl1'', shrN, shrN', and_one] | ((with_reducible refine isEx2 ?_); refine ⟨(_, _), rfl, ?_, ?_⟩)
      all_goals first | omega | (simp; done) | (simp; omega) | skip

theorem ref01_Count_ret (d : GDisk) (h : d.ok = true) : Ret E0 F_ref01_Count [diskD d] (.int .i64 d.size) := by
  have g := good_of h
  refine ret_of_pw dec_ref01_Count mixed (by simp) fun hwf => ?_
  have z2 := g.z2; have g1 := g.h1; have g2 := g.h2
  have hH := g.hn
  rw [enter_eq]; unfold pc_ref01_Count
  (try (simp -implicitDefEqProofs only [go_sem, diskD_eq, diskC_eq])); repeat' first | with_reducible exact True.intro | with_reducible refine And.intro ?_ ?_ | with_reducible intro _ | (((with_reducible refine vc_b ?_ ?_) <;> intro _) <;> try (simp -implicitDefEqProofs only [go_sem, diskD_eq, diskC_eq])) | simp (disch := omega) only [wrapI, wrapU, shl1, shl1', shl1'', shrN, shrN', and_one] | ((with_reducible refine isEx2 ?_); refine ⟨(_, _), rfl, ?_, ?_⟩)
  all_goals first | omega | (simp; done) | (simp; omega) | skip
  refine pw_loopS (α := Int × Int) (l0 := ?l2) (m0 := ?m2) (fun x => [(4, .d (.int .i64 x.1)), (3, .d (.int .i64 x.2))]) (fun x => []) (fun x => (0 ≤ x.1 ∧ x.1 ≤ d.zones.length) ∧ x.2 = d.tf (d.base x.1.toNat * d.heads.toNat)) (fun x => (d.zones.length - x.1).toNat) (?a2_0, ?a2_1) ?h02 ?he2 ?he22 ?hI2 ?step2
  case h02 => (simp -implicitDefEqProofs only [go_sem, diskC_eq, zpsD_len]; rfl)
  case he2 => rfl
  case he22 => rfl
  case' step2 => (rintro ⟨i, n⟩ hI; try dsimp only at hI)
  case' hI2 => try dsimp only
  · exact ⟨⟨by omega, by omega⟩, by simp [GDisk.base, GDisk.tf]⟩
  · obtain ⟨⟨h1, h2⟩, h3⟩ := hI
    by_cases hi : i < d.zones.length
    · have hz := g.z i.toNat (by omega)
      have htf := tf_zone (d := d) (i := i.toNat) (by omega) (d.zones[i.toNat]?.getD default).1.toNat (Nat.le_refl _)
      have hnt : d.base i.toNat * d.heads.toNat ≤ d.nt := by
        have := base_le d i.toNat d.zones.length (by omega)
        rw [base_len] at this
        exact Nat.mul_le_mul_right _ this
      have hb := g.tf _ hnt
      have hn1 := g.nt
      obtain ⟨z, hze⟩ : ∃ z, d.zones[i.toNat]?.getD default = z := ⟨_, rfl⟩
      rw [hze] at hz htf
      have hn : d.base (i + 1).toNat = d.base i.toNat + z.1.toNat := by rw [show (i + 1).toNat = i.toNat + 1 by omega, GDisk.base, hze]
      rw [← hn, ← h3, show ((z.1.toNat : Nat) : Int) = z.1 by omega, hH, ← Int.mul_assoc] at htf
      have m1 : 0 ≤ z.1 * z.2 ∧ z.1 * z.2 ≤ 20 * 16 := ⟨Int.mul_nonneg (by omega) (by omega), Int.mul_le_mul (by omega) (by omega) (by omega) (by omega)⟩
      have m2 : 0 ≤ z.1 * z.2 * d.heads ∧ z.1 * z.2 * d.heads ≤ 20 * 16 * 4 := ⟨Int.mul_nonneg (by omega) (by omega), Int.mul_le_mul (by omega) (by omega) (by omega) (by omega)⟩
      have w1 : IntKind.i64.wrap (i + 1) = i + 1 := wrapI _ (by omega)
      have w2 : IntKind.i64.wrap (z.1 * z.2) = z.1 * z.2 := wrapI _ (by omega)
      have w3 : IntKind.i64.wrap (z.1 * z.2 * d.heads) = z.1 * z.2 * d.heads := wrapI _ (by omega)
      have w4 : IntKind.i64.wrap (n + z.1 * z.2 * d.heads) = n + z.1 * z.2 * d.heads := wrapI _ (by omega)
      (try (simp -implicitDefEqProofs only [go_sem, diskC_eq, zpsD_len, onSome_zps, hze, zpD_eq, zpsD_unif, w1, w2, w3, w4])); repeat' first | with_reducible exact True.intro | with_reducible refine And.intro ?_ ?_ | with_reducible intro _ | (((with_reducible refine vc_b ?_ ?_) <;> intro _) <;> try (simp -implicitDefEqProofs only [go_sem, diskC_eq, zpsD_len, onSome_zps, hze, zpD_eq, zpsD_unif, w1, w2, w3, w4])) | simp (disch := omega) only [wrapI, wrapU, shl1, shl1', shl1'', shrN, shrN', and_one] | ((with_reducible refine isEx2 ?_); refine ⟨(_, _), rfl, ?_, ?_⟩)
      all_goals first | omega | (simp; done) | (simp; omega) | skip
    · have hie : i = d.zones.length := by omega
      have hn : n = d.size := by rw [h3, hie, GDisk.size, GDisk.nt, ← base_len]; simp
      (try (simp -implicitDefEqProofs only [go_sem, diskC_eq, zpsD_len, hi])); repeat' first | with_reducible exact True.intro | with_reducible refine And.intro ?_ ?_ | with_reducible intro _ | (((with_reducible refine vc_b ?_ ?_) <;> intro _) <;> try (simp -implicitDefEqProofs only [go_sem, diskC_eq, zpsD_len, hi])) | simp (disch := omega) only [wrapI, wrapU, shl1, shl1', shl1'', shrN, shrN', and_one] | ((with_reducible refine isEx2 ?_); refine ⟨(_, _), rfl, ?_, ?_⟩)
      all_goals first | omega | (simp; done) | (simp; omega) | skip

theorem ref01_ZoneOf_ret (d : GDisk) (h : d.ok = true) (c : Int) (k : Nat) (hk : k < d.zones.length) (h1 : (d.base k : Int) ≤ c) (h2 : c < d.base (k + 1)) : Ret E0 F_ref01_ZoneOf [diskD d, .int .i64 c] (.int .i64 k) := by
  have g := good_of h
  refine ret_of_pw dec_ref01_ZoneOf mixed (by simp) fun hwf => ?_
  have z2 := g.z2
  have hbk := g.base (k + 1) (by omega)
  rw [enter_eq]; unfold pc_ref01_ZoneOf
  (try (simp -implicitDefEqProofs only [go_sem, diskD_eq, diskC_eq])); repeat' first | with_reducible exact True.intro | with_reducible refine And.intro ?_ ?_ | with_reducible intro _ | (((with_reducible refine vc_b ?_ ?_) <;> intro _) <;> try (simp -implicitDefEqProofs only [go_sem, diskD_eq, diskC_eq])) | simp (disch := omega) only [wrapI, wrapU, shl1, shl1', shl1'', shrN, shrN', and_one] | ((with_reducible refine isEx2 ?_); refine ⟨(_, _), rfl, ?_, ?_⟩)
  all_goals first | omega | (simp; done) | (simp; omega) | skip
  refine pw_loopS (α := Int × Int) (l0 := ?l3) (m0 := ?m3) (fun x => [(5, .d (.int .i64 x.1)), (1, .d (.int .i64 x.2))]) (fun x => []) (fun x => (0 ≤ x.1 ∧ x.1 ≤ k) ∧ x.2 = c - d.base x.1.toNat) (fun x => (d.zones.length - x.1).toNat) (?a3_0, ?a3_1) ?h03 ?he3 ?he23 ?hI3 ?step3
  case h03 => (simp -implicitDefEqProofs only [go_sem, diskC_eq, zpsD_len]; rfl)
  case he3 => rfl
  case he23 => rfl
  case' step3 => (rintro ⟨i, q⟩ hI; try dsimp only at hI)
  case' hI3 => try dsimp only
  · exact ⟨⟨by omega, by omega⟩, by simp [GDisk.base]⟩
  · obtain ⟨⟨q1, q2⟩, q3⟩ := hI
    have hi : i < d.zones.length := by omega
    have hb0 := base_le d i.toNat k (by omega)
    have hz := g.z i.toNat (by omega)
    obtain ⟨z, hze⟩ : ∃ z, d.zones[i.toNat]?.getD default = z := ⟨_, rfl⟩
    rw [hze] at hz
    have hn : d.base (i + 1).toNat = d.base i.toNat + z.1.toNat := by rw [show (i + 1).toNat = i.toNat + 1 by omega, GDisk.base, hze]
    have w1 : IntKind.i64.wrap (i + 1) = i + 1 := wrapI _ (by omega)
    have w2 : IntKind.i64.wrap (q - z.1) = q - z.1 := wrapI _ (by omega)
    by_cases hq : q < z.1
    · have hik : i = k := by
        rcases Int.lt_or_le i k with h5 | h5
        · have := base_le d (i + 1).toNat k (by omega); omega
        · omega
      (try (simp -implicitDefEqProofs only [go_sem, diskC_eq, zpsD_len, onSome_zps, hze, zpD_eq, zpsD_unif, hq])); repeat' first | with_reducible exact True.intro | with_reducible refine And.intro ?_ ?_ | with_reducible intro _ | (((with_reducible refine vc_b ?_ ?_) <;> intro _) <;> try (simp -implicitDefEqProofs only [go_sem, diskC_eq, zpsD_len, onSome_zps, hze, zpD_eq, zpsD_unif, hq])) | simp (disch := omega) only [wrapI, wrapU, shl1, shl1', shl1'', shrN, shrN', and_one] | ((with_reducible refine isEx2 ?_); refine ⟨(_, _), rfl, ?_, ?_⟩)
      all_goals first | omega | (simp; done) | (simp; omega) | skip
    · have hik : i < k := by
        rcases Int.lt_or_le i k with h5 | h5
        · exact h5
        · have : (i + 1).toNat = k + 1 := by omega
          rw [this] at hn; omega
      (try (simp -implicitDefEqProofs only [go_sem, diskC_eq, zpsD_len, onSome_zps, hze, zpD_eq, zpsD_unif, hq, w1, w2])); repeat' first | with_reducible exact True.intro | with_reducible refine And.intro ?_ ?_ | with_reducible intro _ | (((with_reducible refine vc_b ?_ ?_) <;> intro _) <;> try (simp -implicitDefEqProofs only [go_sem, diskC_eq, zpsD_len, onSome_zps, hze, zpD_eq, zpsD_unif, hq, w1, w2])) | simp (disch := omega) only [wrapI, wrapU, shl1, shl1', shl1'', shrN, shrN', and_one] | ((with_reducible refine isEx2 ?_); refine ⟨(_, _), rfl, ?_, ?_⟩)
      all_goals first | omega | (simp; done) | (simp; omega) | skip

theorem ref01_Sectors_ret (d : GDisk) (h : d.ok = true) (c : Int) (h1 : 0 ≤ c) (h2 : c < d.cyls) : Ret E0 F_ref01_Sectors [diskD d, .int .i64 c] (.int .i64 (d.secs[c.toNat]?.getD 0)) := by
  have g := good_of h
  obtain ⟨k, hk, k1, k2⟩ := zone_of (d := d) c.toNat d.zones.length (Nat.le_refl _) (by rw [base_len]; omega)
  rw [secs_zone hk k1 k2]
  have c1 := ref01_ZoneOf_ret d h c k hk (by omega) (by omega)
  refine ret_of_pw dec_ref01_Sectors mixed (by simp) fun hwf => ?_
  have z2 := g.z2
  obtain ⟨z, hze⟩ : ∃ z, d.zones[k]?.getD default = z := ⟨_, rfl⟩
  rw [hze, enter_eq]; unfold pc_ref01_Sectors
  have hkk : (k : Int) < d.zones.length := by omega
  (try (simp -implicitDefEqProofs only [go_sem, diskD_eq, diskC_eq, zpsD_len, onSome_zps, hze, zpD_eq, zpsD_unif])); repeat' first | with_reducible exact True.intro | with_reducible refine And.intro ?_ ?_ | with_reducible intro _ | (((with_reducible refine isCall ?_); first | refine call_b (c1) rfl ?_ ?_ | refine call_d (c1) rfl ?_ | refine call_sb (c1) rfl ?_ ?_ | refine call_s (c1) rfl rfl ?_) <;> try (simp -implicitDefEqProofs only [go_sem, diskD_eq, diskC_eq, zpsD_len, onSome_zps, hze, zpD_eq, zpsD_unif])) | (((with_reducible refine vc_b ?_ ?_) <;> intro _) <;> try (simp -implicitDefEqProofs only [go_sem, diskD_eq, diskC_eq, zpsD_len, onSome_zps, hze, zpD_eq, zpsD_unif])) | simp (disch := omega) only [wrapI, wrapU, shl1, shl1', shl1'', shrN, shrN', and_one] 
  all_goals first | omega | (simp; done) | (simp; omega) | skip

end Go.Pw
end
section
open Go Go.Pw Go.Proofs
namespace Go.Pw
set_option linter.unusedSimpArgs false
set_option linter.unusedVariables false
set_option maxRecDepth 100000
set_option maxHeartbeats 1600000
theorem emp_plsN (d : GDisk) (n : Nat) (h : 0 < n) : (d.plsN n).isEmpty = false := by
  cases hp : d.plsN n with
  | nil => have := plsN_len d n; rw [hp] at this; simp at this; omega
  | cons _ _ => rfl
theorem isEmpty_snocZ {α : Type} (l : List α) (x : α) : (l ++ [x]).isEmpty = false := by cases l <;> rfl
attribute [local congr] cg_pw cg_seqI cg_seqE cg_stepI cg_ev cg_evBin cg_condB cg_condV cg_thenQ cg_blockQ cg_onSome cg_onCells cg_onRow cg_onMap cg_onOpt cg_ghosts cg_ghost cg_evCall cg_part cg_rng cg_guardV cg_frzV cg_frpV cg_ownV cg_owcV cg_occV cg_occX cg_resK cg_res1 cg_yldP cg_rndE cg_onlyN cg_onHist
attribute [local irreducible] IntKind.wrap bitsOp Option.getD and or

theorem ref01_Places_ret (d : GDisk) (h : d.ok = true) : Ret E0 F_ref01_Places [diskD d] (.list false (plsD d.pls)) := by
  have g := good_of h
  refine ret_of_pw dec_ref01_Places mixed (by simp) fun hwf => ?_
  have z2 := g.z2; have g1 := g.h1; have g2 := g.h2; have hH := g.hn; have hnt := g.nt; have hcy := g.cyls
  have hsz := size_bound g
  have c1 := ref01_Cylinders_ret d h
  rw [enter_eq]; unfold pc_ref01_Places
  (try (simp -implicitDefEqProofs only [go_sem, diskD_eq, diskC_eq])); repeat' first | with_reducible exact True.intro | with_reducible refine And.intro ?_ ?_ | with_reducible intro _ | (((with_reducible refine vc_b ?_ ?_) <;> intro _) <;> try (simp -implicitDefEqProofs only [go_sem, diskD_eq, diskC_eq])) | simp (disch := omega) only [wrapI, wrapU, shl1, shl1', shl1'', shrN, shrN', and_one] | ((with_reducible refine isEx3 ?_); refine ⟨(_, _, _), rfl, ?_, ?_⟩)
  all_goals first | omega | (simp; done) | (simp; omega) | skip
  refine pw_loopS (α := Int × (List (Int × Int × Int)) × Bool) (l0 := ?l1) (m0 := ?m1) (fun x => [(4, .d (.int .i64 x.1))]) (fun x => [(32, .row 131 3 x.2.2 (plsD x.2.1))]) (fun x => (0 ≤ x.1 ∧ x.1 ≤ d.cyls) ∧ x.2.1 = d.plsN (d.tf (x.1.toNat * d.heads.toNat)).toNat ∧ x.2.2 = x.2.1.isEmpty) (fun x => (d.cyls - x.1).toNat) (?a1_0, [], true) ?h01 ?he1 ?he21 ?hI1 ?step1
  case h01 => (simp -implicitDefEqProofs only [go_sem, diskC_eq]; rfl)
  case he1 => rfl
  case he21 => rfl
  case' step1 => (rintro ⟨c, out, b⟩ hI; try dsimp only at hI)
  case' hI1 => try dsimp only
  · exact ⟨⟨by omega, by omega⟩, by simp [GDisk.plsN, GDisk.tf], rfl⟩
  · obtain ⟨⟨h1, h2⟩, h3, h4⟩ := hI
    have w1 : IntKind.i64.wrap (c + 1) = c + 1 := wrapI _ (by omega)
    by_cases hc : c < d.cyls
    · have c2 := ref01_Sectors_ret d h c h1 hc
      (try (simp -implicitDefEqProofs only [go_sem, diskC_eq, diskD_eq, hc])); repeat' first | with_reducible exact True.intro | with_reducible refine And.intro ?_ ?_ | with_reducible intro _ | (((with_reducible refine isCall ?_); first | refine call_b (c1) rfl ?_ ?_ | refine call_d (c1) rfl ?_ | refine call_sb (c1) rfl ?_ ?_ | refine call_s (c1) rfl rfl ?_) <;> try (simp -implicitDefEqProofs only [go_sem, diskC_eq, diskD_eq, hc])) | (((with_reducible refine vc_b ?_ ?_) <;> intro _) <;> try (simp -implicitDefEqProofs only [go_sem, diskC_eq, diskD_eq, hc])) | simp (disch := omega) only [wrapI, wrapU, shl1, shl1', shl1'', shrN, shrN', and_one] | ((with_reducible refine isEx3 ?_); refine ⟨(_, _, _), rfl, ?_, ?_⟩)
      all_goals first | omega | (simp; done) | (simp; omega) | skip
      refine pw_loopS (α := Int × (List (Int × Int × Int)) × Bool) (l0 := ?l2) (m0 := ?m2) (fun x => [(5, .d (.int .i64 x.1))]) (fun x => [(32, .row 131 3 x.2.2 (plsD x.2.1))]) (fun x => (0 ≤ x.1 ∧ x.1 ≤ d.heads) ∧ x.2.1 = d.plsN (d.tf (c.toNat * d.heads.toNat + x.1.toNat)).toNat ∧ x.2.2 = x.2.1.isEmpty) (fun x => (d.heads - x.1).toNat) (?a2_0, ?a2_1, ?a2_2) ?h02 ?he2 ?he22 ?hI2 ?step2
      case h02 => (simp -implicitDefEqProofs only [go_sem, diskC_eq]; rfl)
      case he2 => rfl
      case he22 => rfl
      case' step2 => (rintro ⟨k, out, b⟩ hI2; try dsimp only at hI2)
      case' hI2 => try dsimp only
      · exact ⟨⟨by omega, by omega⟩, by simpa using h3, h4⟩
      · obtain ⟨⟨q1, q2⟩, q3, q4⟩ := hI2
        have w2 : IntKind.i64.wrap (k + 1) = k + 1 := wrapI _ (by omega)
        by_cases hk : k < d.heads
        · have hlt : c.toNat * d.heads.toNat + k.toNat < d.nt := by
            unfold GDisk.nt
            calc c.toNat * d.heads.toNat + k.toNat < c.toNat * d.heads.toNat + d.heads.toNat := by omega
              _ = (c.toNat + 1) * d.heads.toNat := by rw [Nat.succ_mul]
              _ ≤ d.cyls * d.heads.toNat := Nat.mul_le_mul_right _ (by omega)
          have hts := ts_at (d := d) c.toNat k.toNat (by omega)
          have htc := tc_at (d := d) c.toNat k.toNat (by omega)
          have hth := th_at (d := d) c.toNat k.toNat (by omega)
          have htb := g.ts hlt
          have htf := g.tf _ (Nat.le_of_lt hlt)
          have htn : d.tf (c.toNat * d.heads.toNat + (k + 1).toNat) = d.tf (c.toNat * d.heads.toNat + k.toNat) + d.ts (c.toNat * d.heads.toNat + k.toNat) := by
            rw [show c.toNat * d.heads.toNat + (k + 1).toNat = c.toNat * d.heads.toNat + k.toNat + 1 by omega, GDisk.tf]
          obtain ⟨t, ht⟩ : ∃ t, c.toNat * d.heads.toNat + k.toNat = t := ⟨_, rfl⟩
          rw [ht] at hlt hts htc hth htb htf htn q3
          rw [← hts] at c2
          (try (simp -implicitDefEqProofs only [go_sem, diskC_eq, diskD_eq, hk])); repeat' first | with_reducible exact True.intro | with_reducible refine And.intro ?_ ?_ | with_reducible intro _ | (((with_reducible refine vc_b ?_ ?_) <;> intro _) <;> try (simp -implicitDefEqProofs only [go_sem, diskC_eq, diskD_eq, hk])) | simp (disch := omega) only [wrapI, wrapU, shl1, shl1', shl1'', shrN, shrN', and_one] | ((with_reducible refine isEx3 ?_); refine ⟨(_, _, _), rfl, ?_, ?_⟩)
          all_goals first | omega | (simp; done) | (simp; omega) | skip
          refine pw_loopS (α := Int × (List (Int × Int × Int)) × Bool) (l0 := ?l3) (m0 := ?m3) (fun x => [(6, .d (.int .i64 x.1))]) (fun x => [(32, .row 131 3 x.2.2 (plsD x.2.1))]) (fun x => (0 ≤ x.1 ∧ x.1 ≤ d.ts t) ∧ x.2.1 = d.plsN (d.tf t + x.1).toNat ∧ x.2.2 = x.2.1.isEmpty) (fun x => (d.ts t - x.1).toNat) (?a3_0, ?a3_1, ?a3_2) ?h03 ?he3 ?he23 ?hI3 ?step3
          case h03 => (simp -implicitDefEqProofs only [go_sem, diskC_eq]; rfl)
          case he3 => rfl
          case he23 => rfl
          case' step3 => (rintro ⟨s, out, b⟩ hI3; try dsimp only at hI3)
          case' hI3 => try dsimp only
          · exact ⟨⟨by omega, by omega⟩, by simpa using q3, q4⟩
          · obtain ⟨⟨r1, r2⟩, r3, r4⟩ := hI3
            have w3 : IntKind.i64.wrap (s + 1) = s + 1 := wrapI _ (by omega)
            have hlen := plsN_len d (d.tf t + s).toNat
            rw [← r3] at hlen
            by_cases hs : s < d.ts t
            · have hpl := pl_at g hlt (s := s) ⟨r1, hs⟩
              have hnx : d.plsN (d.tf t + (s + 1)).toNat = out ++ [(c, k, s)] := by
                rw [show (d.tf t + (s + 1)).toNat = (d.tf t + s).toNat + 1 by omega, plsN_succ, ← r3, show (((d.tf t + s).toNat : Nat) : Int) = d.tf t + s by omega, hpl, htc, hth]
                simp only [List.append_cancel_left_eq, List.cons.injEq, Prod.mk.injEq, and_true]; omega
              have hemp := isEmpty_snocZ out (c, k, s)
              (try (simp -implicitDefEqProofs only [go_sem, diskC_eq, diskD_eq, hs, plsD_len, plsD_unif, plsD_snoc, w3])); repeat' first | with_reducible exact True.intro | with_reducible refine And.intro ?_ ?_ | with_reducible intro _ | (((with_reducible refine isCall ?_); first | refine call_b (c2) rfl ?_ ?_ | refine call_d (c2) rfl ?_ | refine call_sb (c2) rfl ?_ ?_ | refine call_s (c2) rfl rfl ?_) <;> try (simp -implicitDefEqProofs only [go_sem, diskC_eq, diskD_eq, hs, plsD_len, plsD_unif, plsD_snoc, w3])) | (((with_reducible refine vc_b ?_ ?_) <;> intro _) <;> try (simp -implicitDefEqProofs only [go_sem, diskC_eq, diskD_eq, hs, plsD_len, plsD_unif, plsD_snoc, w3])) | simp (disch := omega) only [wrapI, wrapU, shl1, shl1', shl1'', shrN, shrN', and_one] | ((with_reducible refine isEx3 ?_); refine ⟨(_, _, _), rfl, ?_, ?_⟩)
              all_goals first | omega | (simp; done) | (simp; omega) | skip
              all_goals exact hnx.symm
            · have hse : s = d.ts t := by omega
              (try (simp -implicitDefEqProofs only [go_sem, diskC_eq, diskD_eq, hs, w2])); repeat' first | with_reducible exact True.intro | with_reducible refine And.intro ?_ ?_ | with_reducible intro _ | (((with_reducible refine isCall ?_); first | refine call_b (c2) rfl ?_ ?_ | refine call_d (c2) rfl ?_ | refine call_sb (c2) rfl ?_ ?_ | refine call_s (c2) rfl rfl ?_) <;> try (simp -implicitDefEqProofs only [go_sem, diskC_eq, diskD_eq, hs, w2])) | (((with_reducible refine vc_b ?_ ?_) <;> intro _) <;> try (simp -implicitDefEqProofs only [go_sem, diskC_eq, diskD_eq, hs, w2])) | simp (disch := omega) only [wrapI, wrapU, shl1, shl1', shl1'', shrN, shrN', and_one] | ((with_reducible refine isEx3 ?_); refine ⟨(_, _, _), rfl, ?_, ?_⟩)
              all_goals first | omega | (simp; done) | (simp; omega) | skip
              all_goals (rw [htn, ← hse]; exact r3)
        · have hke : k = d.heads := by omega
          have hnn : c.toNat * d.heads.toNat + k.toNat = (c + 1).toNat * d.heads.toNat := by rw [hke, show (c + 1).toNat = c.toNat + 1 by omega, Nat.succ_mul]
          rw [hnn] at q3
          (try (simp -implicitDefEqProofs only [go_sem, diskC_eq, diskD_eq, hk, w1])); repeat' first | with_reducible exact True.intro | with_reducible refine And.intro ?_ ?_ | with_reducible intro _ | (((with_reducible refine vc_b ?_ ?_) <;> intro _) <;> try (simp -implicitDefEqProofs only [go_sem, diskC_eq, diskD_eq, hk, w1])) | simp (disch := omega) only [wrapI, wrapU, shl1, shl1', shl1'', shrN, shrN', and_one] | ((with_reducible refine isEx3 ?_); refine ⟨(_, _, _), rfl, ?_, ?_⟩)
          all_goals first | omega | (simp; done) | (simp; omega) | skip
    · have hce : c = d.cyls := by omega
      have hfin : out = d.pls := by rw [h3, hce]; simp [GDisk.pls, GDisk.size, GDisk.nt]
      have hb : b = false := by rw [h4, hfin]; exact emp_plsN d _ (by omega)
      (try (simp -implicitDefEqProofs only [go_sem, diskC_eq, diskD_eq, hc, hfin, hb])); repeat' first | with_reducible exact True.intro | with_reducible refine And.intro ?_ ?_ | with_reducible intro _ | (((with_reducible refine isCall ?_); first | refine call_b (c1) rfl ?_ ?_ | refine call_d (c1) rfl ?_ | refine call_sb (c1) rfl ?_ ?_ | refine call_s (c1) rfl rfl ?_) <;> try (simp -implicitDefEqProofs only [go_sem, diskC_eq, diskD_eq, hc, hfin, hb])) | (((with_reducible refine vc_b ?_ ?_) <;> intro _) <;> try (simp -implicitDefEqProofs only [go_sem, diskC_eq, diskD_eq, hc, hfin, hb])) | simp (disch := omega) only [wrapI, wrapU, shl1, shl1', shl1'', shrN, shrN', and_one] | ((with_reducible refine isEx3 ?_); refine ⟨(_, _, _), rfl, ?_, ?_⟩)
      all_goals first | omega | (simp; done) | (simp; omega) | skip

end Go.Pw
end
