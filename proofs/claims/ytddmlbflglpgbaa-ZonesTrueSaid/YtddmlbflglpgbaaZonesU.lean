/- A part of the proof. -/
import Derived.Test.YtddmlbflglpgbaaZonesR
set_option linter.all false
open Go Go.Pw Go.Proofs
namespace Go.Pw
set_option linter.unusedSimpArgs false
set_option linter.unusedVariables false
set_option maxRecDepth 100000
set_option maxHeartbeats 3200000
theorem low_cut {d : GDisk} (g : d.Good) (a : Int) {m n : Nat} (hm : 1 ≤ m) (hn : m < n) : d.low a n = d.low a m + d.low (a + m) (n - m) + (if 0 < d.kindN (a + m) then d.gapK (d.kindN (a + m)) (d.swLo (d.kindN (a + m))) else 0) := by
  have := run_cut g a hm hn (gapV d.turn d.hskew d.hlo) (gapV d.turn d.cskew d.clo)
  unfold GDisk.low
  rw [this]
  rcases kindN_range d (a + m) with h | h | h <;> rw [h] <;> simp [GDisk.gapK, GDisk.swLo]
theorem high_cut {d : GDisk} (g : d.Good) (a : Int) {m n : Nat} (hm : 1 ≤ m) (hn : m < n) : d.high a n = d.high a m + d.high (a + m) (n - m) + (if 0 < d.kindN (a + m) then d.gapK (d.kindN (a + m)) (d.swHi (d.kindN (a + m))) else 0) := by
  have := run_cut g a hm hn (gapV d.turn d.hskew d.hhi) (gapV d.turn d.cskew d.chi)
  unfold GDisk.high
  rw [this]
  rcases kindN_range d (a + m) with h | h | h <;> rw [h] <;> simp [GDisk.gapK, GDisk.swHi]
theorem low_pos {d : GDisk} (g : d.Good) {a : Int} {m : Nat} (ha : 0 ≤ a) (hm : 1 ≤ m) (hs : a + m ≤ d.size) : (1 ≤ d.low a m ∧ d.low a m ≤ 50000000000) ∧ (1 ≤ d.high a m ∧ d.high a m ≤ 50000000000) := by
  have hsz := size_bound g
  have t1 := g.t1; have t2 := g.t2; have k1 := g.k1; have k2 := g.k2; have c1 := g.c1; have c2 := g.c2
  have s1 := g.s1; have s2 := g.s2; have s3 := g.s3; have s4 := g.s4; have s5 := g.s5; have s6 := g.s6
  have q0 := ticksR_bound g a m
  have q := ticksR_pos g ha hm hs
  have q1 := swR_bound (d := d) 1 a m
  have q2 := swR_bound (d := d) 2 a m
  have r1 := gap_bound (t := d.turn) (s := d.hskew) (k := d.hlo) (x := d.swR 1 a m) (by omega) (by omega) (by omega) (by omega)
  have r2 := gap_bound (t := d.turn) (s := d.hskew) (k := d.hhi) (x := d.swR 1 a m) (by omega) (by omega) (by omega) (by omega)
  have r3 := gap_bound (t := d.turn) (s := d.cskew) (k := d.clo) (x := d.swR 2 a m) (by omega) (by omega) (by omega) (by omega)
  have r4 := gap_bound (t := d.turn) (s := d.cskew) (k := d.chi) (x := d.swR 2 a m) (by omega) (by omega) (by omega) (by omega)
  unfold GDisk.low GDisk.high
  omega
theorem gapK_bound {d : GDisk} (g : d.Good) (e x : Int) (hx : 0 ≤ x ∧ x ≤ 2000) : 0 ≤ d.gapK e x ∧ d.gapK e x ≤ 2001000 := by
  have t1 := g.t1; have t2 := g.t2; have k1 := g.k1; have k2 := g.k2; have c1 := g.c1; have c2 := g.c2
  unfold GDisk.gapK
  split
  · exact (gap_bound (t := d.turn) (s := d.hskew) (k := x) (x := 0) (by omega) (by omega) hx (by omega)).1
  · exact (gap_bound (t := d.turn) (s := d.cskew) (k := x) (x := 0) (by omega) (by omega) hx (by omega)).1
attribute [local congr] cg_pw cg_seqI cg_seqE cg_stepI cg_ev cg_evBin cg_condB cg_condV cg_thenQ cg_blockQ cg_onSome cg_onCells cg_onRow cg_onMap cg_onOpt cg_ghosts cg_ghost cg_evCall cg_part cg_rng cg_guardV cg_frzV cg_frpV cg_ownV cg_owcV cg_occV cg_occX cg_resK cg_res1 cg_yldP cg_rndE cg_onlyN cg_onHist
attribute [local irreducible] IntKind.wrap bitsOp Option.getD and or

theorem ZonesParts_ret (d : GDisk) (a c m p q : Int) : Ret E0 F_law01_ZonesParts [diskD d, .agg [.int .i64 a, .int .i64 c, .int .i64 m, .int .i64 p, .int .i64 q]] (.bool true) := by
  refine ret_of_pw dec_law01_ZonesParts mixed (by simp) fun hwf => ?_
  have c0 := law01_ready_ret d
  have cw := law01_works_ret
  rw [enter_eq]; unfold pc_law01_ZonesParts
  cases hf : d.rdy with
  | false =>
    rw [hf] at c0
    (try (simp -implicitDefEqProofs only [go_sem, diskD_eq, diskC_eq])); repeat' first | with_reducible exact True.intro | with_reducible refine And.intro ?_ ?_ | with_reducible intro _ | (((with_reducible refine isCall ?_); first | refine call_b (c0) rfl ?_ ?_ | refine call_d (c0) rfl ?_ | refine call_sb (c0) rfl ?_ ?_ | refine call_s (c0) rfl rfl ?_ | refine call_b (cw) rfl ?_ ?_ | refine call_d (cw) rfl ?_ | refine call_sb (cw) rfl ?_ ?_ | refine call_s (cw) rfl rfl ?_) <;> try (simp -implicitDefEqProofs only [go_sem, diskD_eq, diskC_eq])) | (((with_reducible refine vc_b ?_ ?_) <;> intro _) <;> try (simp -implicitDefEqProofs only [go_sem, diskD_eq, diskC_eq])) | simp (disch := omega) only [wrapI, wrapU, shl1, shl1', shl1'', shrN, shrN', and_one] 
  | true =>
    rw [hf] at c0
    have h := rdy_ok hf
    have g := good_of h
    have c1 := ref01_IsRun_ret d h a c
    by_cases hr : d.isRun a c
    · rw [decide_eq_true hr] at c1
      by_cases hm : 1 ≤ m ∧ m < c
      · have m1 : ¬ m < 1 := by omega
        have m2 : ¬ c ≤ m := by omega
        by_cases hp : 0 ≤ p ∧ p ≤ 2000
        · have p1 : ¬ p < 0 := by omega
          have p2 : ¬ 2000 < p := by omega
          by_cases hq : 0 ≤ q ∧ q ≤ 2000
          · have q1 : ¬ q < 0 := by omega
            have q2 : ¬ 2000 < q := by omega
            obtain ⟨⟨r1, r2⟩, r3⟩ := id hr
            have hsz := size_bound g
            have n1 : d.isRun a m := ⟨⟨r1, hm.1⟩, by omega⟩
            have n2 : d.isRun (a + m) (c - m) := ⟨⟨by omega, by omega⟩, by omega⟩
            have s1 := zones_Run_ret d a m
            have s2 := zones_Run_ret d (a + m) (c - m)
            have s3 := zones_Run_ret d a c
            rw [run_of h n1] at s1; rw [run_of h n2] at s2; rw [run_of h hr] at s3
            have b1 := low_pos g (a := a) (m := m.toNat) r1 (by omega) (by omega)
            have b2 := low_pos g (a := a + m) (m := (c - m).toNat) (by omega) (by omega) (by omega)
            have b3 := low_pos g (a := a) (m := c.toNat) r1 (by omega) (by omega)
            have lc := low_cut g a (m := m.toNat) (n := c.toNat) (by omega) (by omega)
            have hc := high_cut g a (m := m.toNat) (n := c.toNat) (by omega) (by omega)
            rw [show ((m.toNat : Nat) : Int) = m by omega, show c.toNat - m.toNat = (c - m).toNat by omega] at lc hc
            have c3 := ref01_Switches_ret d h a c r1 r2 r3
            have hL1 := kinds_len d a (c.toNat - 1)
            have hL2 := kinds_get d a (c.toNat - 1) (m - 1).toNat (by omega)
            rw [show a + 1 + (((m - 1).toNat : Nat) : Int) = a + m by omega] at hL2
            have c4 := ref01_SwitchOf_ret d (d.kindN (a + m))
            have hn1 := nar_run h hp.1 hq.1 a c.toNat
            have hno := nar_ok h hp.1 hq.1
            have c6 := zones_Run_ret (d.nar p q) a c
            rw [run_of hno (show (d.nar p q).isRun a c from ⟨⟨r1, r2⟩, by rw [(same_nar d p q).size]; exact r3⟩)] at c6
            have c7 := ref01_Copy_ret d (far_len (by unfold GDisk.rdy at hf; simp at hf; exact hf.1))
            obtain ⟨o1, o2, o3, o4⟩ := GDisk.ok_iff.1 h
            have c8 := law01_narrow_ret d.hlo d.hhi p q o2 hp hq
            have c9 := law01_narrow_ret d.clo d.chi p q o3 hp hq
            have hkr := kindN_range d (a + m)
            have hlo : 0 ≤ d.swLo (d.kindN (a + m)) ∧ d.swLo (d.kindN (a + m)) ≤ 2000 := by unfold GDisk.swLo; split <;> (try split) <;> omega
            have hhi : 0 ≤ d.swHi (d.kindN (a + m)) ∧ d.swHi (d.kindN (a + m)) ≤ 2000 := by unfold GDisk.swHi; split <;> (try split) <;> omega
            have g1 : 0 < d.kindN (a + m) → Ret E0 F_ref01_Gap [diskD d, .int .i64 (d.kindN (a + m)), .int .i64 (d.swLo (d.kindN (a + m)))] (.int .i64 (d.gapK (d.kindN (a + m)) (d.swLo (d.kindN (a + m))))) := fun hh => ref01_Gap_ret d g _ _ (by omega) hlo
            have g2 : 0 < d.kindN (a + m) → Ret E0 F_ref01_Gap [diskD d, .int .i64 (d.kindN (a + m)), .int .i64 (d.swHi (d.kindN (a + m)))] (.int .i64 (d.gapK (d.kindN (a + m)) (d.swHi (d.kindN (a + m))))) := fun hh => ref01_Gap_ret d g _ _ (by omega) hhi
            have gb1 := gapK_bound g (d.kindN (a + m)) _ hlo
            have gb2 := gapK_bound g (d.kindN (a + m)) _ hhi
            generalize d.kinds a (c.toNat - 1) = L at *
            have hL3 : m - 1 < (L.length : Int) := by omega
            have hL4 : 0 ≤ m - 1 := by omega
            generalize d.swLo (d.kindN (a + m)) = vl at *
            generalize d.swHi (d.kindN (a + m)) = vh at *
            generalize d.kindN (a + m) = e at *
            generalize d.low a c.toNat = l3 at *
            generalize d.high a c.toNat = h3 at *
            generalize d.low a m.toNat = l1 at *
            generalize d.high a m.toNat = h1 at *
            generalize d.low (a + m) (c - m).toNat = l2 at *
            generalize d.high (a + m) (c - m).toNat = h2 at *
            generalize (d.nar p q).low a c.toNat = l4 at *
            generalize (d.nar p q).high a c.toNat = h4 at *
            generalize d.gapK e vl = u1 at *
            generalize d.gapK e vh = u2 at *
            have w1 : IntKind.i64.wrap (a + m) = a + m := wrapI _ (by omega)
            have w2 : IntKind.i64.wrap (c - m) = c - m := wrapI _ (by omega)
            have w3 : IntKind.i64.wrap (m - 1) = m - 1 := wrapI _ (by omega)
            have w4 : IntKind.i64.wrap (l1 + l2) = l1 + l2 := wrapI _ (by omega)
            have w5 : IntKind.i64.wrap (h1 + h2) = h1 + h2 := wrapI _ (by omega)
            have z1 : ¬ l3 ≤ l1 := by split at lc <;> omega
            have z2 : ¬ h3 ≤ h2 := by split at hc <;> omega
            have z3 := hn1.1
            have z4 := hn1.2
            rw [GDisk.nar, diskD_eq, diskC_eq] at c6
            by_cases he : 0 < e
            · rw [if_pos he] at lc hc
              have w6 : IntKind.i64.wrap (l1 + l2 + u1) = l3 := by rw [lc]; exact wrapI _ (by omega)
              have w7 : IntKind.i64.wrap (h1 + h2 + u2) = h3 := by rw [hc]; exact wrapI _ (by omega)
              have g1 := g1 he
              have g2 := g2 he
              (try (simp -implicitDefEqProofs only [go_sem, diskD_eq, diskC_eq, GDisk.cp, m1, m2, p1, p2, q1, q2, w1, w2, w3, w4, w5, w6, w7, hL2, hL3, hL4, he, z1, z2, z3, z4])); repeat' first | with_reducible exact True.intro | with_reducible refine And.intro ?_ ?_ | with_reducible intro _ | (((with_reducible refine isCall ?_); first | refine call_b (c0) rfl ?_ ?_ | refine call_d (c0) rfl ?_ | refine call_sb (c0) rfl ?_ ?_ | refine call_s (c0) rfl rfl ?_ | refine call_b (cw) rfl ?_ ?_ | refine call_d (cw) rfl ?_ | refine call_sb (cw) rfl ?_ ?_ | refine call_s (cw) rfl rfl ?_ | refine call_b (c1) rfl ?_ ?_ | refine call_d (c1) rfl ?_ | refine call_sb (c1) rfl ?_ ?_ | refine call_s (c1) rfl rfl ?_ | refine call_b (s1) rfl ?_ ?_ | refine call_d (s1) rfl ?_ | refine call_sb (s1) rfl ?_ ?_ | refine call_s (s1) rfl rfl ?_ | refine call_b (s2) rfl ?_ ?_ | refine call_d (s2) rfl ?_ | refine call_sb (s2) rfl ?_ ?_ | refine call_s (s2) rfl rfl ?_ | refine call_b (s3) rfl ?_ ?_ | refine call_d (s3) rfl ?_ | refine call_sb (s3) rfl ?_ ?_ | refine call_s (s3) rfl rfl ?_ | refine call_b (c3) rfl ?_ ?_ | refine call_d (c3) rfl ?_ | refine call_sb (c3) rfl ?_ ?_ | refine call_s (c3) rfl rfl ?_ | refine call_b (c4) rfl ?_ ?_ | refine call_d (c4) rfl ?_ | refine call_sb (c4) rfl ?_ ?_ | refine call_s (c4) rfl rfl ?_ | refine call_b (g1) rfl ?_ ?_ | refine call_d (g1) rfl ?_ | refine call_sb (g1) rfl ?_ ?_ | refine call_s (g1) rfl rfl ?_ | refine call_b (g2) rfl ?_ ?_ | refine call_d (g2) rfl ?_ | refine call_sb (g2) rfl ?_ ?_ | refine call_s (g2) rfl rfl ?_ | refine call_b (c6) rfl ?_ ?_ | refine call_d (c6) rfl ?_ | refine call_sb (c6) rfl ?_ ?_ | refine call_s (c6) rfl rfl ?_ | refine call_b (c7) rfl ?_ ?_ | refine call_d (c7) rfl ?_ | refine call_sb (c7) rfl ?_ ?_ | refine call_s (c7) rfl rfl ?_ | refine call_b (c8) rfl ?_ ?_ | refine call_d (c8) rfl ?_ | refine call_sb (c8) rfl ?_ ?_ | refine call_s (c8) rfl rfl ?_ | refine call_b (c9) rfl ?_ ?_ | refine call_d (c9) rfl ?_ | refine call_sb (c9) rfl ?_ ?_ | refine call_s (c9) rfl rfl ?_) <;> try (simp -implicitDefEqProofs only [go_sem, diskD_eq, diskC_eq, GDisk.cp, m1, m2, p1, p2, q1, q2, w1, w2, w3, w4, w5, w6, w7, hL2, hL3, hL4, he, z1, z2, z3, z4])) | (((with_reducible refine vc_b ?_ ?_) <;> intro _) <;> try (simp -implicitDefEqProofs only [go_sem, diskD_eq, diskC_eq, GDisk.cp, m1, m2, p1, p2, q1, q2, w1, w2, w3, w4, w5, w6, w7, hL2, hL3, hL4, he, z1, z2, z3, z4])) | simp (disch := omega) only [wrapI, wrapU, shl1, shl1', shl1'', shrN, shrN', and_one] 
              all_goals omega
            · rw [if_neg he] at lc hc
              have w6 : IntKind.i64.wrap (l1 + l2 + 0) = l3 := by rw [lc]; exact wrapI _ (by omega)
              have w7 : IntKind.i64.wrap (h1 + h2 + 0) = h3 := by rw [hc]; exact wrapI _ (by omega)
              (try (simp -implicitDefEqProofs only [go_sem, diskD_eq, diskC_eq, GDisk.cp, m1, m2, p1, p2, q1, q2, w1, w2, w3, w4, w5, w6, w7, hL2, hL3, hL4, he, z1, z2, z3, z4])); repeat' first | with_reducible exact True.intro | with_reducible refine And.intro ?_ ?_ | with_reducible intro _ | (((with_reducible refine isCall ?_); first | refine call_b (c0) rfl ?_ ?_ | refine call_d (c0) rfl ?_ | refine call_sb (c0) rfl ?_ ?_ | refine call_s (c0) rfl rfl ?_ | refine call_b (cw) rfl ?_ ?_ | refine call_d (cw) rfl ?_ | refine call_sb (cw) rfl ?_ ?_ | refine call_s (cw) rfl rfl ?_ | refine call_b (c1) rfl ?_ ?_ | refine call_d (c1) rfl ?_ | refine call_sb (c1) rfl ?_ ?_ | refine call_s (c1) rfl rfl ?_ | refine call_b (s1) rfl ?_ ?_ | refine call_d (s1) rfl ?_ | refine call_sb (s1) rfl ?_ ?_ | refine call_s (s1) rfl rfl ?_ | refine call_b (s2) rfl ?_ ?_ | refine call_d (s2) rfl ?_ | refine call_sb (s2) rfl ?_ ?_ | refine call_s (s2) rfl rfl ?_ | refine call_b (s3) rfl ?_ ?_ | refine call_d (s3) rfl ?_ | refine call_sb (s3) rfl ?_ ?_ | refine call_s (s3) rfl rfl ?_ | refine call_b (c3) rfl ?_ ?_ | refine call_d (c3) rfl ?_ | refine call_sb (c3) rfl ?_ ?_ | refine call_s (c3) rfl rfl ?_ | refine call_b (c4) rfl ?_ ?_ | refine call_d (c4) rfl ?_ | refine call_sb (c4) rfl ?_ ?_ | refine call_s (c4) rfl rfl ?_ | refine call_b (c6) rfl ?_ ?_ | refine call_d (c6) rfl ?_ | refine call_sb (c6) rfl ?_ ?_ | refine call_s (c6) rfl rfl ?_ | refine call_b (c7) rfl ?_ ?_ | refine call_d (c7) rfl ?_ | refine call_sb (c7) rfl ?_ ?_ | refine call_s (c7) rfl rfl ?_ | refine call_b (c8) rfl ?_ ?_ | refine call_d (c8) rfl ?_ | refine call_sb (c8) rfl ?_ ?_ | refine call_s (c8) rfl rfl ?_ | refine call_b (c9) rfl ?_ ?_ | refine call_d (c9) rfl ?_ | refine call_sb (c9) rfl ?_ ?_ | refine call_s (c9) rfl rfl ?_) <;> try (simp -implicitDefEqProofs only [go_sem, diskD_eq, diskC_eq, GDisk.cp, m1, m2, p1, p2, q1, q2, w1, w2, w3, w4, w5, w6, w7, hL2, hL3, hL4, he, z1, z2, z3, z4])) | (((with_reducible refine vc_b ?_ ?_) <;> intro _) <;> try (simp -implicitDefEqProofs only [go_sem, diskD_eq, diskC_eq, GDisk.cp, m1, m2, p1, p2, q1, q2, w1, w2, w3, w4, w5, w6, w7, hL2, hL3, hL4, he, z1, z2, z3, z4])) | simp (disch := omega) only [wrapI, wrapU, shl1, shl1', shl1'', shrN, shrN', and_one] 
              all_goals omega
          · by_cases q1 : q < 0
            · (try (simp -implicitDefEqProofs only [go_sem, diskD_eq, diskC_eq, m1, m2, p1, p2, q1])); repeat' first | with_reducible exact True.intro | with_reducible refine And.intro ?_ ?_ | with_reducible intro _ | (((with_reducible refine isCall ?_); first | refine call_b (c0) rfl ?_ ?_ | refine call_d (c0) rfl ?_ | refine call_sb (c0) rfl ?_ ?_ | refine call_s (c0) rfl rfl ?_ | refine call_b (cw) rfl ?_ ?_ | refine call_d (cw) rfl ?_ | refine call_sb (cw) rfl ?_ ?_ | refine call_s (cw) rfl rfl ?_ | refine call_b (c1) rfl ?_ ?_ | refine call_d (c1) rfl ?_ | refine call_sb (c1) rfl ?_ ?_ | refine call_s (c1) rfl rfl ?_) <;> try (simp -implicitDefEqProofs only [go_sem, diskD_eq, diskC_eq, m1, m2, p1, p2, q1])) | (((with_reducible refine vc_b ?_ ?_) <;> intro _) <;> try (simp -implicitDefEqProofs only [go_sem, diskD_eq, diskC_eq, m1, m2, p1, p2, q1])) | simp (disch := omega) only [wrapI, wrapU, shl1, shl1', shl1'', shrN, shrN', and_one] 
            · have q2 : 2000 < q := by omega
              (try (simp -implicitDefEqProofs only [go_sem, diskD_eq, diskC_eq, m1, m2, p1, p2, q1, q2])); repeat' first | with_reducible exact True.intro | with_reducible refine And.intro ?_ ?_ | with_reducible intro _ | (((with_reducible refine isCall ?_); first | refine call_b (c0) rfl ?_ ?_ | refine call_d (c0) rfl ?_ | refine call_sb (c0) rfl ?_ ?_ | refine call_s (c0) rfl rfl ?_ | refine call_b (cw) rfl ?_ ?_ | refine call_d (cw) rfl ?_ | refine call_sb (cw) rfl ?_ ?_ | refine call_s (cw) rfl rfl ?_ | refine call_b (c1) rfl ?_ ?_ | refine call_d (c1) rfl ?_ | refine call_sb (c1) rfl ?_ ?_ | refine call_s (c1) rfl rfl ?_) <;> try (simp -implicitDefEqProofs only [go_sem, diskD_eq, diskC_eq, m1, m2, p1, p2, q1, q2])) | (((with_reducible refine vc_b ?_ ?_) <;> intro _) <;> try (simp -implicitDefEqProofs only [go_sem, diskD_eq, diskC_eq, m1, m2, p1, p2, q1, q2])) | simp (disch := omega) only [wrapI, wrapU, shl1, shl1', shl1'', shrN, shrN', and_one] 
        · by_cases p1 : p < 0
          · (try (simp -implicitDefEqProofs only [go_sem, diskD_eq, diskC_eq, m1, m2, p1])); repeat' first | with_reducible exact True.intro | with_reducible refine And.intro ?_ ?_ | with_reducible intro _ | (((with_reducible refine isCall ?_); first | refine call_b (c0) rfl ?_ ?_ | refine call_d (c0) rfl ?_ | refine call_sb (c0) rfl ?_ ?_ | refine call_s (c0) rfl rfl ?_ | refine call_b (cw) rfl ?_ ?_ | refine call_d (cw) rfl ?_ | refine call_sb (cw) rfl ?_ ?_ | refine call_s (cw) rfl rfl ?_ | refine call_b (c1) rfl ?_ ?_ | refine call_d (c1) rfl ?_ | refine call_sb (c1) rfl ?_ ?_ | refine call_s (c1) rfl rfl ?_) <;> try (simp -implicitDefEqProofs only [go_sem, diskD_eq, diskC_eq, m1, m2, p1])) | (((with_reducible refine vc_b ?_ ?_) <;> intro _) <;> try (simp -implicitDefEqProofs only [go_sem, diskD_eq, diskC_eq, m1, m2, p1])) | simp (disch := omega) only [wrapI, wrapU, shl1, shl1', shl1'', shrN, shrN', and_one] 
          · have p2 : 2000 < p := by omega
            (try (simp -implicitDefEqProofs only [go_sem, diskD_eq, diskC_eq, m1, m2, p1, p2])); repeat' first | with_reducible exact True.intro | with_reducible refine And.intro ?_ ?_ | with_reducible intro _ | (((with_reducible refine isCall ?_); first | refine call_b (c0) rfl ?_ ?_ | refine call_d (c0) rfl ?_ | refine call_sb (c0) rfl ?_ ?_ | refine call_s (c0) rfl rfl ?_ | refine call_b (cw) rfl ?_ ?_ | refine call_d (cw) rfl ?_ | refine call_sb (cw) rfl ?_ ?_ | refine call_s (cw) rfl rfl ?_ | refine call_b (c1) rfl ?_ ?_ | refine call_d (c1) rfl ?_ | refine call_sb (c1) rfl ?_ ?_ | refine call_s (c1) rfl rfl ?_) <;> try (simp -implicitDefEqProofs only [go_sem, diskD_eq, diskC_eq, m1, m2, p1, p2])) | (((with_reducible refine vc_b ?_ ?_) <;> intro _) <;> try (simp -implicitDefEqProofs only [go_sem, diskD_eq, diskC_eq, m1, m2, p1, p2])) | simp (disch := omega) only [wrapI, wrapU, shl1, shl1', shl1'', shrN, shrN', and_one] 
      · by_cases m1 : m < 1
        · (try (simp -implicitDefEqProofs only [go_sem, diskD_eq, diskC_eq, m1])); repeat' first | with_reducible exact True.intro | with_reducible refine And.intro ?_ ?_ | with_reducible intro _ | (((with_reducible refine isCall ?_); first | refine call_b (c0) rfl ?_ ?_ | refine call_d (c0) rfl ?_ | refine call_sb (c0) rfl ?_ ?_ | refine call_s (c0) rfl rfl ?_ | refine call_b (cw) rfl ?_ ?_ | refine call_d (cw) rfl ?_ | refine call_sb (cw) rfl ?_ ?_ | refine call_s (cw) rfl rfl ?_ | refine call_b (c1) rfl ?_ ?_ | refine call_d (c1) rfl ?_ | refine call_sb (c1) rfl ?_ ?_ | refine call_s (c1) rfl rfl ?_) <;> try (simp -implicitDefEqProofs only [go_sem, diskD_eq, diskC_eq, m1])) | (((with_reducible refine vc_b ?_ ?_) <;> intro _) <;> try (simp -implicitDefEqProofs only [go_sem, diskD_eq, diskC_eq, m1])) | simp (disch := omega) only [wrapI, wrapU, shl1, shl1', shl1'', shrN, shrN', and_one] 
        · have m2 : c ≤ m := by omega
          (try (simp -implicitDefEqProofs only [go_sem, diskD_eq, diskC_eq, m1, m2])); repeat' first | with_reducible exact True.intro | with_reducible refine And.intro ?_ ?_ | with_reducible intro _ | (((with_reducible refine isCall ?_); first | refine call_b (c0) rfl ?_ ?_ | refine call_d (c0) rfl ?_ | refine call_sb (c0) rfl ?_ ?_ | refine call_s (c0) rfl rfl ?_ | refine call_b (cw) rfl ?_ ?_ | refine call_d (cw) rfl ?_ | refine call_sb (cw) rfl ?_ ?_ | refine call_s (cw) rfl rfl ?_ | refine call_b (c1) rfl ?_ ?_ | refine call_d (c1) rfl ?_ | refine call_sb (c1) rfl ?_ ?_ | refine call_s (c1) rfl rfl ?_) <;> try (simp -implicitDefEqProofs only [go_sem, diskD_eq, diskC_eq, m1, m2])) | (((with_reducible refine vc_b ?_ ?_) <;> intro _) <;> try (simp -implicitDefEqProofs only [go_sem, diskD_eq, diskC_eq, m1, m2])) | simp (disch := omega) only [wrapI, wrapU, shl1, shl1', shl1'', shrN, shrN', and_one] 
    · rw [decide_eq_false hr] at c1
      (try (simp -implicitDefEqProofs only [go_sem, diskD_eq, diskC_eq])); repeat' first | with_reducible exact True.intro | with_reducible refine And.intro ?_ ?_ | with_reducible intro _ | (((with_reducible refine isCall ?_); first | refine call_b (c0) rfl ?_ ?_ | refine call_d (c0) rfl ?_ | refine call_sb (c0) rfl ?_ ?_ | refine call_s (c0) rfl rfl ?_ | refine call_b (cw) rfl ?_ ?_ | refine call_d (cw) rfl ?_ | refine call_sb (cw) rfl ?_ ?_ | refine call_s (cw) rfl rfl ?_ | refine call_b (c1) rfl ?_ ?_ | refine call_d (c1) rfl ?_ | refine call_sb (c1) rfl ?_ ?_ | refine call_s (c1) rfl rfl ?_) <;> try (simp -implicitDefEqProofs only [go_sem, diskD_eq, diskC_eq])) | (((with_reducible refine vc_b ?_ ?_) <;> intro _) <;> try (simp -implicitDefEqProofs only [go_sem, diskD_eq, diskC_eq])) | simp (disch := omega) only [wrapI, wrapU, shl1, shl1', shl1'', shrN, shrN', and_one] 
end Go.Pw
