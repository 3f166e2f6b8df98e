/- A part of the proof. -/
import Derived.Test.YtiphmemigdplgaaDoorJzF
import Derived.Test.YtiphmemigdplgaaDoorZonesSpec4
set_option linter.all false
open Go Go.Pw Go.Proofs
namespace Go.Pw
set_option linter.unusedSimpArgs false
set_option linter.unusedVariables false
set_option maxRecDepth 100000
set_option maxHeartbeats 1600000
attribute [local congr] cg_pw cg_seqI cg_seqE cg_stepI cg_ev cg_evBin cg_condB cg_condV cg_thenQ cg_blockQ cg_onSome cg_onCells cg_onRow cg_onMap cg_onOpt cg_ghosts cg_ghost cg_evCall cg_part cg_rng cg_guardV cg_frzV cg_frpV cg_ownV cg_owcV cg_occV cg_occX cg_resK cg_res1 cg_yldP cg_rndE cg_onlyN cg_onHist
attribute [local irreducible] IntKind.wrap bitsOp Option.getD and or

theorem ref01_Cylinders_ret (d : GDisk) (h : d.ok = true) : Ret E0 F_ref01_Cylinders [diskD d] (.int .i64 d.cyls) := by
  have g := good_of h
  refine ret_of_pw dec_ref01_Cylinders mixed (by simp) fun hwf => ?_
  have z2 := g.z2
  rw [enter_eq]; unfold pc_ref01_Cylinders
  (try (simp -implicitDefEqProofs only [go_sem, diskD_eq, diskC_eq])); repeat' first | with_reducible exact True.intro | with_reducible refine And.intro ?_ ?_ | with_reducible intro _ | (((with_reducible refine vc_b ?_ ?_) <;> intro _) <;> try (simp -implicitDefEqProofs only [go_sem, diskD_eq, diskC_eq])) | simp (disch := omega) only [wrapI, wrapU, shl1, shl1', shl1'', shrN, shrN', and_one] | ((with_reducible refine isEx2 ?_); refine ⟨(_, _), rfl, ?_, ?_⟩)
  all_goals first | omega | (simp; done) | (simp; omega) | skip
  refine pw_loopS (α := Int × Int) (l0 := ?l1) (m0 := ?m1) (fun x => [(4, .d (.int .i64 x.1)), (3, .d (.int .i64 x.2))]) (fun x => []) (fun x => (0 ≤ x.1 ∧ x.1 ≤ d.zones.length) ∧ x.2 = d.base x.1.toNat) (fun x => (d.zones.length - x.1).toNat) (?a1_0, ?a1_1) ?h01 ?he1 ?he21 ?hI1 ?step1
  case h01 => (simp -implicitDefEqProofs only [go_sem, diskC_eq, zpsD_len]; rfl)
  case he1 => rfl
  case he21 => rfl
  case' step1 => (rintro ⟨i, n⟩ hI; try dsimp only at hI)
  case' hI1 => try dsimp only
  · exact ⟨⟨by omega, by omega⟩, by simp [GDisk.base]⟩
  · obtain ⟨⟨h1, h2⟩, h3⟩ := hI
    have hb := g.base i.toNat (by omega)
    by_cases hi : i < d.zones.length
    · have hz := g.z i.toNat (by omega)
      obtain ⟨z, hze⟩ : ∃ z, d.zones[i.toNat]?.getD default = z := ⟨_, rfl⟩
      rw [hze] at hz
      have hn : d.base (i + 1).toNat = d.base i.toNat + z.1.toNat := by rw [show (i + 1).toNat = i.toNat + 1 by omega, GDisk.base, hze]
      have w1 : IntKind.i64.wrap (i + 1) = i + 1 := wrapI _ (by omega)
      have w2 : IntKind.i64.wrap (n + z.1) = n + z.1 := wrapI _ (by omega)
      (try (simp -implicitDefEqProofs only [go_sem, diskC_eq, zpsD_len, onSome_zps, hze, zpD_eq, zpsD_unif, w1, w2])); repeat' first | with_reducible exact True.intro | with_reducible refine And.intro ?_ ?_ | with_reducible intro _ | (((with_reducible refine vc_b ?_ ?_) <;> intro _) <;> try (simp -implicitDefEqProofs only [go_sem, diskC_eq, zpsD_len, onSome_zps, hze, zpD_eq, zpsD_unif, w1, w2])) | simp (disch := omega) only [wrapI, wrapU, shl1, shl1', shl1'', shrN, shrN', and_one] | ((with_reducible refine isEx2 ?_); refine ⟨(_, _), rfl, ?_, ?_⟩)
      all_goals first | omega | (simp; done) | (simp; omega) | skip
    · have hie : i = d.zones.length := by omega
      have hn : n = d.cyls := by rw [h3, hie, ← base_len]; simp
      (try (simp -implicitDefEqProofs only [go_sem, diskC_eq, zpsD_len, hi])); repeat' first | with_reducible exact True.intro | with_reducible refine And.intro ?_ ?_ | with_reducible intro _ | (((with_reducible refine vc_b ?_ ?_) <;> intro _) <;> try (simp -implicitDefEqProofs only [go_sem, diskC_eq, zpsD_len, hi])) | simp (disch := omega) only [wrapI, wrapU, shl1, shl1', shl1'', shrN, shrN', and_one] | ((with_reducible refine isEx2 ?_); refine ⟨(_, _), rfl, ?_, ?_⟩)
      all_goals first | omega | (simp; done) | (simp; omega) | skip

theorem ref01_Count_ret (d : GDisk) (h : d.ok = true) : Ret E0 F_ref01_Count [diskD d] (.int .i64 d.size) := by
  have g := good_of h
  refine ret_of_pw dec_ref01_Count mixed (by simp) fun hwf => ?_
  have z2 := g.z2; have g1 := g.h1; have g2 := g.h2
  have hH := g.hn
  rw [enter_eq]; unfold pc_ref01_Count
  (try (simp -implicitDefEqProofs only [go_sem, diskD_eq, diskC_eq])); repeat' first | with_reducible exact True.intro | with_reducible refine And.intro ?_ ?_ | with_reducible intro _ | (((with_reducible refine vc_b ?_ ?_) <;> intro _) <;> try (simp -implicitDefEqProofs only [go_sem, diskD_eq, diskC_eq])) | simp (disch := omega) only [wrapI, wrapU, shl1, shl1', shl1'', shrN, shrN', and_one] | ((with_reducible refine isEx2 ?_); refine ⟨(_, _), rfl, ?_, ?_⟩)
  all_goals first | omega | (simp; done) | (simp; omega) | skip
  refine pw_loopS (α := Int × Int) (l0 := ?l2) (m0 := ?m2) (fun x => [(4, .d (.int .i64 x.1)), (3, .d (.int .i64 x.2))]) (fun x => []) (fun x => (0 ≤ x.1 ∧ x.1 ≤ d.zones.length) ∧ x.2 = d.tf (d.base x.1.toNat * d.heads.toNat)) (fun x => (d.zones.length - x.1).toNat) (?a2_0, ?a2_1) ?h02 ?he2 ?he22 ?hI2 ?step2
  case h02 => (simp -implicitDefEqProofs only [go_sem, diskC_eq, zpsD_len]; rfl)
  case he2 => rfl
  case he22 => rfl
  case' step2 => (rintro ⟨i, n⟩ hI; try dsimp only at hI)
  case' hI2 => try dsimp only
  · exact ⟨⟨by omega, by omega⟩, by simp [GDisk.base, GDisk.tf]⟩
  · obtain ⟨⟨h1, h2⟩, h3⟩ := hI
    by_cases hi : i < d.zones.length
    · have hz := g.z i.toNat (by omega)
      have htf := tf_zone (d := d) (i := i.toNat) (by omega) (d.zones[i.toNat]?.getD default).1.toNat (Nat.le_refl _)
      have hnt : d.base i.toNat * d.heads.toNat ≤ d.nt := by
        have := base_le d i.toNat d.zones.length (by omega)
        rw [base_len] at this
        exact Nat.mul_le_mul_right _ this
      have hb := g.tf _ hnt
      have hn1 := g.nt
      obtain ⟨z, hze⟩ : ∃ z, d.zones[i.toNat]?.getD default = z := ⟨_, rfl⟩
      rw [hze] at hz htf
      have hn : d.base (i + 1).toNat = d.base i.toNat + z.1.toNat := by rw [show (i + 1).toNat = i.toNat + 1 by omega, GDisk.base, hze]
      rw [← hn, ← h3, show ((z.1.toNat : Nat) : Int) = z.1 by omega, hH, ← Int.mul_assoc] at htf
      have m1 : 0 ≤ z.1 * z.2 ∧ z.1 * z.2 ≤ 20 * 16 := ⟨Int.mul_nonneg (by omega) (by omega), Int.mul_le_mul (by omega) (by omega) (by omega) (by omega)⟩
      have m2 : 0 ≤ z.1 * z.2 * d.heads ∧ z.1 * z.2 * d.heads ≤ 20 * 16 * 4 := ⟨Int.mul_nonneg (by omega) (by omega), Int.mul_le_mul (by omega) (by omega) (by omega) (by omega)⟩
      have w1 : IntKind.i64.wrap (i + 1) = i + 1 := wrapI _ (by omega)
      have w2 : IntKind.i64.wrap (z.1 * z.2) = z.1 * z.2 := wrapI _ (by omega)
      have w3 : IntKind.i64.wrap (z.1 * z.2 * d.heads) = z.1 * z.2 * d.heads := wrapI _ (by omega)
      have w4 : IntKind.i64.wrap (n + z.1 * z.2 * d.heads) = n + z.1 * z.2 * d.heads := wrapI _ (by omega)
      (try (simp -implicitDefEqProofs only [go_sem, diskC_eq, zpsD_len, onSome_zps, hze, zpD_eq, zpsD_unif, w1, w2, w3, w4])); repeat' first | with_reducible exact True.intro | with_reducible refine And.intro ?_ ?_ | with_reducible intro _ | (((with_reducible refine vc_b ?_ ?_) <;> intro _) <;> try (simp -implicitDefEqProofs only [go_sem, diskC_eq, zpsD_len, onSome_zps, hze, zpD_eq, zpsD_unif, w1, w2, w3, w4])) | simp (disch := omega) only [wrapI, wrapU, shl1, shl1', shl1'', shrN, shrN', and_one] | ((with_reducible refine isEx2 ?_); refine ⟨(_, _), rfl, ?_, ?_⟩)
      all_goals first | omega | (simp; done) | (simp; omega) | skip
    · have hie : i = d.zones.length := by omega
      have hn : n = d.size := by rw [h3, hie, GDisk.size, GDisk.nt, ← base_len]; simp
      (try (simp -implicitDefEqProofs only [go_sem, diskC_eq, zpsD_len, hi])); repeat' first | with_reducible exact True.intro | with_reducible refine And.intro ?_ ?_ | with_reducible intro _ | (((with_reducible refine vc_b ?_ ?_) <;> intro _) <;> try (simp -implicitDefEqProofs only [go_sem, diskC_eq, zpsD_len, hi])) | simp (disch := omega) only [wrapI, wrapU, shl1, shl1', shl1'', shrN, shrN', and_one] | ((with_reducible refine isEx2 ?_); refine ⟨(_, _), rfl, ?_, ?_⟩)
      all_goals first | omega | (simp; done) | (simp; omega) | skip

theorem ref01_ZoneOf_ret (d : GDisk) (h : d.ok = true) (c : Int) (k : Nat) (hk : k < d.zones.length) (h1 : (d.base k : Int) ≤ c) (h2 : c < d.base (k + 1)) : Ret E0 F_ref01_ZoneOf [diskD d, .int .i64 c] (.int .i64 k) := by
  have g := good_of h
  refine ret_of_pw dec_ref01_ZoneOf mixed (by simp) fun hwf => ?_
  have z2 := g.z2
  have hbk := g.base (k + 1) (by omega)
  rw [enter_eq]; unfold pc_ref01_ZoneOf
  (try (simp -implicitDefEqProofs only [go_sem, diskD_eq, diskC_eq])); repeat' first | with_reducible exact True.intro | with_reducible refine And.intro ?_ ?_ | with_reducible intro _ | (((with_reducible refine vc_b ?_ ?_) <;> intro _) <;> try (simp -implicitDefEqProofs only [go_sem, diskD_eq, diskC_eq])) | simp (disch := omega) only [wrapI, wrapU, shl1, shl1', shl1'', shrN, shrN', and_one] | ((with_reducible refine isEx2 ?_); refine ⟨(_, _), rfl, ?_, ?_⟩)
  all_goals first | omega | (simp; done) | (simp; omega) | skip
  refine pw_loopS (α := Int × Int) (l0 := ?l3) (m0 := ?m3) (fun x => [(5, .d (.int .i64 x.1)), (1, .d (.int .i64 x.2))]) (fun x => []) (fun x => (0 ≤ x.1 ∧ x.1 ≤ k) ∧ x.2 = c - d.base x.1.toNat) (fun x => (d.zones.length - x.1).toNat) (?a3_0, ?a3_1) ?h03 ?he3 ?he23 ?hI3 ?step3
  case h03 => (simp -implicitDefEqProofs only [go_sem, diskC_eq, zpsD_len]; rfl)
  case he3 => rfl
  case he23 => rfl
  case' step3 => (rintro ⟨i, q⟩ hI; try dsimp only at hI)
  case' hI3 => try dsimp only
  · exact ⟨⟨by omega, by omega⟩, by simp [GDisk.base]⟩
  · obtain ⟨⟨q1, q2⟩, q3⟩ := hI
    have hi : i < d.zones.length := by omega
    have hb0 := base_le d i.toNat k (by omega)
    have hz := g.z i.toNat (by omega)
    obtain ⟨z, hze⟩ : ∃ z, d.zones[i.toNat]?.getD default = z := ⟨_, rfl⟩
    rw [hze] at hz
    have hn : d.base (i + 1).toNat = d.base i.toNat + z.1.toNat := by rw [show (i + 1).toNat = i.toNat + 1 by omega, GDisk.base, hze]
    have w1 : IntKind.i64.wrap (i + 1) = i + 1 := wrapI _ (by omega)
    have w2 : IntKind.i64.wrap (q - z.1) = q - z.1 := wrapI _ (by omega)
    by_cases hq : q < z.1
    · have hik : i = k := by
        rcases Int.lt_or_le i k with h5 | h5
        · have := base_le d (i + 1).toNat k (by omega); omega
        · omega
      (try (simp -implicitDefEqProofs only [go_sem, diskC_eq, zpsD_len, onSome_zps, hze, zpD_eq, zpsD_unif, hq])); repeat' first | with_reducible exact True.intro | with_reducible refine And.intro ?_ ?_ | with_reducible intro _ | (((with_reducible refine vc_b ?_ ?_) <;> intro _) <;> try (simp -implicitDefEqProofs only [go_sem, diskC_eq, zpsD_len, onSome_zps, hze, zpD_eq, zpsD_unif, hq])) | simp (disch := omega) only [wrapI, wrapU, shl1, shl1', shl1'', shrN, shrN', and_one] | ((with_reducible refine isEx2 ?_); refine ⟨(_, _), rfl, ?_, ?_⟩)
      all_goals first | omega | (simp; done) | (simp; omega) | skip
    · have hik : i < k := by
        rcases Int.lt_or_le i k with h5 | h5
        · exact h5
        · have : (i + 1).toNat = k + 1 := by omega
          rw [this] at hn; omega
      (try (simp -implicitDefEqProofs only [go_sem, diskC_eq, zpsD_len, onSome_zps, hze, zpD_eq, zpsD_unif, hq, w1, w2])); repeat' first | with_reducible exact True.intro | with_reducible refine And.intro ?_ ?_ | with_reducible intro _ | (((with_reducible refine vc_b ?_ ?_) <;> intro _) <;> try (simp -implicitDefEqProofs only [go_sem, diskC_eq, zpsD_len, onSome_zps, hze, zpD_eq, zpsD_unif, hq, w1, w2])) | simp (disch := omega) only [wrapI, wrapU, shl1, shl1', shl1'', shrN, shrN', and_one] | ((with_reducible refine isEx2 ?_); refine ⟨(_, _), rfl, ?_, ?_⟩)
      all_goals first | omega | (simp; done) | (simp; omega) | skip

theorem ref01_Sectors_ret (d : GDisk) (h : d.ok = true) (c : Int) (h1 : 0 ≤ c) (h2 : c < d.cyls) : Ret E0 F_ref01_Sectors [diskD d, .int .i64 c] (.int .i64 (d.secs[c.toNat]?.getD 0)) := by
  have g := good_of h
  obtain ⟨k, hk, k1, k2⟩ := zone_of (d := d) c.toNat d.zones.length (Nat.le_refl _) (by rw [base_len]; omega)
  rw [secs_zone hk k1 k2]
  have c1 := ref01_ZoneOf_ret d h c k hk (by omega) (by omega)
  refine ret_of_pw dec_ref01_Sectors mixed (by simp) fun hwf => ?_
  have z2 := g.z2
  obtain ⟨z, hze⟩ : ∃ z, d.zones[k]?.getD default = z := ⟨_, rfl⟩
  rw [hze, enter_eq]; unfold pc_ref01_Sectors
  have hkk : (k : Int) < d.zones.length := by omega
  (try (simp -implicitDefEqProofs only [go_sem, diskD_eq, diskC_eq, zpsD_len, onSome_zps, hze, zpD_eq, zpsD_unif])); repeat' first | with_reducible exact True.intro | with_reducible refine And.intro ?_ ?_ | with_reducible intro _ | (((with_reducible refine isCall ?_); first | refine call_b (c1) rfl ?_ ?_ | refine call_d (c1) rfl ?_ | refine call_sb (c1) rfl ?_ ?_ | refine call_s (c1) rfl rfl ?_) <;> try (simp -implicitDefEqProofs only [go_sem, diskD_eq, diskC_eq, zpsD_len, onSome_zps, hze, zpD_eq, zpsD_unif])) | (((with_reducible refine vc_b ?_ ?_) <;> intro _) <;> try (simp -implicitDefEqProofs only [go_sem, diskD_eq, diskC_eq, zpsD_len, onSome_zps, hze, zpD_eq, zpsD_unif])) | simp (disch := omega) only [wrapI, wrapU, shl1, shl1', shl1'', shrN, shrN', and_one] 
  all_goals first | omega | (simp; done) | (simp; omega) | skip

end Go.Pw
