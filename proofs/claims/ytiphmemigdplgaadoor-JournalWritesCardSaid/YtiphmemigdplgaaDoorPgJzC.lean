/- A part of the proof. -/
import Derived.Test.YtiphmemigdplgaaDoorPgJzA
import Derived.Test.YtiphmemigdplgaaDoorPwYa
import Derived.Test.YtiphmemigdplgaaDoorPgZonesSpec
set_option linter.all false
section
open Go Go.Pw Go.Proofs
namespace Go.Pw
set_option linter.unusedSimpArgs false
set_option linter.unusedVariables false
set_option maxRecDepth 100000
set_option maxHeartbeats 1600000

theorem seqQ_ret {E : Env} {rs o els s} : seqQ E rs o els .ret s = (resK E s rs (fun _ => True) ∧ histEnd els (s.V.ob o)) := rfl
theorem seqQ_normal {E : Env} {rs o els s} : seqQ E rs o els .normal s = (resK E s rs (fun _ => True) ∧ histEnd els (s.V.ob o)) := rfl
theorem histEnd_some {els g e n st} : histEnd els (some (g, .hist e n st)) = (e = els ∧ (st = true ∨ n = els.length)) := rfl

/-- Where the loops over the cylinders stand. -/
structure TrackAt (d : GDisk) (i j n : Nat) : Prop where
  hi : i < d.zones.length
  hj : j < (d.zones[i]?.getD default).1.toNat
  hn : n = (d.base i + j) * d.heads.toNat
theorem track_in {d : GDisk} (g : d.Good) {i j h : Nat} (hi : i < d.zones.length) (hj : j < (d.zones[i]?.getD default).1.toNat) (hh : h < d.heads.toNat) :
    (d.base i + j) * d.heads.toNat + h < d.nt ∧ d.ts ((d.base i + j) * d.heads.toNat + h) = (d.zones[i]?.getD default).2 ∧ d.tc ((d.base i + j) * d.heads.toNat + h) = ((d.base i + j : Nat) : Int) ∧ d.th ((d.base i + j) * d.heads.toNat + h) = h := by
  have h1 := secs_at d i j hi hj
  have h2 : d.base i + j < d.cyls := (List.getElem?_eq_some_iff.1 h1).1
  refine ⟨?_, by rw [ts_at _ _ hh, h1, Option.getD_some], tc_at _ _ hh, th_at _ _ hh⟩
  unfold GDisk.nt
  calc (d.base i + j) * d.heads.toNat + h < (d.base i + j) * d.heads.toNat + d.heads.toNat := by omega
    _ = (d.base i + j + 1) * d.heads.toNat := by rw [Nat.succ_mul]
    _ ≤ d.cyls * d.heads.toNat := Nat.mul_le_mul_right _ h2

theorem tracks_noR : pc_zones_disk_tracks.noR = true := by rfl
theorem to_next {d : GDisk} (g : d.Good) (n : Nat) : d.to (n + 1) = (d.to n + (if d.th n = d.heads - 1 then d.cskew else d.hskew)).tmod d.turn := by
  have h1 := g.to n; have h2 := g.k1; have h3 := g.c1
  rw [GDisk.to, Int.tmod_eq_emod_of_nonneg]
  split <;> omega
attribute [local congr] cg_pw cg_seqI cg_seqE cg_stepI cg_ev cg_evBin cg_condB cg_condV cg_thenQ cg_blockQ cg_onSome cg_onCells cg_onRow cg_onMap cg_onOpt cg_ghosts cg_ghost cg_evCall cg_part cg_rng cg_guardV cg_frzV cg_frpV cg_ownV cg_owcV cg_occV cg_occX cg_resK cg_res1 cg_yldP cg_rndE cg_onlyN cg_onHist
attribute [local irreducible] IntKind.wrap bitsOp Option.getD and or

theorem zones_tracks_seq (d : GDisk) (hok : d.ok = true) : SeqY E0 F_zones_disk_tracks [diskD d] [] d.tracks := by
  have g := good_of hok
  have g1 := g.h1; have g2 := g.h2; have g3 := g.t1; have g4 := g.t2; have g5 := g.z1; have g6 := g.z2
  have hcy := g.cyls
  refine seqY_of_pw dec_zones_disk_tracks mixed tracks_noR (by simp) fun hwf _ => ?_
  rw [enterM_eq]; unfold pc_zones_disk_tracks
  (try (simp -implicitDefEqProofs only [go_sem, diskD_eq, diskC_eq, zpsD_len])); repeat' first | with_reducible exact True.intro | with_reducible refine And.intro ?_ ?_ | with_reducible intro _ | (((with_reducible refine vc_b ?_ ?_) <;> intro _) <;> try (simp -implicitDefEqProofs only [go_sem, diskD_eq, diskC_eq, zpsD_len])) | simp (disch := omega) only [wrapI, wrapU, shl1, shl1', shl1'', shrN, shrN', and_one] | ((with_reducible refine isEx7 ?_); refine ⟨(_, _, _, _, _, _, _), rfl, ?_, ?_⟩) | ((with_reducible refine isEx6 ?_); refine ⟨(_, _, _, _, _, _), rfl, ?_, ?_⟩)
  all_goals first | omega | (simp; done) | (simp; omega) | skip
  refine pw_loopS (α := Int × Int × Int × Int × Int × Int × Nat) (l0 := ?l1) (m0 := ?m1) (fun x => [(11, .d (.int .i64 x.1))]) (fun x => [(4, .cells [.d (.int .i64 x.2.1), .d (.int .i64 x.2.2.1), .d (.int .i64 x.2.2.2.1), .d (.int .i64 x.2.2.2.2.1), .d (.int .i64 x.2.2.2.2.2.1)]), (900001, .hist d.tracks x.2.2.2.2.2.2 false)]) (fun x => 0 ≤ x.1 ∧ x.1 ≤ d.zones.length ∧ x.2.2.2.2.2.2 = d.base x.1.toNat * d.heads.toNat ∧ x.2.1 = d.base x.1.toNat ∧ x.2.2.2.2.1 = d.tf x.2.2.2.2.2.2 ∧ x.2.2.2.2.2.1 = d.to x.2.2.2.2.2.2) (fun x => (d.zones.length - x.1).toNat) (?a1_0, ?a1_1, ?a1_2, ?a1_3, ?a1_4, ?a1_5, ?a1_6) ?h01 ?he1 ?he21 ?hI1 ?step1
  case h01 => (simp -implicitDefEqProofs only [go_sem, zpsD_len, diskC_eq]; rfl)
  case he1 => rfl
  case he21 => rfl
  case' step1 => (rintro ⟨i, c, e, s, f, o, n⟩ hI; try dsimp only at hI)
  case' hI1 => try dsimp only
  · exact ⟨by omega, by omega, by simp [GDisk.base], by simp [GDisk.base], rfl, rfl⟩
  · obtain ⟨h1, h2, h3, h4, h5, h6⟩ := hI
    by_cases hi : i < d.zones.length
    · have hz := g.z i.toNat (by omega)
      obtain ⟨z, hze⟩ : ∃ z, d.zones[i.toNat]?.getD default = z := ⟨_, rfl⟩
      rw [hze] at hz
      have hi1 : IntKind.i64.wrap (i + 1) = i + 1 := wrapI _ (by omega)
      (try (simp -implicitDefEqProofs only [go_sem, zpsD_len, onSome_zps, hze, zpD_eq, diskC_eq, zpsD_unif])); repeat' first | with_reducible exact True.intro | with_reducible refine And.intro ?_ ?_ | with_reducible intro _ | (((with_reducible refine vc_b ?_ ?_) <;> intro _) <;> try (simp -implicitDefEqProofs only [go_sem, zpsD_len, onSome_zps, hze, zpD_eq, diskC_eq, zpsD_unif])) | simp (disch := omega) only [wrapI, wrapU, shl1, shl1', shl1'', shrN, shrN', and_one] | ((with_reducible refine isEx7 ?_); refine ⟨(_, _, _, _, _, _, _), rfl, ?_, ?_⟩) | ((with_reducible refine isEx6 ?_); refine ⟨(_, _, _, _, _, _), rfl, ?_, ?_⟩)
      all_goals first | omega | (simp; done) | (simp; omega) | skip
      refine pw_loopS (α := Int × Int × Int × Int × Int × Int × Nat) (l0 := ?l2) (m0 := ?m2) (fun x => [(17, .d (.int .i64 x.1))]) (fun x => [(4, .cells [.d (.int .i64 x.2.1), .d (.int .i64 x.2.2.1), .d (.int .i64 x.2.2.2.1), .d (.int .i64 x.2.2.2.2.1), .d (.int .i64 x.2.2.2.2.2.1)]), (900001, .hist d.tracks x.2.2.2.2.2.2 false)]) (fun x => 0 ≤ x.1 ∧ x.1 ≤ z.1 ∧ x.2.2.2.2.2.2 = (d.base i.toNat + x.1.toNat) * d.heads.toNat ∧ x.2.1 = d.base i.toNat + x.1 ∧ x.2.2.2.2.1 = d.tf x.2.2.2.2.2.2 ∧ x.2.2.2.2.2.1 = d.to x.2.2.2.2.2.2) (fun x => (z.1 - x.1).toNat) (?a2_0, ?a2_1, ?a2_2, ?a2_3, ?a2_4, ?a2_5, ?a2_6) ?h02 ?he2 ?he22 ?hI2 ?step2
      case h02 => (simp -implicitDefEqProofs only [go_sem, zpsD_len, diskC_eq]; rfl)
      case he2 => rfl
      case he22 => rfl
      case' step2 => (rintro ⟨j, c, e, s, f, o, n⟩ hI2; try dsimp only at hI2)
      case' hI2 => try dsimp only
      · exact ⟨by omega, by omega, by simpa using h3, by omega, h5, h6⟩
      · obtain ⟨q1, q2, q3, q4, q5, q6⟩ := hI2
        have hw1 : IntKind.i64.wrap (c + 1) = c + 1 := wrapI _ (by have := g.base i.toNat (by omega); omega)
        have hj1 : IntKind.i64.wrap (j + 1) = j + 1 := wrapI _ (by omega)
        by_cases hj : j < z.1
        · (try (simp -implicitDefEqProofs only [go_sem, diskC_eq])); repeat' first | with_reducible exact True.intro | with_reducible refine And.intro ?_ ?_ | with_reducible intro _ | (((with_reducible refine vc_b ?_ ?_) <;> intro _) <;> try (simp -implicitDefEqProofs only [go_sem, diskC_eq])) | simp (disch := omega) only [wrapI, wrapU, shl1, shl1', shl1'', shrN, shrN', and_one] | ((with_reducible refine isEx7 ?_); refine ⟨(_, _, _, _, _, _, _), rfl, ?_, ?_⟩) | ((with_reducible refine isEx6 ?_); refine ⟨(_, _, _, _, _, _), rfl, ?_, ?_⟩)
          all_goals first | omega | (simp; done) | (simp; omega) | skip
          refine pw_loopS (α := Int × Int × Int × Int × Int × Nat) (l0 := ?l3) (m0 := ?m3) (fun x => [(22, .d (.int .i64 x.1))]) (fun x => [(4, .cells [.d (.int .i64 c), .d (.int .i64 x.2.1), .d (.int .i64 x.2.2.1), .d (.int .i64 x.2.2.2.1), .d (.int .i64 x.2.2.2.2.1)]), (900001, .hist d.tracks x.2.2.2.2.2 false)]) (fun x => 0 ≤ x.1 ∧ x.1 ≤ d.heads ∧ x.2.2.2.2.2 = (d.base i.toNat + j.toNat) * d.heads.toNat + x.1.toNat ∧ x.2.2.2.1 = d.tf x.2.2.2.2.2 ∧ x.2.2.2.2.1 = d.to x.2.2.2.2.2) (fun x => (d.heads - x.1).toNat) (?a3_0, ?a3_1, ?a3_2, ?a3_3, ?a3_4, ?a3_5) ?h03 ?he3 ?he23 ?hI3 ?step3
          case h03 => (simp -implicitDefEqProofs only [go_sem, diskC_eq]; rfl)
          case he3 => rfl
          case he23 => rfl
          case' step3 => (rintro ⟨k, e, s, f, o, n⟩ hI3; try dsimp only at hI3)
          case' hI3 => try dsimp only
          · exact ⟨by omega, by omega, by simpa using q3, q5, q6⟩
          · obtain ⟨r1, r2, r3, r4, r5⟩ := hI3
            by_cases hk : k < d.heads
            · have ht := track_in g (i := i.toNat) (j := j.toNat) (h := k.toNat) (by omega) (by rw [hze]; omega) (by omega)
              rw [← r3, hze] at ht
              obtain ⟨t1, t2, t3, t4⟩ := ht
              have hat := tracks_at t1
              have htf := g.tf n (by omega)
              have hto := g.to n
              have hnt := g.nt
              have hwf1 : IntKind.i64.wrap (f + z.2) = f + z.2 := wrapI _ (by omega)
              have htn : d.tf (n + 1) = f + z.2 := by rw [GDisk.tf, t2, ← r4]
              have hon := to_next g n
              have hk1 : IntKind.i64.wrap (k + 1) = k + 1 := wrapI _ (by omega)
              have hh1 : IntKind.i64.wrap (d.heads - 1) = d.heads - 1 := wrapI _ (by omega)
              have hc2 := g.c1; have hc3 := g.c2; have hs2 := g.k1; have hs3 := g.k2
              have wc : IntKind.i64.wrap (o + d.cskew) = o + d.cskew := wrapI _ (by omega)
              have ws : IntKind.i64.wrap (o + d.hskew) = o + d.hskew := wrapI _ (by omega)
              have htr : trackD (d.track n) = .agg [.int .i64 c, .int .i64 k, .int .i64 z.2, .int .i64 f, .int .i64 o] := by
                rw [trackD_eq, trackC_eq, GDisk.track]; simp only
                rw [t2, t3, t4, ← r4, ← r5, show ((d.base i.toNat + j.toNat : Nat) : Int) = c by omega, show ((k.toNat : Nat) : Int) = k by omega]
              rw [htr] at hat
              have hne : ¬ d.turn = 0 := by omega
              by_cases hl : k = d.heads - 1
              · rw [if_pos (by omega), ← r5] at hon
                have c1 := zones_disk_skew_ret d true
                rw [if_pos rfl] at c1
                (try (simp -implicitDefEqProofs only [go_sem, diskC_eq, diskD_eq, hwf1, wc, hon.symm, hh1, hne, hk1, hat, seqQ_ret, histEnd_some])); repeat' first | with_reducible exact True.intro | with_reducible refine And.intro ?_ ?_ | with_reducible intro _ | (((with_reducible refine isCall ?_); first | refine call_b (c1) rfl ?_ ?_ | refine call_d (c1) rfl ?_ | refine call_sb (c1) rfl ?_ ?_ | refine call_s (c1) rfl rfl ?_) <;> try (simp -implicitDefEqProofs only [go_sem, diskC_eq, diskD_eq, hwf1, wc, hon.symm, hh1, hne, hk1, hat, seqQ_ret, histEnd_some])) | (((with_reducible refine vc_b ?_ ?_) <;> intro _) <;> try (simp -implicitDefEqProofs only [go_sem, diskC_eq, diskD_eq, hwf1, wc, hon.symm, hh1, hne, hk1, hat, seqQ_ret, histEnd_some])) | simp (disch := omega) only [wrapI, wrapU, shl1, shl1', shl1'', shrN, shrN', and_one] | ((with_reducible refine isEx7 ?_); refine ⟨(_, _, _, _, _, _, _), rfl, ?_, ?_⟩) | ((with_reducible refine isEx6 ?_); refine ⟨(_, _, _, _, _, _), rfl, ?_, ?_⟩)
                all_goals first | omega | (simp; done) | (simp; omega) | skip
                all_goals rfl
              · rw [if_neg (by omega), ← r5] at hon
                have c1 := zones_disk_skew_ret d false
                rw [if_neg (by simp)] at c1
                (try (simp -implicitDefEqProofs only [go_sem, diskC_eq, diskD_eq, hwf1, ws, hon.symm, hh1, hne, hk1, hat, seqQ_ret, histEnd_some])); repeat' first | with_reducible exact True.intro | with_reducible refine And.intro ?_ ?_ | with_reducible intro _ | (((with_reducible refine isCall ?_); first | refine call_b (c1) rfl ?_ ?_ | refine call_d (c1) rfl ?_ | refine call_sb (c1) rfl ?_ ?_ | refine call_s (c1) rfl rfl ?_) <;> try (simp -implicitDefEqProofs only [go_sem, diskC_eq, diskD_eq, hwf1, ws, hon.symm, hh1, hne, hk1, hat, seqQ_ret, histEnd_some])) | (((with_reducible refine vc_b ?_ ?_) <;> intro _) <;> try (simp -implicitDefEqProofs only [go_sem, diskC_eq, diskD_eq, hwf1, ws, hon.symm, hh1, hne, hk1, hat, seqQ_ret, histEnd_some])) | simp (disch := omega) only [wrapI, wrapU, shl1, shl1', shl1'', shrN, shrN', and_one] | ((with_reducible refine isEx7 ?_); refine ⟨(_, _, _, _, _, _, _), rfl, ?_, ?_⟩) | ((with_reducible refine isEx6 ?_); refine ⟨(_, _, _, _, _, _), rfl, ?_, ?_⟩)
                all_goals first | omega | (simp; done) | (simp; omega) | skip
                all_goals rfl
            · have hke : k = d.heads := by omega
              subst hke
              have hnn : n = (d.base i.toNat + (j + 1).toNat) * d.heads.toNat := by rw [r3, show d.base i.toNat + (j + 1).toNat = d.base i.toNat + j.toNat + 1 by omega, Nat.succ_mul]
              (try (simp -implicitDefEqProofs only [go_sem, diskC_eq, hw1, hj1])); repeat' first | with_reducible exact True.intro | with_reducible refine And.intro ?_ ?_ | with_reducible intro _ | (((with_reducible refine vc_b ?_ ?_) <;> intro _) <;> try (simp -implicitDefEqProofs only [go_sem, diskC_eq, hw1, hj1])) | simp (disch := omega) only [wrapI, wrapU, shl1, shl1', shl1'', shrN, shrN', and_one] | ((with_reducible refine isEx7 ?_); refine ⟨(_, _, _, _, _, _, _), rfl, ?_, ?_⟩) | ((with_reducible refine isEx6 ?_); refine ⟨(_, _, _, _, _, _), rfl, ?_, ?_⟩)
              all_goals first | omega | (simp; done) | (simp; omega) | skip
        · have hje : j = z.1 := by omega
          subst hje
          have hbn : d.base (i + 1).toNat = d.base i.toNat + z.1.toNat := by rw [show (i + 1).toNat = i.toNat + 1 by omega, GDisk.base, hze]
          have hnn : n = d.base (i + 1).toNat * d.heads.toNat := by rw [hbn]; exact q3
          have hcc : c = d.base (i + 1).toNat := by rw [hbn]; omega
          (try (simp -implicitDefEqProofs only [go_sem, diskC_eq, hi1])); repeat' first | with_reducible exact True.intro | with_reducible refine And.intro ?_ ?_ | with_reducible intro _ | (((with_reducible refine vc_b ?_ ?_) <;> intro _) <;> try (simp -implicitDefEqProofs only [go_sem, diskC_eq, hi1])) | simp (disch := omega) only [wrapI, wrapU, shl1, shl1', shl1'', shrN, shrN', and_one] | ((with_reducible refine isEx7 ?_); refine ⟨(_, _, _, _, _, _, _), rfl, ?_, ?_⟩) | ((with_reducible refine isEx6 ?_); refine ⟨(_, _, _, _, _, _), rfl, ?_, ?_⟩)
          all_goals first | omega | (simp; done) | (simp; omega) | skip
    · have hie : i = d.zones.length := by omega
      have hnn : n = d.tracks.length := by rw [tracks_len, h3, hie, GDisk.nt, ← base_len]; simp
      (try (simp -implicitDefEqProofs only [go_sem, diskC_eq, hi, zpsD_len, seqQ_normal, histEnd_some])); repeat' first | with_reducible exact True.intro | with_reducible refine And.intro ?_ ?_ | with_reducible intro _ | (((with_reducible refine vc_b ?_ ?_) <;> intro _) <;> try (simp -implicitDefEqProofs only [go_sem, diskC_eq, hi, zpsD_len, seqQ_normal, histEnd_some])) | simp (disch := omega) only [wrapI, wrapU, shl1, shl1', shl1'', shrN, shrN', and_one] | ((with_reducible refine isEx7 ?_); refine ⟨(_, _, _, _, _, _, _), rfl, ?_, ?_⟩) | ((with_reducible refine isEx6 ?_); refine ⟨(_, _, _, _, _, _), rfl, ?_, ?_⟩)
      all_goals first | omega | (simp; done) | (simp; omega) | skip

end Go.Pw
end
section
open Go Go.Pw Go.Proofs
namespace Go.Pw
set_option linter.unusedSimpArgs false
set_option linter.unusedVariables false
set_option maxRecDepth 100000
set_option maxHeartbeats 1600000
attribute [local congr] cg_pw cg_seqI cg_seqE cg_stepI cg_ev cg_evBin cg_condB cg_condV cg_thenQ cg_blockQ cg_onSome cg_onCells cg_onRow cg_onMap cg_onOpt cg_ghosts cg_ghost cg_evCall cg_part cg_rng cg_guardV cg_frzV cg_frpV cg_ownV cg_owcV cg_occV cg_occX cg_resK cg_res1 cg_yldP cg_rndE cg_onlyN cg_onHist
attribute [local irreducible] IntKind.wrap bitsOp Option.getD and or
-- %RNGV

theorem zones_disk_size_ret (d : GDisk) (hok : d.ok = true) : Ret E0 F_zones_disk_size [diskD d] (.int .i64 d.size) := by
  have g := good_of hok
  refine ret_of_pw dec_zones_disk_size mixed (by simp) fun hwf => ?_
  rw [enter_eq]; unfold pc_zones_disk_size
  (try (simp -implicitDefEqProofs only [go_sem, diskD_eq, diskC_eq])); repeat' first | with_reducible exact True.intro | with_reducible refine And.intro ?_ ?_ | with_reducible intro _ | (((with_reducible refine vc_b ?_ ?_) <;> intro _) <;> try (simp -implicitDefEqProofs only [go_sem, diskD_eq, diskC_eq])) | simp (disch := omega) only [wrapI, wrapU, shl1, shl1', shl1'', shrN, shrN', and_one] | ((with_reducible refine isVx ?_); refine ⟨_, rfl, ?_⟩)
  refine pw_rngS (α := Int) (so := setOs) (l0 := ?l1) (m0 := ?m1) (fun x => [(5000002, .cells [.d (.int .i64 x)])]) (fun n x => x = d.tf n) (fun e x => False) 0 (zones_tracks_seq d hok) body_zones_disk_tracks ?h01 ?he1 (by simp [PC.noR]) ?hw1 ?hI1 ?step1 ?hend1 ?hjump1
  case h01 => (simp -implicitDefEqProofs only [go_sem, diskD_eq, diskC_eq]; first | exact ⟨rfl, rfl⟩ | exact rfl)
  case he1 => rfl
  case hw1 => simp -implicitDefEqProofs only [go_sem]
  case' hjump1 => (rintro e x hI; try dsimp only at hI)
  case' hend1 => (rintro x hI; try dsimp only at hI)
  case' step1 => (rintro n x ds hds hI; try dsimp only at hI)
  case' hI1 => try dsimp only
  · rfl
  · obtain ⟨hn, rfl⟩ := tracks_get hds
    refine ⟨rfl, ?_⟩
    have h1 := g.tf n (by omega)
    have h2 := g.ts hn
    have h3 := g.nt
    have hw : IntKind.i64.wrap (x + d.ts n) = x + d.ts n := wrapI _ (by omega)
    (try (simp -implicitDefEqProofs only [go_sem, trackD_eq, trackC_eq, GDisk.track, hw])); repeat' first | with_reducible exact True.intro | with_reducible refine And.intro ?_ ?_ | with_reducible intro _ | (((with_reducible refine vc_b ?_ ?_) <;> intro _) <;> try (simp -implicitDefEqProofs only [go_sem, trackD_eq, trackC_eq, GDisk.track, hw])) | simp (disch := omega) only [wrapI, wrapU, shl1, shl1', shl1'', shrN, shrN', and_one] | ((with_reducible refine isVx ?_); refine ⟨_, rfl, ?_⟩)
    all_goals first | omega | (simp; done) | (simp; omega) | skip
    all_goals (rw [hI]; rfl)
  · rw [tracks_len] at hI
    (try (simp -implicitDefEqProofs only [go_sem, hI])); repeat' first | with_reducible exact True.intro | with_reducible refine And.intro ?_ ?_ | with_reducible intro _ | (((with_reducible refine vc_b ?_ ?_) <;> intro _) <;> try (simp -implicitDefEqProofs only [go_sem, hI])) | simp (disch := omega) only [wrapI, wrapU, shl1, shl1', shl1'', shrN, shrN', and_one] | ((with_reducible refine isVx ?_); refine ⟨_, rfl, ?_⟩)
    rfl

theorem zones_open_ret (d : GDisk) : Ret E0 F_zones_open [diskD d] (.tup [diskD d, .int .i64 d.check]) := by
  refine ret_of_pw dec_zones_open mixed (by simp) fun hwf => ?_
  have c1 := zones_Check_ret d
  rw [diskD_eq, diskC_eq] at c1
  rw [enter_eq]; unfold pc_zones_open
  (try (simp -implicitDefEqProofs only [go_sem, diskD_eq, diskC_eq])); repeat' first | with_reducible exact True.intro | with_reducible refine And.intro ?_ ?_ | with_reducible intro _ | (((with_reducible refine isCall ?_); first | refine call_b (c1) rfl ?_ ?_ | refine call_d (c1) rfl ?_ | refine call_sb (c1) rfl ?_ ?_ | refine call_s (c1) rfl rfl ?_) <;> try (simp -implicitDefEqProofs only [go_sem, diskD_eq, diskC_eq])) | (((with_reducible refine vc_b ?_ ?_) <;> intro _) <;> try (simp -implicitDefEqProofs only [go_sem, diskD_eq, diskC_eq])) | simp (disch := omega) only [wrapI, wrapU, shl1, shl1', shl1'', shrN, shrN', and_one] 
  all_goals first | omega | (simp; done) | (simp; omega) | skip

theorem zones_Size_ret (d : GDisk) : Ret E0 F_zones_Size [diskD d] (.tup [.int .i64 (if d.ok then d.size else 0), .int .i64 d.check]) := by
  refine ret_of_pw dec_zones_Size mixed (by simp) fun hwf => ?_
  have c1 := zones_open_ret d
  rw [enter_eq]; unfold pc_zones_Size
  unfold GDisk.check at *
  cases h : d.ok with
  | false =>
    rw [h] at c1
    (try (simp -implicitDefEqProofs only [go_sem, diskD_eq, diskC_eq])); repeat' first | with_reducible exact True.intro | with_reducible refine And.intro ?_ ?_ | with_reducible intro _ | (((with_reducible refine isCall ?_); first | refine call_b (c1) rfl ?_ ?_ | refine call_d (c1) rfl ?_ | refine call_sb (c1) rfl ?_ ?_ | refine call_s (c1) rfl rfl ?_) <;> try (simp -implicitDefEqProofs only [go_sem, diskD_eq, diskC_eq])) | (((with_reducible refine vc_b ?_ ?_) <;> intro _) <;> try (simp -implicitDefEqProofs only [go_sem, diskD_eq, diskC_eq])) | simp (disch := omega) only [wrapI, wrapU, shl1, shl1', shl1'', shrN, shrN', and_one] 
    all_goals first | omega | (simp; done) | (simp; omega) | skip
  | true =>
    rw [h] at c1
    have c2 := zones_disk_size_ret d h
    (try (simp -implicitDefEqProofs only [go_sem, diskD_eq, diskC_eq])); repeat' first | with_reducible exact True.intro | with_reducible refine And.intro ?_ ?_ | with_reducible intro _ | (((with_reducible refine isCall ?_); first | refine call_b (c1) rfl ?_ ?_ | refine call_d (c1) rfl ?_ | refine call_sb (c1) rfl ?_ ?_ | refine call_s (c1) rfl rfl ?_ | refine call_b (c2) rfl ?_ ?_ | refine call_d (c2) rfl ?_ | refine call_sb (c2) rfl ?_ ?_ | refine call_s (c2) rfl rfl ?_) <;> try (simp -implicitDefEqProofs only [go_sem, diskD_eq, diskC_eq])) | (((with_reducible refine vc_b ?_ ?_) <;> intro _) <;> try (simp -implicitDefEqProofs only [go_sem, diskD_eq, diskC_eq])) | simp (disch := omega) only [wrapI, wrapU, shl1, shl1', shl1'', shrN, shrN', and_one] 
    all_goals first | omega | (simp; done) | (simp; omega) | skip

def placeD (c h s : Int) : D := .agg [.int .i64 c, .int .i64 h, .int .i64 s]
theorem placeD_eq (c h s : Int) : placeD c h s = .agg [.int .i64 c, .int .i64 h, .int .i64 s] := rfl


end Go.Pw
end
section
open Go Go.Pw Go.Proofs
namespace Go.Pw
set_option linter.unusedSimpArgs false
set_option linter.unusedVariables false
set_option maxRecDepth 100000
set_option maxHeartbeats 1600000
def GDisk.isRun (d : GDisk) (a c : Int) : Prop := (0 ≤ a ∧ 1 ≤ c) ∧ a + c ≤ d.size
instance (d : GDisk) (a c : Int) : Decidable (d.isRun a c) := by unfold GDisk.isRun; infer_instance
attribute [local congr] cg_pw cg_seqI cg_seqE cg_stepI cg_ev cg_evBin cg_condB cg_condV cg_thenQ cg_blockQ cg_onSome cg_onCells cg_onRow cg_onMap cg_onOpt cg_ghosts cg_ghost cg_evCall cg_part cg_rng cg_guardV cg_frzV cg_frpV cg_ownV cg_owcV cg_occV cg_occX cg_resK cg_res1 cg_yldP cg_rndE cg_onlyN cg_onHist
attribute [local irreducible] IntKind.wrap bitsOp Option.getD and or

theorem ref01_Cylinders_ret (d : GDisk) (h : d.ok = true) : Ret E0 F_ref01_Cylinders [diskD d] (.int .i64 d.cyls) := by
  have g := good_of h
  refine ret_of_pw dec_ref01_Cylinders mixed (by simp) fun hwf => ?_
  have z2 := g.z2
  rw [enter_eq]; unfold pc_ref01_Cylinders
  (try (simp -implicitDefEqProofs only [go_sem, diskD_eq, diskC_eq])); repeat' first | with_reducible exact True.intro | with_reducible refine And.intro ?_ ?_ | with_reducible intro _ | (((with_reducible refine vc_b ?_ ?_) <;> intro _) <;> try (simp -implicitDefEqProofs only [go_sem, diskD_eq, diskC_eq])) | simp (disch := omega) only [wrapI, wrapU, shl1, shl1', shl1'', shrN, shrN', and_one] | ((with_reducible refine isEx2 ?_); refine ⟨(_, _), rfl, ?_, ?_⟩)
  all_goals first | omega | (simp; done) | (simp; omega) | skip
  refine pw_loopS (α := Int × Int) (l0 := ?l1) (m0 := ?m1) (fun x => [(4, .d (.int .i64 x.1)), (3, .d (.int .i64 x.2))]) (fun x => []) (fun x => (0 ≤ x.1 ∧ x.1 ≤ d.zones.length) ∧ x.2 = d.base x.1.toNat) (fun x => (d.zones.length - x.1).toNat) (?a1_0, ?a1_1) ?h01 ?he1 ?he21 ?hI1 ?step1
  case h01 => (simp -implicitDefEqProofs only [go_sem, diskC_eq, zpsD_len]; rfl)
  case he1 => rfl
  case he21 => rfl
  case' step1 => (rintro ⟨i, n⟩ hI; try dsimp only at hI)
  case' hI1 => try dsimp only
  · exact ⟨⟨by omega, by omega⟩, by simp [GDisk.base]⟩
  · obtain ⟨⟨h1, h2⟩, h3⟩ := hI
    have hb := g.base i.toNat (by omega)
    by_cases hi : i < d.zones.length
    · have hz := g.z i.toNat (by omega)
      obtain ⟨z, hze⟩ : ∃ z, d.zones[i.toNat]?.getD default = z := ⟨_, rfl⟩
      rw [hze] at hz
      have hn : d.base (i + 1).toNat = d.base i.toNat + z.1.toNat := by rw [show (i + 1).toNat = i.toNat + 1 by omega, GDisk.base, hze]
      have w1 : IntKind.i64.wrap (i + 1) = i + 1 := wrapI _ (by omega)
      have w2 : IntKind.i64.wrap (n + z.1) = n + z.1 := wrapI _ (by omega)
      (try (simp -implicitDefEqProofs only [go_sem, diskC_eq, zpsD_len, onSome_zps, hze, zpD_eq, zpsD_unif, w1, w2])); repeat' first | with_reducible exact True.intro | with_reducible refine And.intro ?_ ?_ | with_reducible intro _ | (((with_reducible refine vc_b ?_ ?_) <;> intro _) <;> try (simp -implicitDefEqProofs only [go_sem, diskC_eq, zpsD_len, onSome_zps, hze, zpD_eq, zpsD_unif, w1, w2])) | simp (disch := omega) only [wrapI, wrapU, shl1, shl1', shl1'', shrN, shrN', and_one] | ((with_reducible refine isEx2 ?_); refine ⟨(_, _), rfl, ?_, ?_⟩)
      all_goals first | omega | (simp; done) | (simp; omega) | skip
    · have hie : i = d.zones.length := by omega
      have hn : n = d.cyls := by rw [h3, hie, ← base_len]; simp
      (try (simp -implicitDefEqProofs only [go_sem, diskC_eq, zpsD_len, hi])); repeat' first | with_reducible exact True.intro | with_reducible refine And.intro ?_ ?_ | with_reducible intro _ | (((with_reducible refine vc_b ?_ ?_) <;> intro _) <;> try (simp -implicitDefEqProofs only [go_sem, diskC_eq, zpsD_len, hi])) | simp (disch := omega) only [wrapI, wrapU, shl1, shl1', shl1'', shrN, shrN', and_one] | ((with_reducible refine isEx2 ?_); refine ⟨(_, _), rfl, ?_, ?_⟩)
      all_goals first | omega | (simp; done) | (simp; omega) | skip

theorem ref01_Count_ret (d : GDisk) (h : d.ok = true) : Ret E0 F_ref01_Count [diskD d] (.int .i64 d.size) := by
  have g := good_of h
  refine ret_of_pw dec_ref01_Count mixed (by simp) fun hwf => ?_
  have z2 := g.z2; have g1 := g.h1; have g2 := g.h2
  have hH := g.hn
  rw [enter_eq]; unfold pc_ref01_Count
  (try (simp -implicitDefEqProofs only [go_sem, diskD_eq, diskC_eq])); repeat' first | with_reducible exact True.intro | with_reducible refine And.intro ?_ ?_ | with_reducible intro _ | (((with_reducible refine vc_b ?_ ?_) <;> intro _) <;> try (simp -implicitDefEqProofs only [go_sem, diskD_eq, diskC_eq])) | simp (disch := omega) only [wrapI, wrapU, shl1, shl1', shl1'', shrN, shrN', and_one] | ((with_reducible refine isEx2 ?_); refine ⟨(_, _), rfl, ?_, ?_⟩)
  all_goals first | omega | (simp; done) | (simp; omega) | skip
  refine pw_loopS (α := Int × Int) (l0 := ?l2) (m0 := ?m2) (fun x => [(4, .d (.int .i64 x.1)), (3, .d (.int .i64 x.2))]) (fun x => []) (fun x => (0 ≤ x.1 ∧ x.1 ≤ d.zones.length) ∧ x.2 = d.tf (d.base x.1.toNat * d.heads.toNat)) (fun x => (d.zones.length - x.1).toNat) (?a2_0, ?a2_1) ?h02 ?he2 ?he22 ?hI2 ?step2
  case h02 => (simp -implicitDefEqProofs only [go_sem, diskC_eq, zpsD_len]; rfl)
  case he2 => rfl
  case he22 => rfl
  case' step2 => (rintro ⟨i, n⟩ hI; try dsimp only at hI)
  case' hI2 => try dsimp only
  · exact ⟨⟨by omega, by omega⟩, by simp [GDisk.base, GDisk.tf]⟩
  · obtain ⟨⟨h1, h2⟩, h3⟩ := hI
    by_cases hi : i < d.zones.length
    · have hz := g.z i.toNat (by omega)
      have htf := tf_zone (d := d) (i := i.toNat) (by omega) (d.zones[i.toNat]?.getD default).1.toNat (Nat.le_refl _)
      have hnt : d.base i.toNat * d.heads.toNat ≤ d.nt := by
        have := base_le d i.toNat d.zones.length (by omega)
        rw [base_len] at this
        exact Nat.mul_le_mul_right _ this
      have hb := g.tf _ hnt
      have hn1 := g.nt
      obtain ⟨z, hze⟩ : ∃ z, d.zones[i.toNat]?.getD default = z := ⟨_, rfl⟩
      rw [hze] at hz htf
      have hn : d.base (i + 1).toNat = d.base i.toNat + z.1.toNat := by rw [show (i + 1).toNat = i.toNat + 1 by omega, GDisk.base, hze]
      rw [← hn, ← h3, show ((z.1.toNat : Nat) : Int) = z.1 by omega, hH, ← Int.mul_assoc] at htf
      have m1 : 0 ≤ z.1 * z.2 ∧ z.1 * z.2 ≤ 20 * 16 := ⟨Int.mul_nonneg (by omega) (by omega), Int.mul_le_mul (by omega) (by omega) (by omega) (by omega)⟩
      have m2 : 0 ≤ z.1 * z.2 * d.heads ∧ z.1 * z.2 * d.heads ≤ 20 * 16 * 4 := ⟨Int.mul_nonneg (by omega) (by omega), Int.mul_le_mul (by omega) (by omega) (by omega) (by omega)⟩
      have w1 : IntKind.i64.wrap (i + 1) = i + 1 := wrapI _ (by omega)
      have w2 : IntKind.i64.wrap (z.1 * z.2) = z.1 * z.2 := wrapI _ (by omega)
      have w3 : IntKind.i64.wrap (z.1 * z.2 * d.heads) = z.1 * z.2 * d.heads := wrapI _ (by omega)
      have w4 : IntKind.i64.wrap (n + z.1 * z.2 * d.heads) = n + z.1 * z.2 * d.heads := wrapI _ (by omega)
      (try (simp -implicitDefEqProofs only [go_sem, diskC_eq, zpsD_len, onSome_zps, hze, zpD_eq, zpsD_unif, w1, w2, w3, w4])); repeat' first | with_reducible exact True.intro | with_reducible refine And.intro ?_ ?_ | with_reducible intro _ | (((with_reducible refine vc_b ?_ ?_) <;> intro _) <;> try (simp -implicitDefEqProofs only [go_sem, diskC_eq, zpsD_len, onSome_zps, hze, zpD_eq, zpsD_unif, w1, w2, w3, w4])) | simp (disch := omega) only [wrapI, wrapU, shl1, shl1', shl1'', shrN, shrN', and_one] | ((with_reducible refine isEx2 ?_); refine ⟨(_, _), rfl, ?_, ?_⟩)
      all_goals first | omega | (simp; done) | (simp; omega) | skip
    · have hie : i = d.zones.length := by omega
      have hn : n = d.size := by rw [h3, hie, GDisk.size, GDisk.nt, ← base_len]; simp
      (try (simp -implicitDefEqProofs only [go_sem, diskC_eq, zpsD_len, hi])); repeat' first | with_reducible exact True.intro | with_reducible refine And.intro ?_ ?_ | with_reducible intro _ | (((with_reducible refine vc_b ?_ ?_) <;> intro _) <;> try (simp -implicitDefEqProofs only [go_sem, diskC_eq, zpsD_len, hi])) | simp (disch := omega) only [wrapI, wrapU, shl1, shl1', shl1'', shrN, shrN', and_one] | ((with_reducible refine isEx2 ?_); refine ⟨(_, _), rfl, ?_, ?_⟩)
      all_goals first | omega | (simp; done) | (simp; omega) | skip

theorem ref01_IsSector_ret (d : GDisk) (h : d.ok = true) (n : Int) : Ret E0 F_ref01_IsSector [diskD d, .int .i64 n] (.bool (inZ n 0 (d.size - 1))) := by
  refine ret_of_pw dec_ref01_IsSector mixed (by simp) fun hwf => ?_
  have g := good_of h
  have hsz := size_bound g
  have c1 := ref01_Count_ret d h
  have c2 := ref01_within_ret n 0 (d.size - 1)
  have w1 : IntKind.i64.wrap (d.size - 1) = d.size - 1 := wrapI _ (by omega)
  rw [enter_eq]; unfold pc_ref01_IsSector
  cases hb : inZ n 0 (d.size - 1) with
  | false => rw [hb] at c2; (try (simp -implicitDefEqProofs only [go_sem, diskD_eq, diskC_eq, w1])); repeat' first | with_reducible exact True.intro | with_reducible refine And.intro ?_ ?_ | with_reducible intro _ | (((with_reducible refine isCall ?_); first | refine call_b (c1) rfl ?_ ?_ | refine call_d (c1) rfl ?_ | refine call_sb (c1) rfl ?_ ?_ | refine call_s (c1) rfl rfl ?_ | refine call_b (c2) rfl ?_ ?_ | refine call_d (c2) rfl ?_ | refine call_sb (c2) rfl ?_ ?_ | refine call_s (c2) rfl rfl ?_) <;> try (simp -implicitDefEqProofs only [go_sem, diskD_eq, diskC_eq, w1])) | (((with_reducible refine vc_b ?_ ?_) <;> intro _) <;> try (simp -implicitDefEqProofs only [go_sem, diskD_eq, diskC_eq, w1])) | simp (disch := omega) only [wrapI, wrapU, shl1, shl1', shl1'', shrN, shrN', and_one] 
  | true => rw [hb] at c2; (try (simp -implicitDefEqProofs only [go_sem, diskD_eq, diskC_eq, w1])); repeat' first | with_reducible exact True.intro | with_reducible refine And.intro ?_ ?_ | with_reducible intro _ | (((with_reducible refine isCall ?_); first | refine call_b (c1) rfl ?_ ?_ | refine call_d (c1) rfl ?_ | refine call_sb (c1) rfl ?_ ?_ | refine call_s (c1) rfl rfl ?_ | refine call_b (c2) rfl ?_ ?_ | refine call_d (c2) rfl ?_ | refine call_sb (c2) rfl ?_ ?_ | refine call_s (c2) rfl rfl ?_) <;> try (simp -implicitDefEqProofs only [go_sem, diskD_eq, diskC_eq, w1])) | (((with_reducible refine vc_b ?_ ?_) <;> intro _) <;> try (simp -implicitDefEqProofs only [go_sem, diskD_eq, diskC_eq, w1])) | simp (disch := omega) only [wrapI, wrapU, shl1, shl1', shl1'', shrN, shrN', and_one] 

theorem ref01_IsRun_ret (d : GDisk) (h : d.ok = true) (a c : Int) : Ret E0 F_ref01_IsRun [diskD d, .int .i64 a, .int .i64 c] (.bool (decide (d.isRun a c))) := by
  have g := good_of h
  refine ret_of_pw dec_ref01_IsRun mixed (by simp) fun hwf => ?_
  have hsz := size_bound g
  have c1 := ref01_IsSector_ret d h a
  have c2 := ref01_Count_ret d h
  have c3 := ref01_within_ret c 1 (d.size - a)
  rw [enter_eq]; unfold pc_ref01_IsRun
  by_cases ha : 0 ≤ a ∧ a ≤ d.size - 1
  · have hb : inZ a 0 (d.size - 1) = true := inZ_iff.2 ha
    have w1 : IntKind.i64.wrap (d.size - a) = d.size - a := wrapI _ (by omega)
    rw [hb] at c1
    have hd : decide (d.isRun a c) = inZ c 1 (d.size - a) := by unfold inZ; refine decide_eq_decide.2 ?_; unfold GDisk.isRun; omega
    rw [hd]
    (try (simp -implicitDefEqProofs only [go_sem, diskD_eq, diskC_eq, w1])); repeat' first | with_reducible exact True.intro | with_reducible refine And.intro ?_ ?_ | with_reducible intro _ | (((with_reducible refine isCall ?_); first | refine call_b (c1) rfl ?_ ?_ | refine call_d (c1) rfl ?_ | refine call_sb (c1) rfl ?_ ?_ | refine call_s (c1) rfl rfl ?_ | refine call_b (c2) rfl ?_ ?_ | refine call_d (c2) rfl ?_ | refine call_sb (c2) rfl ?_ ?_ | refine call_s (c2) rfl rfl ?_ | refine call_b (c3) rfl ?_ ?_ | refine call_d (c3) rfl ?_ | refine call_sb (c3) rfl ?_ ?_ | refine call_s (c3) rfl rfl ?_) <;> try (simp -implicitDefEqProofs only [go_sem, diskD_eq, diskC_eq, w1])) | (((with_reducible refine vc_b ?_ ?_) <;> intro _) <;> try (simp -implicitDefEqProofs only [go_sem, diskD_eq, diskC_eq, w1])) | simp (disch := omega) only [wrapI, wrapU, shl1, shl1', shl1'', shrN, shrN', and_one] 
    all_goals first | rfl | (simp_all; done)
  · have hb : inZ a 0 (d.size - 1) = false := inZ_no.2 ha
    rw [hb] at c1
    have hd : decide (d.isRun a c) = false := decide_eq_false (by unfold GDisk.isRun; omega)
    rw [hd]
    (try (simp -implicitDefEqProofs only [go_sem, diskD_eq, diskC_eq])); repeat' first | with_reducible exact True.intro | with_reducible refine And.intro ?_ ?_ | with_reducible intro _ | (((with_reducible refine isCall ?_); first | refine call_b (c1) rfl ?_ ?_ | refine call_d (c1) rfl ?_ | refine call_sb (c1) rfl ?_ ?_ | refine call_s (c1) rfl rfl ?_ | refine call_b (c2) rfl ?_ ?_ | refine call_d (c2) rfl ?_ | refine call_sb (c2) rfl ?_ ?_ | refine call_s (c2) rfl rfl ?_ | refine call_b (c3) rfl ?_ ?_ | refine call_d (c3) rfl ?_ | refine call_sb (c3) rfl ?_ ?_ | refine call_s (c3) rfl rfl ?_) <;> try (simp -implicitDefEqProofs only [go_sem, diskD_eq, diskC_eq])) | (((with_reducible refine vc_b ?_ ?_) <;> intro _) <;> try (simp -implicitDefEqProofs only [go_sem, diskD_eq, diskC_eq])) | simp (disch := omega) only [wrapI, wrapU, shl1, shl1', shl1'', shrN, shrN', and_one] 
    all_goals first | omega | (simp; done) | (simp; omega) | skip

theorem ref01_Copy_ret (d : GDisk) (hl : d.zones.length ≤ 1000) : Ret E0 F_ref01_Copy [diskD d] (diskD d.cp) := by
  refine ret_of_pw dec_ref01_Copy mixed (by simp) fun hwf => ?_
  rw [enter_eq]; unfold pc_ref01_Copy
  (try (simp -implicitDefEqProofs only [go_sem, diskD_eq, diskC_eq, zpsD_len, zpsD_unif, GDisk.cp])); repeat' first | with_reducible exact True.intro | with_reducible refine And.intro ?_ ?_ | with_reducible intro _ | (((with_reducible refine vc_b ?_ ?_) <;> intro _) <;> try (simp -implicitDefEqProofs only [go_sem, diskD_eq, diskC_eq, zpsD_len, zpsD_unif, GDisk.cp])) | simp (disch := omega) only [wrapI, wrapU, shl1, shl1', shl1'', shrN, shrN', and_one] 
  all_goals first | omega | (simp; done) | (simp; omega) | skip


end Go.Pw
end
