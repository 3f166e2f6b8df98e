/- A part of the proof. -/
import Derived.Test.YtiphmemigdplgaaDoorJzG
set_option linter.all false
open Go Go.Pw Go.Proofs
namespace Go.Pw
set_option linter.unusedSimpArgs false
set_option linter.unusedVariables false
set_option maxRecDepth 100000
set_option maxHeartbeats 1600000
theorem emp_plsN (d : GDisk) (n : Nat) (h : 0 < n) : (d.plsN n).isEmpty = false := by
  cases hp : d.plsN n with
  | nil => have := plsN_len d n; rw [hp] at this; simp at this; omega
  | cons _ _ => rfl
theorem isEmpty_snocZ {α : Type} (l : List α) (x : α) : (l ++ [x]).isEmpty = false := by cases l <;> rfl
attribute [local congr] cg_pw cg_seqI cg_seqE cg_stepI cg_ev cg_evBin cg_condB cg_condV cg_thenQ cg_blockQ cg_onSome cg_onCells cg_onRow cg_onMap cg_onOpt cg_ghosts cg_ghost cg_evCall cg_part cg_rng cg_guardV cg_frzV cg_frpV cg_ownV cg_owcV cg_occV cg_occX cg_resK cg_res1 cg_yldP cg_rndE cg_onlyN cg_onHist
attribute [local irreducible] IntKind.wrap bitsOp Option.getD and or

theorem ref01_Places_ret (d : GDisk) (h : d.ok = true) : Ret E0 F_ref01_Places [diskD d] (.list false (plsD d.pls)) := by
  have g := good_of h
  refine ret_of_pw dec_ref01_Places mixed (by simp) fun hwf => ?_
  have z2 := g.z2; have g1 := g.h1; have g2 := g.h2; have hH := g.hn; have hnt := g.nt; have hcy := g.cyls
  have hsz := size_bound g
  have c1 := ref01_Cylinders_ret d h
  rw [enter_eq]; unfold pc_ref01_Places
  (try (simp -implicitDefEqProofs only [go_sem, diskD_eq, diskC_eq])); repeat' first | with_reducible exact True.intro | with_reducible refine And.intro ?_ ?_ | with_reducible intro _ | (((with_reducible refine vc_b ?_ ?_) <;> intro _) <;> try (simp -implicitDefEqProofs only [go_sem, diskD_eq, diskC_eq])) | simp (disch := omega) only [wrapI, wrapU, shl1, shl1', shl1'', shrN, shrN', and_one] | ((with_reducible refine isEx3 ?_); refine ⟨(_, _, _), rfl, ?_, ?_⟩)
  all_goals first | omega | (simp; done) | (simp; omega) | skip
  refine pw_loopS (α := Int × (List (Int × Int × Int)) × Bool) (l0 := ?l1) (m0 := ?m1) (fun x => [(4, .d (.int .i64 x.1))]) (fun x => [(32, .row 131 3 x.2.2 (plsD x.2.1))]) (fun x => (0 ≤ x.1 ∧ x.1 ≤ d.cyls) ∧ x.2.1 = d.plsN (d.tf (x.1.toNat * d.heads.toNat)).toNat ∧ x.2.2 = x.2.1.isEmpty) (fun x => (d.cyls - x.1).toNat) (?a1_0, [], true) ?h01 ?he1 ?he21 ?hI1 ?step1
  case h01 => (simp -implicitDefEqProofs only [go_sem, diskC_eq]; rfl)
  case he1 => rfl
  case he21 => rfl
  case' step1 => (rintro ⟨c, out, b⟩ hI; try dsimp only at hI)
  case' hI1 => try dsimp only
  · exact ⟨⟨by omega, by omega⟩, by simp [GDisk.plsN, GDisk.tf], rfl⟩
  · obtain ⟨⟨h1, h2⟩, h3, h4⟩ := hI
    have w1 : IntKind.i64.wrap (c + 1) = c + 1 := wrapI _ (by omega)
    by_cases hc : c < d.cyls
    · have c2 := ref01_Sectors_ret d h c h1 hc
      (try (simp -implicitDefEqProofs only [go_sem, diskC_eq, diskD_eq, hc])); repeat' first | with_reducible exact True.intro | with_reducible refine And.intro ?_ ?_ | with_reducible intro _ | (((with_reducible refine isCall ?_); first | refine call_b (c1) rfl ?_ ?_ | refine call_d (c1) rfl ?_ | refine call_sb (c1) rfl ?_ ?_ | refine call_s (c1) rfl rfl ?_) <;> try (simp -implicitDefEqProofs only [go_sem, diskC_eq, diskD_eq, hc])) | (((with_reducible refine vc_b ?_ ?_) <;> intro _) <;> try (simp -implicitDefEqProofs only [go_sem, diskC_eq, diskD_eq, hc])) | simp (disch := omega) only [wrapI, wrapU, shl1, shl1', shl1'', shrN, shrN', and_one] | ((with_reducible refine isEx3 ?_); refine ⟨(_, _, _), rfl, ?_, ?_⟩)
      all_goals first | omega | (simp; done) | (simp; omega) | skip
      refine pw_loopS (α := Int × (List (Int × Int × Int)) × Bool) (l0 := ?l2) (m0 := ?m2) (fun x => [(5, .d (.int .i64 x.1))]) (fun x => [(32, .row 131 3 x.2.2 (plsD x.2.1))]) (fun x => (0 ≤ x.1 ∧ x.1 ≤ d.heads) ∧ x.2.1 = d.plsN (d.tf (c.toNat * d.heads.toNat + x.1.toNat)).toNat ∧ x.2.2 = x.2.1.isEmpty) (fun x => (d.heads - x.1).toNat) (?a2_0, ?a2_1, ?a2_2) ?h02 ?he2 ?he22 ?hI2 ?step2
      case h02 => (simp -implicitDefEqProofs only [go_sem, diskC_eq]; rfl)
      case he2 => rfl
      case he22 => rfl
      case' step2 => (rintro ⟨k, out, b⟩ hI2; try dsimp only at hI2)
      case' hI2 => try dsimp only
      · exact ⟨⟨by omega, by omega⟩, by simpa using h3, h4⟩
      · obtain ⟨⟨q1, q2⟩, q3, q4⟩ := hI2
        have w2 : IntKind.i64.wrap (k + 1) = k + 1 := wrapI _ (by omega)
        by_cases hk : k < d.heads
        · have hlt : c.toNat * d.heads.toNat + k.toNat < d.nt := by
            unfold GDisk.nt
            calc c.toNat * d.heads.toNat + k.toNat < c.toNat * d.heads.toNat + d.heads.toNat := by omega
              _ = (c.toNat + 1) * d.heads.toNat := by rw [Nat.succ_mul]
              _ ≤ d.cyls * d.heads.toNat := Nat.mul_le_mul_right _ (by omega)
          have hts := ts_at (d := d) c.toNat k.toNat (by omega)
          have htc := tc_at (d := d) c.toNat k.toNat (by omega)
          have hth := th_at (d := d) c.toNat k.toNat (by omega)
          have htb := g.ts hlt
          have htf := g.tf _ (Nat.le_of_lt hlt)
          have htn : d.tf (c.toNat * d.heads.toNat + (k + 1).toNat) = d.tf (c.toNat * d.heads.toNat + k.toNat) + d.ts (c.toNat * d.heads.toNat + k.toNat) := by
            rw [show c.toNat * d.heads.toNat + (k + 1).toNat = c.toNat * d.heads.toNat + k.toNat + 1 by omega, GDisk.tf]
          obtain ⟨t, ht⟩ : ∃ t, c.toNat * d.heads.toNat + k.toNat = t := ⟨_, rfl⟩
          rw [ht] at hlt hts htc hth htb htf htn q3
          rw [← hts] at c2
          (try (simp -implicitDefEqProofs only [go_sem, diskC_eq, diskD_eq, hk])); repeat' first | with_reducible exact True.intro | with_reducible refine And.intro ?_ ?_ | with_reducible intro _ | (((with_reducible refine vc_b ?_ ?_) <;> intro _) <;> try (simp -implicitDefEqProofs only [go_sem, diskC_eq, diskD_eq, hk])) | simp (disch := omega) only [wrapI, wrapU, shl1, shl1', shl1'', shrN, shrN', and_one] | ((with_reducible refine isEx3 ?_); refine ⟨(_, _, _), rfl, ?_, ?_⟩)
          all_goals first | omega | (simp; done) | (simp; omega) | skip
          refine pw_loopS (α := Int × (List (Int × Int × Int)) × Bool) (l0 := ?l3) (m0 := ?m3) (fun x => [(6, .d (.int .i64 x.1))]) (fun x => [(32, .row 131 3 x.2.2 (plsD x.2.1))]) (fun x => (0 ≤ x.1 ∧ x.1 ≤ d.ts t) ∧ x.2.1 = d.plsN (d.tf t + x.1).toNat ∧ x.2.2 = x.2.1.isEmpty) (fun x => (d.ts t - x.1).toNat) (?a3_0, ?a3_1, ?a3_2) ?h03 ?he3 ?he23 ?hI3 ?step3
          case h03 => (simp -implicitDefEqProofs only [go_sem, diskC_eq]; rfl)
          case he3 => rfl
          case he23 => rfl
          case' step3 => (rintro ⟨s, out, b⟩ hI3; try dsimp only at hI3)
          case' hI3 => try dsimp only
          · exact ⟨⟨by omega, by omega⟩, by simpa using q3, q4⟩
          · obtain ⟨⟨r1, r2⟩, r3, r4⟩ := hI3
            have w3 : IntKind.i64.wrap (s + 1) = s + 1 := wrapI _ (by omega)
            have hlen := plsN_len d (d.tf t + s).toNat
            rw [← r3] at hlen
            by_cases hs : s < d.ts t
            · have hpl := pl_at g hlt (s := s) ⟨r1, hs⟩
              have hnx : d.plsN (d.tf t + (s + 1)).toNat = out ++ [(c, k, s)] := by
                rw [show (d.tf t + (s + 1)).toNat = (d.tf t + s).toNat + 1 by omega, plsN_succ, ← r3, show (((d.tf t + s).toNat : Nat) : Int) = d.tf t + s by omega, hpl, htc, hth]
                simp only [List.append_cancel_left_eq, List.cons.injEq, Prod.mk.injEq, and_true]; omega
              have hemp := isEmpty_snocZ out (c, k, s)
              (try (simp -implicitDefEqProofs only [go_sem, diskC_eq, diskD_eq, hs, plsD_len, plsD_unif, plsD_snoc, w3])); repeat' first | with_reducible exact True.intro | with_reducible refine And.intro ?_ ?_ | with_reducible intro _ | (((with_reducible refine isCall ?_); first | refine call_b (c2) rfl ?_ ?_ | refine call_d (c2) rfl ?_ | refine call_sb (c2) rfl ?_ ?_ | refine call_s (c2) rfl rfl ?_) <;> try (simp -implicitDefEqProofs only [go_sem, diskC_eq, diskD_eq, hs, plsD_len, plsD_unif, plsD_snoc, w3])) | (((with_reducible refine vc_b ?_ ?_) <;> intro _) <;> try (simp -implicitDefEqProofs only [go_sem, diskC_eq, diskD_eq, hs, plsD_len, plsD_unif, plsD_snoc, w3])) | simp (disch := omega) only [wrapI, wrapU, shl1, shl1', shl1'', shrN, shrN', and_one] | ((with_reducible refine isEx3 ?_); refine ⟨(_, _, _), rfl, ?_, ?_⟩)
              all_goals first | omega | (simp; done) | (simp; omega) | skip
              all_goals exact hnx.symm
            · have hse : s = d.ts t := by omega
              (try (simp -implicitDefEqProofs only [go_sem, diskC_eq, diskD_eq, hs, w2])); repeat' first | with_reducible exact True.intro | with_reducible refine And.intro ?_ ?_ | with_reducible intro _ | (((with_reducible refine isCall ?_); first | refine call_b (c2) rfl ?_ ?_ | refine call_d (c2) rfl ?_ | refine call_sb (c2) rfl ?_ ?_ | refine call_s (c2) rfl rfl ?_) <;> try (simp -implicitDefEqProofs only [go_sem, diskC_eq, diskD_eq, hs, w2])) | (((with_reducible refine vc_b ?_ ?_) <;> intro _) <;> try (simp -implicitDefEqProofs only [go_sem, diskC_eq, diskD_eq, hs, w2])) | simp (disch := omega) only [wrapI, wrapU, shl1, shl1', shl1'', shrN, shrN', and_one] | ((with_reducible refine isEx3 ?_); refine ⟨(_, _, _), rfl, ?_, ?_⟩)
              all_goals first | omega | (simp; done) | (simp; omega) | skip
              all_goals (rw [htn, ← hse]; exact r3)
        · have hke : k = d.heads := by omega
          have hnn : c.toNat * d.heads.toNat + k.toNat = (c + 1).toNat * d.heads.toNat := by rw [hke, show (c + 1).toNat = c.toNat + 1 by omega, Nat.succ_mul]
          rw [hnn] at q3
          (try (simp -implicitDefEqProofs only [go_sem, diskC_eq, diskD_eq, hk, w1])); repeat' first | with_reducible exact True.intro | with_reducible refine And.intro ?_ ?_ | with_reducible intro _ | (((with_reducible refine vc_b ?_ ?_) <;> intro _) <;> try (simp -implicitDefEqProofs only [go_sem, diskC_eq, diskD_eq, hk, w1])) | simp (disch := omega) only [wrapI, wrapU, shl1, shl1', shl1'', shrN, shrN', and_one] | ((with_reducible refine isEx3 ?_); refine ⟨(_, _, _), rfl, ?_, ?_⟩)
          all_goals first | omega | (simp; done) | (simp; omega) | skip
    · have hce : c = d.cyls := by omega
      have hfin : out = d.pls := by rw [h3, hce]; simp [GDisk.pls, GDisk.size, GDisk.nt]
      have hb : b = false := by rw [h4, hfin]; exact emp_plsN d _ (by omega)
      (try (simp -implicitDefEqProofs only [go_sem, diskC_eq, diskD_eq, hc, hfin, hb])); repeat' first | with_reducible exact True.intro | with_reducible refine And.intro ?_ ?_ | with_reducible intro _ | (((with_reducible refine isCall ?_); first | refine call_b (c1) rfl ?_ ?_ | refine call_d (c1) rfl ?_ | refine call_sb (c1) rfl ?_ ?_ | refine call_s (c1) rfl rfl ?_) <;> try (simp -implicitDefEqProofs only [go_sem, diskC_eq, diskD_eq, hc, hfin, hb])) | (((with_reducible refine vc_b ?_ ?_) <;> intro _) <;> try (simp -implicitDefEqProofs only [go_sem, diskC_eq, diskD_eq, hc, hfin, hb])) | simp (disch := omega) only [wrapI, wrapU, shl1, shl1', shl1'', shrN, shrN', and_one] | ((with_reducible refine isEx3 ?_); refine ⟨(_, _, _), rfl, ?_, ?_⟩)
      all_goals first | omega | (simp; done) | (simp; omega) | skip

end Go.Pw
