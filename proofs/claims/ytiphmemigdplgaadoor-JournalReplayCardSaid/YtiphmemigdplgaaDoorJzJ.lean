/- A part of the proof. -/
import Derived.Test.YtiphmemigdplgaaDoorJzI
import Derived.Test.YtiphmemigdplgaaDoorZonesSpec5
set_option linter.all false
open Go Go.Pw Go.Proofs
namespace Go.Pw
set_option linter.unusedSimpArgs false
set_option linter.unusedVariables false
set_option maxRecDepth 100000
set_option maxHeartbeats 1600000
theorem emp_len {α : Type} (l : List α) : l.isEmpty = decide (l.length = 0) := by cases l <;> simp
attribute [local congr] cg_pw cg_seqI cg_seqE cg_stepI cg_ev cg_evBin cg_condB cg_condV cg_thenQ cg_blockQ cg_onSome cg_onCells cg_onRow cg_onMap cg_onOpt cg_ghosts cg_ghost cg_evCall cg_part cg_rng cg_guardV cg_frzV cg_frpV cg_ownV cg_owcV cg_occV cg_occX cg_resK cg_res1 cg_yldP cg_rndE cg_onlyN cg_onHist
attribute [local irreducible] IntKind.wrap bitsOp Option.getD and or

theorem ref01_Switches_ret (d : GDisk) (h : d.ok = true) (a c : Int) (ha : 0 ≤ a) (hc : 1 ≤ c) (hs : a + c ≤ d.size) :
    Ret E0 F_ref01_Switches [diskD d, .int .i64 a, .int .i64 c] (.list (d.kinds a (c.toNat - 1)).isEmpty (ints (d.kinds a (c.toNat - 1)))) := by
  have g := good_of h
  refine ret_of_pw dec_ref01_Switches mixed (by simp) fun hwf => ?_
  have hsz := size_bound g
  have hlen := pls_len d
  have c1 := ref01_Places_ret d h
  have w0 : IntKind.i64.wrap (a + 1) = a + 1 := wrapI _ (by omega)
  have w1 : IntKind.i64.wrap (a + c) = a + c := wrapI _ (by omega)
  rw [enter_eq]; unfold pc_ref01_Switches
  (try (simp -implicitDefEqProofs only [go_sem, diskD_eq, diskC_eq, w0])); repeat' first | with_reducible exact True.intro | with_reducible refine And.intro ?_ ?_ | with_reducible intro _ | (((with_reducible refine isCall ?_); first | refine call_b (c1) rfl ?_ ?_ | refine call_d (c1) rfl ?_ | refine call_sb (c1) rfl ?_ ?_ | refine call_s (c1) rfl rfl ?_) <;> try (simp -implicitDefEqProofs only [go_sem, diskD_eq, diskC_eq, w0])) | (((with_reducible refine vc_b ?_ ?_) <;> intro _) <;> try (simp -implicitDefEqProofs only [go_sem, diskD_eq, diskC_eq, w0])) | simp (disch := omega) only [wrapI, wrapU, shl1, shl1', shl1'', shrN, shrN', and_one] | ((with_reducible refine isEx3 ?_); refine ⟨(_, _, _), rfl, ?_, ?_⟩)
  all_goals first | omega | (simp; done) | (simp; omega) | skip
  refine pw_loopS (α := Int × (List Int) × Bool) (l0 := ?l1) (m0 := ?m1) (fun x => [(9, .d (.int .i64 x.1))]) (fun x => [(49, .row 3 1 x.2.2 (ints x.2.1))]) (fun x => (a + 1 ≤ x.1 ∧ x.1 ≤ a + c) ∧ x.2.1 = d.kinds a (x.1 - a - 1).toNat ∧ x.2.2 = x.2.1.isEmpty) (fun x => (a + c - x.1).toNat) (?a1_0, [], true) ?h01 ?he1 ?he21 ?hI1 ?step1
  case h01 => (simp -implicitDefEqProofs only [go_sem, plsD_len]; rfl)
  case he1 => rfl
  case he21 => rfl
  case' step1 => (rintro ⟨n, out, b⟩ hI; try dsimp only at hI)
  case' hI1 => try dsimp only
  · refine ⟨⟨by omega, by omega⟩, ?_, rfl⟩
    rw [show (a + 1 - a - 1).toNat = 0 by omega]; rfl
  · obtain ⟨⟨h1, h2⟩, h3, h4⟩ := hI
    by_cases hn : n < a + c
    · have hk := kinds_succ d a (n - a - 1).toNat
      rw [← h3, show a + 1 + (((n - a - 1).toNat : Nat) : Int) = n by omega, show (n - a - 1).toNat + 1 = (n + 1 - a - 1).toNat by omega, kindN_pl g (by omega) (by omega)] at hk
      have hg1 := pls_get (d := d) n (by omega) (by omega)
      have hg2 := pls_get (d := d) (n - 1) (by omega) (by omega)
      obtain ⟨p, hp⟩ : ∃ p, d.pl n = p := ⟨_, rfl⟩
      obtain ⟨q, hq⟩ : ∃ q, d.pl (n - 1) = q := ⟨_, rfl⟩
      rw [hp] at hg1 hk; rw [hq] at hg2 hk
      have i1 : n < d.pls.length := by omega
      have i2 : n - 1 < d.pls.length := by omega
      have i3 : 0 ≤ n := by omega
      have i4 : 0 ≤ n - 1 := by omega
      have w2 : IntKind.i64.wrap (n - 1) = n - 1 := wrapI _ (by omega)
      have w3 : IntKind.i64.wrap (n + 1) = n + 1 := wrapI _ (by omega)
      have ol := kinds_len d a (n - a - 1).toNat
      rw [← h3] at ol
      have hemp : ∀ z : Int, (out ++ [z]).isEmpty = false := fun z => isEmpty_snocZ out z
      by_cases e1 : p.1 = q.1
      · by_cases e2 : p.2.1 = q.2.1
        · rw [if_neg (by simpa using e1), if_neg (by simpa using e2)] at hk
          (try (simp -implicitDefEqProofs only [go_sem, plsD_len, onSome_pls, hg1, hg2, plD_eq, plsD_unif, i1, i2, i3, i4, w1, w2, w3, hn, e1, e2])); repeat' first | with_reducible exact True.intro | with_reducible refine And.intro ?_ ?_ | with_reducible intro _ | (((with_reducible refine vc_b ?_ ?_) <;> intro _) <;> try (simp -implicitDefEqProofs only [go_sem, plsD_len, onSome_pls, hg1, hg2, plD_eq, plsD_unif, i1, i2, i3, i4, w1, w2, w3, hn, e1, e2])) | simp (disch := omega) only [wrapI, wrapU, shl1, shl1', shl1'', shrN, shrN', and_one] | ((with_reducible refine isEx3 ?_); refine ⟨(_, _, _), rfl, ?_, ?_⟩)
          all_goals first | omega | (simp; done) | (simp; omega) | skip
          all_goals first | exact hk.symm | exact (hemp _).symm
        · rw [if_neg (by simpa using e1), if_pos (by simpa using e2)] at hk
          (try (simp -implicitDefEqProofs only [go_sem, plsD_len, onSome_pls, hg1, hg2, plD_eq, plsD_unif, i1, i2, i3, i4, w1, w2, w3, hn, e1, e2])); repeat' first | with_reducible exact True.intro | with_reducible refine And.intro ?_ ?_ | with_reducible intro _ | (((with_reducible refine vc_b ?_ ?_) <;> intro _) <;> try (simp -implicitDefEqProofs only [go_sem, plsD_len, onSome_pls, hg1, hg2, plD_eq, plsD_unif, i1, i2, i3, i4, w1, w2, w3, hn, e1, e2])) | simp (disch := omega) only [wrapI, wrapU, shl1, shl1', shl1'', shrN, shrN', and_one] | ((with_reducible refine isEx3 ?_); refine ⟨(_, _, _), rfl, ?_, ?_⟩)
          all_goals first | omega | (simp; done) | (simp; omega) | skip
          all_goals first | exact hk.symm | exact (hemp _).symm
      · rw [if_pos (by simpa using e1)] at hk
        (try (simp -implicitDefEqProofs only [go_sem, plsD_len, onSome_pls, hg1, hg2, plD_eq, plsD_unif, i1, i2, i3, i4, w1, w2, w3, hn, e1])); repeat' first | with_reducible exact True.intro | with_reducible refine And.intro ?_ ?_ | with_reducible intro _ | (((with_reducible refine vc_b ?_ ?_) <;> intro _) <;> try (simp -implicitDefEqProofs only [go_sem, plsD_len, onSome_pls, hg1, hg2, plD_eq, plsD_unif, i1, i2, i3, i4, w1, w2, w3, hn, e1])) | simp (disch := omega) only [wrapI, wrapU, shl1, shl1', shl1'', shrN, shrN', and_one] | ((with_reducible refine isEx3 ?_); refine ⟨(_, _, _), rfl, ?_, ?_⟩)
        all_goals first | omega | (simp; done) | (simp; omega) | skip
        all_goals first | exact hk.symm | exact (hemp _).symm
    · have hne : n = a + c := by omega
      have hk : out = d.kinds a (c.toNat - 1) := by rw [h3, show (n - a - 1).toNat = c.toNat - 1 by omega]
      rw [← hk, ← h4]
      (try (simp -implicitDefEqProofs only [go_sem, hn, w1])); repeat' first | with_reducible exact True.intro | with_reducible refine And.intro ?_ ?_ | with_reducible intro _ | (((with_reducible refine vc_b ?_ ?_) <;> intro _) <;> try (simp -implicitDefEqProofs only [go_sem, hn, w1])) | simp (disch := omega) only [wrapI, wrapU, shl1, shl1', shl1'', shrN, shrN', and_one] | ((with_reducible refine isEx3 ?_); refine ⟨(_, _, _), rfl, ?_, ?_⟩)
      all_goals first | omega | (simp; done) | (simp; omega) | skip

theorem ref01_SwitchOf_ret (d : GDisk) (e : Int) : Ret E0 F_ref01_SwitchOf [diskD d, .int .i64 e] (.tup [.agg [.int .i64 (d.swLo e), .int .i64 (d.swHi e)], .int .i64 (d.swSk e)]) := by
  refine ret_of_pw dec_ref01_SwitchOf mixed (by simp) fun hwf => ?_
  rw [enter_eq]; unfold pc_ref01_SwitchOf GDisk.swLo GDisk.swHi GDisk.swSk
  by_cases h1 : e = 1
  · (try (simp -implicitDefEqProofs only [go_sem, diskD_eq, diskC_eq, h1])); repeat' first | with_reducible exact True.intro | with_reducible refine And.intro ?_ ?_ | with_reducible intro _ | (((with_reducible refine vc_b ?_ ?_) <;> intro _) <;> try (simp -implicitDefEqProofs only [go_sem, diskD_eq, diskC_eq, h1])) | simp (disch := omega) only [wrapI, wrapU, shl1, shl1', shl1'', shrN, shrN', and_one] 
    all_goals first | omega | (simp; done) | (simp; omega) | skip
  · by_cases h2 : e = 2
    · (try (simp -implicitDefEqProofs only [go_sem, diskD_eq, diskC_eq, h2])); repeat' first | with_reducible exact True.intro | with_reducible refine And.intro ?_ ?_ | with_reducible intro _ | (((with_reducible refine vc_b ?_ ?_) <;> intro _) <;> try (simp -implicitDefEqProofs only [go_sem, diskD_eq, diskC_eq, h2])) | simp (disch := omega) only [wrapI, wrapU, shl1, shl1', shl1'', shrN, shrN', and_one] 
      all_goals first | omega | (simp; done) | (simp; omega) | skip
    · (try (simp -implicitDefEqProofs only [go_sem, diskD_eq, diskC_eq, h1, h2])); repeat' first | with_reducible exact True.intro | with_reducible refine And.intro ?_ ?_ | with_reducible intro _ | (((with_reducible refine vc_b ?_ ?_) <;> intro _) <;> try (simp -implicitDefEqProofs only [go_sem, diskD_eq, diskC_eq, h1, h2])) | simp (disch := omega) only [wrapI, wrapU, shl1, shl1', shl1'', shrN, shrN', and_one] 
      all_goals first | omega | (simp; done) | (simp; omega) | skip

theorem ref01_Gap_ret (d : GDisk) (g : d.Good) (e t : Int) (he : e = 1 ∨ e = 2) (ht : 0 ≤ t ∧ t ≤ 2000) : Ret E0 F_ref01_Gap [diskD d, .int .i64 e, .int .i64 t] (.int .i64 (d.gapK e t)) := by
  refine ret_of_pw dec_ref01_Gap mixed (by simp) fun hwf => ?_
  have t1 := g.t1; have t2 := g.t2; have k1 := g.k1; have k2 := g.k2; have c1 := g.c1; have c2 := g.c2
  have s1 := ref01_SwitchOf_ret d e
  obtain ⟨sk, hsk⟩ : ∃ sk, d.swSk e = sk := ⟨_, rfl⟩
  have hskb : 0 ≤ sk ∧ sk < d.turn := by subst hsk; unfold GDisk.swSk; rcases he with rfl | rfl <;> simp <;> omega
  have hgk : d.gapK e t = gapV d.turn sk t := by subst hsk; unfold GDisk.gapK GDisk.swSk; rcases he with rfl | rfl <;> simp
  have s2 := ref01_After_ret d g t sk (by omega) (by omega)
  have hb1 := Int.emod_nonneg (sk - t) (b := d.turn) (by omega)
  have hb2 := Int.emod_lt_of_pos (sk - t) (b := d.turn) (by omega)
  have hv := gapV_after (t := d.turn) (s := sk) (x := t) (by omega) hskb ht.1
  have hv2 : t + (sk - t) % d.turn = gapV d.turn sk t := by
    rw [← hv]; congr 1
    have hb3 := Int.lt_tmod_of_pos (sk - t) (b := d.turn) (by omega)
    rw [Int.tmod_eq_emod_of_nonneg (by omega), Int.add_emod_right]
    have h3 := Int.mul_tdiv_add_tmod (sk - t) d.turn
    have h4 : (sk - t).tmod d.turn = (sk - t) + d.turn * (-(sk - t).tdiv d.turn) := by rw [Int.mul_neg]; omega
    rw [h4, Int.add_mul_emod_self_left]
  rw [hsk] at s1
  have w1 : IntKind.i64.wrap (t + (sk - t) % d.turn) = gapV d.turn sk t := by rw [← hv2]; exact wrapI _ (by omega)
  rw [hgk, enter_eq]; unfold pc_ref01_Gap
  (try (simp -implicitDefEqProofs only [go_sem, diskD_eq, diskC_eq, w1])); repeat' first | with_reducible exact True.intro | with_reducible refine And.intro ?_ ?_ | with_reducible intro _ | (((with_reducible refine isCall ?_); first | refine call_b (s1) rfl ?_ ?_ | refine call_d (s1) rfl ?_ | refine call_sb (s1) rfl ?_ ?_ | refine call_s (s1) rfl rfl ?_ | refine call_b (s2) rfl ?_ ?_ | refine call_d (s2) rfl ?_ | refine call_sb (s2) rfl ?_ ?_ | refine call_s (s2) rfl rfl ?_) <;> try (simp -implicitDefEqProofs only [go_sem, diskD_eq, diskC_eq, w1])) | (((with_reducible refine vc_b ?_ ?_) <;> intro _) <;> try (simp -implicitDefEqProofs only [go_sem, diskD_eq, diskC_eq, w1])) | simp (disch := omega) only [wrapI, wrapU, shl1, shl1', shl1'', shrN, shrN', and_one] 
  all_goals first | omega | (simp; done) | (simp; omega) | skip

end Go.Pw
