/- A part of the proof. -/
import Derived.Test.YtiphmemigdplgaaDoorPgJzF
import Derived.Test.YtiphmemigdplgaaDoorPgZonesSpec
set_option linter.all false
section
open Go Go.Pw Go.Proofs
namespace Go.Pw
set_option linter.unusedSimpArgs false
set_option linter.unusedVariables false
set_option maxRecDepth 100000
set_option maxHeartbeats 1600000
theorem pl_inj {d : GDisk} (g : d.Good) {i j : Int} (hi : 0 ≤ i ∧ i < d.size) (hj : 0 ≤ j ∧ j < d.size) (h : d.pl i = d.pl j) : i = j := by
  obtain ⟨a, ha⟩ := Option.isSome_iff_exists.1 ((kOf_iff g i).2 hi)
  obtain ⟨b, hb⟩ := Option.isSome_iff_exists.1 ((kOf_iff g j).2 hj)
  unfold GDisk.pl at h
  rw [ha, hb] at h
  simp only [Prod.mk.injEq] at h
  have := tch_inj h.1 h.2.1
  subst this
  omega
theorem pls_get {d : GDisk} (i : Int) (h0 : 0 ≤ i) (h1 : i < d.size) : d.pls[i.toNat]?.getD default = d.pl i := by
  unfold GDisk.pls; rw [plsN_get _ _ _ (by omega), show ((i.toNat : Nat) : Int) = i by omega]
theorem pls_len (d : GDisk) : d.pls.length = d.size.toNat := plsN_len d _
theorem place_pl {d : GDisk} (g : d.Good) {n : Int} {k : Nat} (h : d.kOf n = some k) : d.pl n = (d.tc k, d.th k, n - d.tf k) := by unfold GDisk.pl; rw [h]
theorem to_eq {d : GDisk} (g : d.Good) : ∀ k, d.to k = (d.tc k * d.cskew + (d.tc k * (d.heads - 1) + d.th k) * d.hskew) % d.turn
  | 0 => by simp [GDisk.to, GDisk.tc, GDisk.th]
  | k + 1 => by
    obtain ⟨n1, n2⟩ := tch_next g k
    rw [GDisk.to, to_eq g k]
    by_cases h : d.th k = d.heads - 1
    · have h1 := n1 h
      have h2 : d.th (k + 1) = 0 := by
        have hp := g.hp; have hn := g.hn
        have e1 := Nat.div_add_mod (k + 1) d.heads.toNat
        have e2 := Nat.div_add_mod k d.heads.toNat
        unfold GDisk.tc at h1; unfold GDisk.th at h ⊢
        have : (k + 1) / d.heads.toNat = k / d.heads.toNat + 1 := by omega
        rw [this, Nat.mul_add] at e1
        omega
      rw [if_pos h, h1, h2, h, Int.emod_add_emod]
      congr 1
      generalize d.heads - 1 = m
      simp only [Int.add_mul, Int.one_mul, Int.add_zero]; omega
    · obtain ⟨h1, h2⟩ := n2 h
      rw [if_neg h, h1, h2, Int.emod_add_emod]
      congr 1
      simp only [Int.add_mul, Int.one_mul]; omega
theorem tc_nn {d : GDisk} (k : Nat) : 0 ≤ d.tc k := Int.natCast_nonneg _
def GDisk.csec (d : GDisk) (n : Int) : Int := if d.ok then (if inZ n 0 (d.size - 1) then 0 else 1) else 10
attribute [local congr] cg_pw cg_seqI cg_seqE cg_stepI cg_ev cg_evBin cg_condB cg_condV cg_thenQ cg_blockQ cg_onSome cg_onCells cg_onRow cg_onMap cg_onOpt cg_ghosts cg_ghost cg_evCall cg_part cg_rng cg_guardV cg_frzV cg_frpV cg_ownV cg_owcV cg_occV cg_occX cg_resK cg_res1 cg_yldP cg_rndE cg_onlyN cg_onHist
attribute [local irreducible] IntKind.wrap bitsOp Option.getD and or

theorem ref01_IsSector_ret (d : GDisk) (h : d.ok = true) (n : Int) : Ret E0 F_ref01_IsSector [diskD d, .int .i64 n] (.bool (inZ n 0 (d.size - 1))) := by
  refine ret_of_pw dec_ref01_IsSector mixed (by simp) fun hwf => ?_
  have g := good_of h
  have hsz := size_bound g
  have c1 := ref01_Count_ret d h
  have c2 := ref01_within_ret n 0 (d.size - 1)
  have w1 : IntKind.i64.wrap (d.size - 1) = d.size - 1 := wrapI _ (by omega)
  rw [enter_eq]; unfold pc_ref01_IsSector
  cases hb : inZ n 0 (d.size - 1) with
  | false => rw [hb] at c2; (try (simp -implicitDefEqProofs only [go_sem, diskD_eq, diskC_eq, w1])); repeat' first | with_reducible exact True.intro | with_reducible refine And.intro ?_ ?_ | with_reducible intro _ | (((with_reducible refine isCall ?_); first | refine call_b (c1) rfl ?_ ?_ | refine call_d (c1) rfl ?_ | refine call_sb (c1) rfl ?_ ?_ | refine call_s (c1) rfl rfl ?_ | refine call_b (c2) rfl ?_ ?_ | refine call_d (c2) rfl ?_ | refine call_sb (c2) rfl ?_ ?_ | refine call_s (c2) rfl rfl ?_) <;> try (simp -implicitDefEqProofs only [go_sem, diskD_eq, diskC_eq, w1])) | (((with_reducible refine vc_b ?_ ?_) <;> intro _) <;> try (simp -implicitDefEqProofs only [go_sem, diskD_eq, diskC_eq, w1])) | simp (disch := omega) only [wrapI, wrapU, shl1, shl1', shl1'', shrN, shrN', and_one] 
  | true => rw [hb] at c2; (try (simp -implicitDefEqProofs only [go_sem, diskD_eq, diskC_eq, w1])); repeat' first | with_reducible exact True.intro | with_reducible refine And.intro ?_ ?_ | with_reducible intro _ | (((with_reducible refine isCall ?_); first | refine call_b (c1) rfl ?_ ?_ | refine call_d (c1) rfl ?_ | refine call_sb (c1) rfl ?_ ?_ | refine call_s (c1) rfl rfl ?_ | refine call_b (c2) rfl ?_ ?_ | refine call_d (c2) rfl ?_ | refine call_sb (c2) rfl ?_ ?_ | refine call_s (c2) rfl rfl ?_) <;> try (simp -implicitDefEqProofs only [go_sem, diskD_eq, diskC_eq, w1])) | (((with_reducible refine vc_b ?_ ?_) <;> intro _) <;> try (simp -implicitDefEqProofs only [go_sem, diskD_eq, diskC_eq, w1])) | simp (disch := omega) only [wrapI, wrapU, shl1, shl1', shl1'', shrN, shrN', and_one] 

theorem csec_cases (d : GDisk) (n : Int) : (d.ok = false ∧ d.csec n = 10) ∨ (d.ok = true ∧ d.kOf n = none ∧ d.csec n = 1) ∨ (d.ok = true ∧ (0 ≤ n ∧ n < d.size) ∧ d.csec n = 0 ∧ ∃ k, d.kOf n = some k) := by
  unfold GDisk.csec
  cases h : d.ok with
  | false => left; simp
  | true =>
    right
    have g := good_of h
    by_cases hb : 0 ≤ n ∧ n < d.size
    · right
      exact ⟨rfl, hb, by rw [inZ_iff.2 (by omega)]; simp, Option.isSome_iff_exists.1 ((kOf_iff g n).2 hb)⟩
    · left
      refine ⟨rfl, ?_, by rw [inZ_no.2 (by omega)]; simp⟩
      cases hk : d.kOf n with
      | none => rfl
      | some k => exact absurd ((kOf_iff g n).1 (by rw [hk]; rfl)) hb

theorem ref01_After_ret (d : GDisk) (g : d.Good) (time a : Int) (h1 : 0 ≤ time ∧ time ≤ 1000000000) (h2 : 0 ≤ a ∧ a ≤ 1000000000) : Ret E0 F_ref01_After [diskD d, .int .i64 time, .int .i64 a] (.int .i64 ((a - time) % d.turn)) := by
  refine ret_of_pw dec_ref01_After mixed (by simp) fun hwf => ?_
  have t1 := g.t1; have t2 := g.t2
  have hb1 := Int.lt_tmod_of_pos (a - time) (b := d.turn) (by omega)
  have hb2 := Int.tmod_lt_of_pos (a - time) (b := d.turn) (by omega)
  have w1 : IntKind.i64.wrap (a - time) = a - time := wrapI _ (by omega)
  have w2 : IntKind.i64.wrap ((a - time).tmod d.turn + d.turn) = (a - time).tmod d.turn + d.turn := wrapI _ (by omega)
  have w3 : ((a - time).tmod d.turn + d.turn).tmod d.turn = (a - time) % d.turn := by
    rw [Int.tmod_eq_emod_of_nonneg (by omega), Int.add_emod_right]
    have h3 := Int.mul_tdiv_add_tmod (a - time) d.turn
    have h4 : (a - time).tmod d.turn = (a - time) + d.turn * (-(a - time).tdiv d.turn) := by rw [Int.mul_neg]; omega
    rw [h4, Int.add_mul_emod_self_left]
  have hne2 : ¬ d.turn = 0 := by omega
  rw [enter_eq]; unfold pc_ref01_After
  (try (simp -implicitDefEqProofs only [go_sem, diskD_eq, diskC_eq, w1, w2, w3, hne2])); repeat' first | with_reducible exact True.intro | with_reducible refine And.intro ?_ ?_ | with_reducible intro _ | (((with_reducible refine vc_b ?_ ?_) <;> intro _) <;> try (simp -implicitDefEqProofs only [go_sem, diskD_eq, diskC_eq, w1, w2, w3, hne2])) | simp (disch := omega) only [wrapI, wrapU, shl1, shl1', shl1'', shrN, shrN', and_one] 
  all_goals first | omega | (simp; done) | (simp; omega) | skip


end Go.Pw
end
section
open Go Go.Pw Go.Proofs
namespace Go.Pw
set_option linter.unusedSimpArgs false
set_option linter.unusedVariables false
set_option maxRecDepth 100000
set_option maxHeartbeats 1600000
theorem emp_len {α : Type} (l : List α) : l.isEmpty = decide (l.length = 0) := by cases l <;> simp
attribute [local congr] cg_pw cg_seqI cg_seqE cg_stepI cg_ev cg_evBin cg_condB cg_condV cg_thenQ cg_blockQ cg_onSome cg_onCells cg_onRow cg_onMap cg_onOpt cg_ghosts cg_ghost cg_evCall cg_part cg_rng cg_guardV cg_frzV cg_frpV cg_ownV cg_owcV cg_occV cg_occX cg_resK cg_res1 cg_yldP cg_rndE cg_onlyN cg_onHist
attribute [local irreducible] IntKind.wrap bitsOp Option.getD and or

theorem ref01_Switches_ret (d : GDisk) (h : d.ok = true) (a c : Int) (ha : 0 ≤ a) (hc : 1 ≤ c) (hs : a + c ≤ d.size) :
    Ret E0 F_ref01_Switches [diskD d, .int .i64 a, .int .i64 c] (.list (d.kinds a (c.toNat - 1)).isEmpty (ints (d.kinds a (c.toNat - 1)))) := by
  have g := good_of h
  refine ret_of_pw dec_ref01_Switches mixed (by simp) fun hwf => ?_
  have hsz := size_bound g
  have hlen := pls_len d
  have c1 := ref01_Places_ret d h
  have w0 : IntKind.i64.wrap (a + 1) = a + 1 := wrapI _ (by omega)
  have w1 : IntKind.i64.wrap (a + c) = a + c := wrapI _ (by omega)
  rw [enter_eq]; unfold pc_ref01_Switches
  (try (simp -implicitDefEqProofs only [go_sem, diskD_eq, diskC_eq, w0])); repeat' first | with_reducible exact True.intro | with_reducible refine And.intro ?_ ?_ | with_reducible intro _ | (((with_reducible refine isCall ?_); first | refine call_b (c1) rfl ?_ ?_ | refine call_d (c1) rfl ?_ | refine call_sb (c1) rfl ?_ ?_ | refine call_s (c1) rfl rfl ?_) <;> try (simp -implicitDefEqProofs only [go_sem, diskD_eq, diskC_eq, w0])) | (((with_reducible refine vc_b ?_ ?_) <;> intro _) <;> try (simp -implicitDefEqProofs only [go_sem, diskD_eq, diskC_eq, w0])) | simp (disch := omega) only [wrapI, wrapU, shl1, shl1', shl1'', shrN, shrN', and_one] | ((with_reducible refine isEx3 ?_); refine ⟨(_, _, _), rfl, ?_, ?_⟩)
  all_goals first | omega | (simp; done) | (simp; omega) | skip
  refine pw_loopS (α := Int × (List Int) × Bool) (l0 := ?l1) (m0 := ?m1) (fun x => [(9, .d (.int .i64 x.1))]) (fun x => [(49, .row 3 1 x.2.2 (ints x.2.1))]) (fun x => (a + 1 ≤ x.1 ∧ x.1 ≤ a + c) ∧ x.2.1 = d.kinds a (x.1 - a - 1).toNat ∧ x.2.2 = x.2.1.isEmpty) (fun x => (a + c - x.1).toNat) (?a1_0, [], true) ?h01 ?he1 ?he21 ?hI1 ?step1
  case h01 => (simp -implicitDefEqProofs only [go_sem, plsD_len]; rfl)
  case he1 => rfl
  case he21 => rfl
  case' step1 => (rintro ⟨n, out, b⟩ hI; try dsimp only at hI)
  case' hI1 => try dsimp only
  · refine ⟨⟨by omega, by omega⟩, ?_, rfl⟩
    rw [show (a + 1 - a - 1).toNat = 0 by omega]; rfl
  · obtain ⟨⟨h1, h2⟩, h3, h4⟩ := hI
    by_cases hn : n < a + c
    · have hk := kinds_succ d a (n - a - 1).toNat
      rw [← h3, show a + 1 + (((n - a - 1).toNat : Nat) : Int) = n by omega, show (n - a - 1).toNat + 1 = (n + 1 - a - 1).toNat by omega, kindN_pl g (by omega) (by omega)] at hk
      have hg1 := pls_get (d := d) n (by omega) (by omega)
      have hg2 := pls_get (d := d) (n - 1) (by omega) (by omega)
      obtain ⟨p, hp⟩ : ∃ p, d.pl n = p := ⟨_, rfl⟩
      obtain ⟨q, hq⟩ : ∃ q, d.pl (n - 1) = q := ⟨_, rfl⟩
      rw [hp] at hg1 hk; rw [hq] at hg2 hk
      have i1 : n < d.pls.length := by omega
      have i2 : n - 1 < d.pls.length := by omega
      have i3 : 0 ≤ n := by omega
      have i4 : 0 ≤ n - 1 := by omega
      have w2 : IntKind.i64.wrap (n - 1) = n - 1 := wrapI _ (by omega)
      have w3 : IntKind.i64.wrap (n + 1) = n + 1 := wrapI _ (by omega)
      have ol := kinds_len d a (n - a - 1).toNat
      rw [← h3] at ol
      have hemp : ∀ z : Int, (out ++ [z]).isEmpty = false := fun z => isEmpty_snocZ out z
      by_cases e1 : p.1 = q.1
      · by_cases e2 : p.2.1 = q.2.1
        · rw [if_neg (by simpa using e1), if_neg (by simpa using e2)] at hk
          (try (simp -implicitDefEqProofs only [go_sem, plsD_len, onSome_pls, hg1, hg2, plD_eq, plsD_unif, i1, i2, i3, i4, w1, w2, w3, hn, e1, e2])); repeat' first | with_reducible exact True.intro | with_reducible refine And.intro ?_ ?_ | with_reducible intro _ | (((with_reducible refine vc_b ?_ ?_) <;> intro _) <;> try (simp -implicitDefEqProofs only [go_sem, plsD_len, onSome_pls, hg1, hg2, plD_eq, plsD_unif, i1, i2, i3, i4, w1, w2, w3, hn, e1, e2])) | simp (disch := omega) only [wrapI, wrapU, shl1, shl1', shl1'', shrN, shrN', and_one] | ((with_reducible refine isEx3 ?_); refine ⟨(_, _, _), rfl, ?_, ?_⟩)
          all_goals first | omega | (simp; done) | (simp; omega) | skip
          all_goals first | exact hk.symm | exact (hemp _).symm
        · rw [if_neg (by simpa using e1), if_pos (by simpa using e2)] at hk
          (try (simp -implicitDefEqProofs only [go_sem, plsD_len, onSome_pls, hg1, hg2, plD_eq, plsD_unif, i1, i2, i3, i4, w1, w2, w3, hn, e1, e2])); repeat' first | with_reducible exact True.intro | with_reducible refine And.intro ?_ ?_ | with_reducible intro _ | (((with_reducible refine vc_b ?_ ?_) <;> intro _) <;> try (simp -implicitDefEqProofs only [go_sem, plsD_len, onSome_pls, hg1, hg2, plD_eq, plsD_unif, i1, i2, i3, i4, w1, w2, w3, hn, e1, e2])) | simp (disch := omega) only [wrapI, wrapU, shl1, shl1', shl1'', shrN, shrN', and_one] | ((with_reducible refine isEx3 ?_); refine ⟨(_, _, _), rfl, ?_, ?_⟩)
          all_goals first | omega | (simp; done) | (simp; omega) | skip
          all_goals first | exact hk.symm | exact (hemp _).symm
      · rw [if_pos (by simpa using e1)] at hk
        (try (simp -implicitDefEqProofs only [go_sem, plsD_len, onSome_pls, hg1, hg2, plD_eq, plsD_unif, i1, i2, i3, i4, w1, w2, w3, hn, e1])); repeat' first | with_reducible exact True.intro | with_reducible refine And.intro ?_ ?_ | with_reducible intro _ | (((with_reducible refine vc_b ?_ ?_) <;> intro _) <;> try (simp -implicitDefEqProofs only [go_sem, plsD_len, onSome_pls, hg1, hg2, plD_eq, plsD_unif, i1, i2, i3, i4, w1, w2, w3, hn, e1])) | simp (disch := omega) only [wrapI, wrapU, shl1, shl1', shl1'', shrN, shrN', and_one] | ((with_reducible refine isEx3 ?_); refine ⟨(_, _, _), rfl, ?_, ?_⟩)
        all_goals first | omega | (simp; done) | (simp; omega) | skip
        all_goals first | exact hk.symm | exact (hemp _).symm
    · have hne : n = a + c := by omega
      have hk : out = d.kinds a (c.toNat - 1) := by rw [h3, show (n - a - 1).toNat = c.toNat - 1 by omega]
      rw [← hk, ← h4]
      (try (simp -implicitDefEqProofs only [go_sem, hn, w1])); repeat' first | with_reducible exact True.intro | with_reducible refine And.intro ?_ ?_ | with_reducible intro _ | (((with_reducible refine vc_b ?_ ?_) <;> intro _) <;> try (simp -implicitDefEqProofs only [go_sem, hn, w1])) | simp (disch := omega) only [wrapI, wrapU, shl1, shl1', shl1'', shrN, shrN', and_one] | ((with_reducible refine isEx3 ?_); refine ⟨(_, _, _), rfl, ?_, ?_⟩)
      all_goals first | omega | (simp; done) | (simp; omega) | skip

theorem ref01_SwitchOf_ret (d : GDisk) (e : Int) : Ret E0 F_ref01_SwitchOf [diskD d, .int .i64 e] (.tup [.agg [.int .i64 (d.swLo e), .int .i64 (d.swHi e)], .int .i64 (d.swSk e)]) := by
  refine ret_of_pw dec_ref01_SwitchOf mixed (by simp) fun hwf => ?_
  rw [enter_eq]; unfold pc_ref01_SwitchOf GDisk.swLo GDisk.swHi GDisk.swSk
  by_cases h1 : e = 1
  · (try (simp -implicitDefEqProofs only [go_sem, diskD_eq, diskC_eq, h1])); repeat' first | with_reducible exact True.intro | with_reducible refine And.intro ?_ ?_ | with_reducible intro _ | (((with_reducible refine vc_b ?_ ?_) <;> intro _) <;> try (simp -implicitDefEqProofs only [go_sem, diskD_eq, diskC_eq, h1])) | simp (disch := omega) only [wrapI, wrapU, shl1, shl1', shl1'', shrN, shrN', and_one] 
    all_goals first | omega | (simp; done) | (simp; omega) | skip
  · by_cases h2 : e = 2
    · (try (simp -implicitDefEqProofs only [go_sem, diskD_eq, diskC_eq, h2])); repeat' first | with_reducible exact True.intro | with_reducible refine And.intro ?_ ?_ | with_reducible intro _ | (((with_reducible refine vc_b ?_ ?_) <;> intro _) <;> try (simp -implicitDefEqProofs only [go_sem, diskD_eq, diskC_eq, h2])) | simp (disch := omega) only [wrapI, wrapU, shl1, shl1', shl1'', shrN, shrN', and_one] 
      all_goals first | omega | (simp; done) | (simp; omega) | skip
    · (try (simp -implicitDefEqProofs only [go_sem, diskD_eq, diskC_eq, h1, h2])); repeat' first | with_reducible exact True.intro | with_reducible refine And.intro ?_ ?_ | with_reducible intro _ | (((with_reducible refine vc_b ?_ ?_) <;> intro _) <;> try (simp -implicitDefEqProofs only [go_sem, diskD_eq, diskC_eq, h1, h2])) | simp (disch := omega) only [wrapI, wrapU, shl1, shl1', shl1'', shrN, shrN', and_one] 
      all_goals first | omega | (simp; done) | (simp; omega) | skip

theorem ref01_Gap_ret (d : GDisk) (g : d.Good) (e t : Int) (he : e = 1 ∨ e = 2) (ht : 0 ≤ t ∧ t ≤ 2000) : Ret E0 F_ref01_Gap [diskD d, .int .i64 e, .int .i64 t] (.int .i64 (d.gapK e t)) := by
  refine ret_of_pw dec_ref01_Gap mixed (by simp) fun hwf => ?_
  have t1 := g.t1; have t2 := g.t2; have k1 := g.k1; have k2 := g.k2; have c1 := g.c1; have c2 := g.c2
  have s1 := ref01_SwitchOf_ret d e
  obtain ⟨sk, hsk⟩ : ∃ sk, d.swSk e = sk := ⟨_, rfl⟩
  have hskb : 0 ≤ sk ∧ sk < d.turn := by subst hsk; unfold GDisk.swSk; rcases he with rfl | rfl <;> simp <;> omega
  have hgk : d.gapK e t = gapV d.turn sk t := by subst hsk; unfold GDisk.gapK GDisk.swSk; rcases he with rfl | rfl <;> simp
  have s2 := ref01_After_ret d g t sk (by omega) (by omega)
  have hb1 := Int.emod_nonneg (sk - t) (b := d.turn) (by omega)
  have hb2 := Int.emod_lt_of_pos (sk - t) (b := d.turn) (by omega)
  have hv := gapV_after (t := d.turn) (s := sk) (x := t) (by omega) hskb ht.1
  have hv2 : t + (sk - t) % d.turn = gapV d.turn sk t := by
    rw [← hv]; congr 1
    have hb3 := Int.lt_tmod_of_pos (sk - t) (b := d.turn) (by omega)
    rw [Int.tmod_eq_emod_of_nonneg (by omega), Int.add_emod_right]
    have h3 := Int.mul_tdiv_add_tmod (sk - t) d.turn
    have h4 : (sk - t).tmod d.turn = (sk - t) + d.turn * (-(sk - t).tdiv d.turn) := by rw [Int.mul_neg]; omega
    rw [h4, Int.add_mul_emod_self_left]
  rw [hsk] at s1
  have w1 : IntKind.i64.wrap (t + (sk - t) % d.turn) = gapV d.turn sk t := by rw [← hv2]; exact wrapI _ (by omega)
  rw [hgk, enter_eq]; unfold pc_ref01_Gap
  (try (simp -implicitDefEqProofs only [go_sem, diskD_eq, diskC_eq, w1])); repeat' first | with_reducible exact True.intro | with_reducible refine And.intro ?_ ?_ | with_reducible intro _ | (((with_reducible refine isCall ?_); first | refine call_b (s1) rfl ?_ ?_ | refine call_d (s1) rfl ?_ | refine call_sb (s1) rfl ?_ ?_ | refine call_s (s1) rfl rfl ?_ | refine call_b (s2) rfl ?_ ?_ | refine call_d (s2) rfl ?_ | refine call_sb (s2) rfl ?_ ?_ | refine call_s (s2) rfl rfl ?_) <;> try (simp -implicitDefEqProofs only [go_sem, diskD_eq, diskC_eq, w1])) | (((with_reducible refine vc_b ?_ ?_) <;> intro _) <;> try (simp -implicitDefEqProofs only [go_sem, diskD_eq, diskC_eq, w1])) | simp (disch := omega) only [wrapI, wrapU, shl1, shl1', shl1'', shrN, shrN', and_one] 
  all_goals first | omega | (simp; done) | (simp; omega) | skip

end Go.Pw
end
section
open Go Go.Pw Go.Proofs
namespace Go.Pw
set_option linter.unusedSimpArgs false
set_option linter.unusedVariables false
set_option maxRecDepth 100000
set_option maxHeartbeats 1600000
theorem map_snocZ (f : Int → Int) (l : List Int) (n : Nat) (h : n < l.length) : (l.take (n + 1)).map f = (l.take n).map f ++ [f (l[n]?.getD 0)] := by
  rw [List.take_add_one, List.getElem?_eq_getElem h, List.map_append]; rfl
theorem ticksL_cond (d : GDisk) (a : Int) (xs : List Int) (m : Nat) (h : ∀ i : Nat, i < m → 0 < d.kindN (a + 1 + i) → 0 ≤ xs[i]?.getD 0 ∧ xs[i]?.getD 0 ≤ 2000) (g : d.Good) : 0 ≤ d.gapsL a xs m ∧ d.gapsL a xs m ≤ m * 2001000 :=
  sumF_bound m fun i hi => gapAt_bound g a xs _ fun hk => by simpa using h i hi (by simpa using hk)
attribute [local congr] cg_pw cg_seqI cg_seqE cg_stepI cg_ev cg_evBin cg_condB cg_condV cg_thenQ cg_blockQ cg_onSome cg_onCells cg_onRow cg_onMap cg_onOpt cg_ghosts cg_ghost cg_evCall cg_part cg_rng cg_guardV cg_frzV cg_frpV cg_ownV cg_owcV cg_occV cg_occX cg_resK cg_res1 cg_yldP cg_rndE cg_onlyN cg_onHist
attribute [local irreducible] IntKind.wrap bitsOp Option.getD and or

theorem ref01_Ticks_ret (d : GDisk) (h : d.ok = true) (a c : Int) (ha : 0 ≤ a) (hc : 1 ≤ c) (hs : a + c ≤ d.size) (nl : Bool) (xs : List Int) (hl : xs.length = c.toNat - 1)
    (hx : ∀ i : Nat, i < c.toNat - 1 → 0 < d.kindN (a + 1 + i) → 0 ≤ xs[i]?.getD 0 ∧ xs[i]?.getD 0 ≤ 2000) :
    Ret E0 F_ref01_Ticks [diskD d, .int .i64 a, .int .i64 c, .list nl (ints xs)] (.int .i64 (d.ticksL a c.toNat xs)) := by
  have g := good_of h
  refine ret_of_pw dec_ref01_Ticks mixed (by simp) fun hwf => ?_
  have hsz := size_bound g
  have hlen := pls_len d
  have t1 := g.t1; have t2 := g.t2
  have c1 := ref01_Places_ret d h
  have c2 := ref01_Switches_ret d h a c ha hc hs
  have w1 : IntKind.i64.wrap (a + c) = a + c := wrapI _ (by omega)
  have hkl := kinds_len d a (c.toNat - 1)
  rw [enter_eq]; unfold pc_ref01_Ticks
  (try (simp -implicitDefEqProofs only [go_sem, diskD_eq, diskC_eq])); repeat' first | with_reducible exact True.intro | with_reducible refine And.intro ?_ ?_ | with_reducible intro _ | (((with_reducible refine isCall ?_); first | refine call_b (c1) rfl ?_ ?_ | refine call_d (c1) rfl ?_ | refine call_sb (c1) rfl ?_ ?_ | refine call_s (c1) rfl rfl ?_ | refine call_b (c2) rfl ?_ ?_ | refine call_d (c2) rfl ?_ | refine call_sb (c2) rfl ?_ ?_ | refine call_s (c2) rfl rfl ?_) <;> try (simp -implicitDefEqProofs only [go_sem, diskD_eq, diskC_eq])) | (((with_reducible refine vc_b ?_ ?_) <;> intro _) <;> try (simp -implicitDefEqProofs only [go_sem, diskD_eq, diskC_eq])) | simp (disch := omega) only [wrapI, wrapU, shl1, shl1', shl1'', shrN, shrN', and_one] | ((with_reducible refine isEx2 ?_); refine ⟨(_, _), rfl, ?_, ?_⟩)
  all_goals first | omega | (simp; done) | (simp; omega) | skip
  refine pw_loopS (α := Int × Int) (l0 := ?l1) (m0 := ?m1) (fun x => [(12, .d (.int .i64 x.1)), (11, .d (.int .i64 x.2))]) (fun x => []) (fun x => (a ≤ x.1 ∧ x.1 ≤ a + c) ∧ x.2 = d.ticksR a (x.1 - a).toNat) (fun x => (a + c - x.1).toNat) (?a1_0, ?a1_1) ?h01 ?he1 ?he21 ?hI1 ?step1
  case h01 => (simp -implicitDefEqProofs only [go_sem, diskC_eq, diskD_eq]; rfl)
  case he1 => rfl
  case he21 => rfl
  case' step1 => (rintro ⟨i, n⟩ hI; try dsimp only at hI)
  case' hI1 => try dsimp only
  · refine ⟨⟨by omega, by omega⟩, ?_⟩
    rw [show (a - a).toNat = 0 by omega]; rfl
  · obtain ⟨⟨h1, h2⟩, h3⟩ := hI
    have w2 : IntKind.i64.wrap (i + 1) = i + 1 := wrapI _ (by omega)
    by_cases hi : i < a + c
    · obtain ⟨k, hk⟩ := Option.isSome_iff_exists.1 ((kOf_iff g i).2 (by omega))
      obtain ⟨k1, k2⟩ := kOf_spec hk
      have hget := pls_get (d := d) i (by omega) (by omega)
      rw [place_pl g hk] at hget
      have c3 := ref01_Sectors_ret d h (d.tc k) (tc_nn k) (tc_lt k1)
      rw [← ts_secs] at c3
      have ho := g.own k1
      have hts := g.ts k1
      have hq := ho.2.2.2
      have hw2 : IntKind.i64.wrap (d.own k) = d.own k := wrapI _ (by omega)
      have hne : ¬ d.ts k = 0 := by omega
      have hil : i < d.pls.length := by omega
      have h0 : 0 ≤ i := by omega
      have hb := ticksR_bound g a (i - a).toNat
      have hn : n + d.own k = d.ticksR a (i + 1 - a).toNat := by
        rw [h3, show (i + 1 - a).toNat = (i - a).toNat + 1 by omega, GDisk.ticksR, GDisk.ticksR, sumF, show a + (((i - a).toNat : Nat) : Int) = i by omega, own_in g k1 k2]
      have hw3 : IntKind.i64.wrap (n + d.own k) = n + d.own k := wrapI _ (by omega)
      (try (simp -implicitDefEqProofs only [go_sem, diskC_eq, diskD_eq, plsD_len, onSome_pls, hget, plD_eq, plsD_unif, hil, h0, hq, hw2, hw3, hne, hi, w1, w2])); repeat' first | with_reducible exact True.intro | with_reducible refine And.intro ?_ ?_ | with_reducible intro _ | (((with_reducible refine isCall ?_); first | refine call_b (c3) rfl ?_ ?_ | refine call_d (c3) rfl ?_ | refine call_sb (c3) rfl ?_ ?_ | refine call_s (c3) rfl rfl ?_) <;> try (simp -implicitDefEqProofs only [go_sem, diskC_eq, diskD_eq, plsD_len, onSome_pls, hget, plD_eq, plsD_unif, hil, h0, hq, hw2, hw3, hne, hi, w1, w2])) | (((with_reducible refine vc_b ?_ ?_) <;> intro _) <;> try (simp -implicitDefEqProofs only [go_sem, diskC_eq, diskD_eq, plsD_len, onSome_pls, hget, plD_eq, plsD_unif, hil, h0, hq, hw2, hw3, hne, hi, w1, w2])) | simp (disch := omega) only [wrapI, wrapU, shl1, shl1', shl1'', shrN, shrN', and_one] | ((with_reducible refine isEx2 ?_); refine ⟨(_, _), rfl, ?_, ?_⟩)
      all_goals first | omega | (simp; done) | (simp; omega) | skip
    · have hie : i = a + c := by omega
      rw [hie, show (a + c - a).toNat = c.toNat by omega] at h3
      have hb := ticksR_bound g a c.toNat
      unfold GDisk.ticksL
      generalize d.ticksR a c.toNat = t0 at *
      (try (simp -implicitDefEqProofs only [go_sem, diskC_eq, diskD_eq, hi, w1])); repeat' first | with_reducible exact True.intro | with_reducible refine And.intro ?_ ?_ | with_reducible intro _ | (((with_reducible refine vc_b ?_ ?_) <;> intro _) <;> try (simp -implicitDefEqProofs only [go_sem, diskC_eq, diskD_eq, hi, w1])) | simp (disch := omega) only [wrapI, wrapU, shl1, shl1', shl1'', shrN, shrN', and_one] | ((with_reducible refine isEx2 ?_); refine ⟨(_, _), rfl, ?_, ?_⟩)
      all_goals first | omega | (simp; done) | (simp; omega) | skip
      refine pw_loopS (α := Int × Int) (l0 := ?l2) (m0 := ?m2) (fun x => [(13, .d (.int .i64 x.1)), (11, .d (.int .i64 x.2))]) (fun x => []) (fun x => (0 ≤ x.1 ∧ x.1 ≤ c - 1) ∧ x.2 = t0 + d.gapsL a xs x.1.toNat) (fun x => (c - 1 - x.1).toNat) (?a2_0, ?a2_1) ?h02 ?he2 ?he22 ?hI2 ?step2
      case h02 => (simp -implicitDefEqProofs only [go_sem, diskC_eq]; rfl)
      case he2 => rfl
      case he22 => rfl
      case' step2 => (rintro ⟨j, m⟩ hI2; try dsimp only at hI2)
      case' hI2 => try dsimp only
      · exact ⟨⟨by omega, by omega⟩, by rw [h3]; simp [GDisk.gapsL, sumF]⟩
      · obtain ⟨⟨q1, q2⟩, q3⟩ := hI2
        have w4 : IntKind.i64.wrap (j + 1) = j + 1 := wrapI _ (by omega)
        by_cases hj : j < c - 1
        · have hkg := kinds_get d a (c.toNat - 1) j.toNat (by omega)
          obtain ⟨e, he⟩ : ∃ e, d.kindN (a + 1 + (j.toNat : Nat)) = e := ⟨_, rfl⟩
          rw [he] at hkg
          have hjl : j < (d.kinds a (c.toNat - 1)).length := by omega
          have hjx : j < xs.length := by omega
          have hxj := hx j.toNat (by omega)
          rw [he] at hxj
          have hbd := ticksL_cond d a xs j.toNat (fun i hi => hx i (by omega)) g
          have hnx : d.gapsL a xs (j + 1).toNat = d.gapsL a xs j.toNat + (if 0 < e then d.gapK e (xs[j.toNat]?.getD 0) else 0) := by
            unfold GDisk.gapsL
            rw [show (j + 1).toNat = j.toNat + 1 by omega, sumF, Int.zero_add]
            congr 1
            unfold GDisk.gapAt
            rw [he, Int.toNat_natCast]
          have hkr := kindN_range d (a + 1 + (j.toNat : Nat))
          rw [he] at hkr
          by_cases hp : 0 < e
          · rw [if_pos hp] at hnx
            have c4 := ref01_Gap_ret d g e (xs[j.toNat]?.getD 0) (by omega) (hxj hp)
            have hgb := gapAt_bound g a xs (j.toNat : Nat) (fun hk => by rw [Int.toNat_natCast]; exact hxj hp)
            unfold GDisk.gapAt at hgb
            rw [he, if_pos hp, Int.toNat_natCast] at hgb
            have w5 : IntKind.i64.wrap (m + d.gapK e (xs[j.toNat]?.getD 0)) = m + d.gapK e (xs[j.toNat]?.getD 0) := wrapI _ (by omega)
            (try (simp -implicitDefEqProofs only [go_sem, diskC_eq, diskD_eq, hkg, hjl, hjx, q1, hp, w4, w5])); repeat' first | with_reducible exact True.intro | with_reducible refine And.intro ?_ ?_ | with_reducible intro _ | (((with_reducible refine isCall ?_); first | refine call_b (c4) rfl ?_ ?_ | refine call_d (c4) rfl ?_ | refine call_sb (c4) rfl ?_ ?_ | refine call_s (c4) rfl rfl ?_) <;> try (simp -implicitDefEqProofs only [go_sem, diskC_eq, diskD_eq, hkg, hjl, hjx, q1, hp, w4, w5])) | (((with_reducible refine vc_b ?_ ?_) <;> intro _) <;> try (simp -implicitDefEqProofs only [go_sem, diskC_eq, diskD_eq, hkg, hjl, hjx, q1, hp, w4, w5])) | simp (disch := omega) only [wrapI, wrapU, shl1, shl1', shl1'', shrN, shrN', and_one] | ((with_reducible refine isEx2 ?_); refine ⟨(_, _), rfl, ?_, ?_⟩)
            all_goals first | omega | (simp; done) | (simp; omega) | skip
          · rw [if_neg hp] at hnx
            (try (simp -implicitDefEqProofs only [go_sem, diskC_eq, diskD_eq, hkg, hjl, hjx, q1, hp, w4])); repeat' first | with_reducible exact True.intro | with_reducible refine And.intro ?_ ?_ | with_reducible intro _ | (((with_reducible refine vc_b ?_ ?_) <;> intro _) <;> try (simp -implicitDefEqProofs only [go_sem, diskC_eq, diskD_eq, hkg, hjl, hjx, q1, hp, w4])) | simp (disch := omega) only [wrapI, wrapU, shl1, shl1', shl1'', shrN, shrN', and_one] | ((with_reducible refine isEx2 ?_); refine ⟨(_, _), rfl, ?_, ?_⟩)
            all_goals first | omega | (simp; done) | (simp; omega) | skip
        · have hjl : ¬ j < (d.kinds a (c.toNat - 1)).length := by omega
          have hje : j.toNat = c.toNat - 1 := by omega
          rw [hje] at q3
          (try (simp -implicitDefEqProofs only [go_sem, diskC_eq, diskD_eq, hjl])); repeat' first | with_reducible exact True.intro | with_reducible refine And.intro ?_ ?_ | with_reducible intro _ | (((with_reducible refine vc_b ?_ ?_) <;> intro _) <;> try (simp -implicitDefEqProofs only [go_sem, diskC_eq, diskD_eq, hjl])) | simp (disch := omega) only [wrapI, wrapU, shl1, shl1', shl1'', shrN, shrN', and_one] | ((with_reducible refine isEx2 ?_); refine ⟨(_, _), rfl, ?_, ?_⟩)
          all_goals first | omega | (simp; done) | (simp; omega) | skip

theorem kinds_in {d : GDisk} {a : Int} {m : Nat} (f : Int → Int) (h : ∀ e, 0 ≤ f e ∧ f e ≤ 2000) : ∀ i : Nat, i < m → 0 < d.kindN (a + 1 + i) → 0 ≤ ((d.kinds a m).map f)[i]?.getD 0 ∧ ((d.kinds a m).map f)[i]?.getD 0 ≤ 2000 := fun i hi _ => by
  rw [kinds_map_get f a m i hi]; exact h _

theorem ref01_run_ret (d : GDisk) (h : d.ok = true) (a c : Int) (ha : 0 ≤ a) (hc : 1 ≤ c) (hs : a + c ≤ d.size) :
    Ret E0 F_ref01_run [diskD d, .int .i64 a, .int .i64 c] (.agg [.int .i64 (d.low a c.toNat), .int .i64 (d.high a c.toNat)]) := by
  have g := good_of h
  refine ret_of_pw dec_ref01_run mixed (by simp) fun hwf => ?_
  have hsz := size_bound g
  have s1 := g.s1; have s2 := g.s2; have s3 := g.s3; have s4 := g.s4; have s5 := g.s5; have s6 := g.s6
  have c1 := ref01_Switches_ret d h a c ha hc hs
  have hkl := kinds_len d a (c.toNat - 1)
  have hlo : ∀ e, 0 ≤ d.swLo e ∧ d.swLo e ≤ 2000 := fun e => by unfold GDisk.swLo; split <;> (try split) <;> omega
  have hhi : ∀ e, 0 ≤ d.swHi e ∧ d.swHi e ≤ 2000 := fun e => by unfold GDisk.swHi; split <;> (try split) <;> omega
  have e1 := fun b => ref01_Ticks_ret d h a c ha hc hs b ((d.kinds a (c.toNat - 1)).map d.swLo) (by simpa using hkl) (kinds_in d.swLo hlo)
  have e2 := fun b => ref01_Ticks_ret d h a c ha hc hs b ((d.kinds a (c.toNat - 1)).map d.swHi) (by simpa using hkl) (kinds_in d.swHi hhi)
  have f1 := ticksL_low (d := d) a c.toNat
  have f2 := ticksL_high (d := d) a c.toNat
  have f3 : d.low a c.toNat = d.ticksL a c.toNat ((d.kinds a (c.toNat - 1)).map d.swLo) := f1.symm
  have f4 : d.high a c.toNat = d.ticksL a c.toNat ((d.kinds a (c.toNat - 1)).map d.swHi) := f2.symm
  rw [f3, f4]
  clear f1 f2 f3 f4
  generalize d.kinds a (c.toNat - 1) = ks at *
  have c2 := fun e => ref01_SwitchOf_ret d e
  rw [enter_eq]; unfold pc_ref01_run
  (try (simp -implicitDefEqProofs only [go_sem, diskD_eq, diskC_eq])); repeat' first | with_reducible exact True.intro | with_reducible refine And.intro ?_ ?_ | with_reducible intro _ | (((with_reducible refine isCall ?_); first | refine call_b (c1) rfl ?_ ?_ | refine call_d (c1) rfl ?_ | refine call_sb (c1) rfl ?_ ?_ | refine call_s (c1) rfl rfl ?_) <;> try (simp -implicitDefEqProofs only [go_sem, diskD_eq, diskC_eq])) | (((with_reducible refine vc_b ?_ ?_) <;> intro _) <;> try (simp -implicitDefEqProofs only [go_sem, diskD_eq, diskC_eq])) | simp (disch := omega) only [wrapI, wrapU, shl1, shl1', shl1'', shrN, shrN', and_one] | ((with_reducible refine isEx5 ?_); refine ⟨(_, _, _, _, _), rfl, ?_, ?_⟩)
  all_goals first | omega | (simp; done) | (simp; omega) | skip
  refine pw_loopS (α := Int × (List Int) × (List Int) × Bool × Bool) (l0 := ?l3) (m0 := ?m3) (fun x => [(10, .d (.int .i64 x.1))]) (fun x => [(36, .row 3 1 x.2.2.2.1 (ints x.2.1)), (41, .row 3 1 x.2.2.2.2 (ints x.2.2.1))]) (fun x => (0 ≤ x.1 ∧ x.1 ≤ ks.length) ∧ x.2.1 = (ks.take x.1.toNat).map d.swLo ∧ x.2.2.1 = (ks.take x.1.toNat).map d.swHi ∧ x.2.2.2.1 = x.2.1.isEmpty ∧ x.2.2.2.2 = x.2.2.1.isEmpty) (fun x => (ks.length - x.1).toNat) (?a3_0, [], [], true, true) ?h03 ?he3 ?he23 ?hI3 ?step3
  case h03 => (simp -implicitDefEqProofs only [go_sem, diskC_eq]; rfl)
  case he3 => rfl
  case he23 => rfl
  case' step3 => (rintro ⟨j, lo, hi, b1, b2⟩ hI; try dsimp only at hI)
  case' hI3 => try dsimp only
  · exact ⟨⟨by omega, by omega⟩, by simp, by simp, rfl, rfl⟩
  · obtain ⟨⟨q1, q2⟩, q3, q4, q5, q6⟩ := hI
    by_cases hj : j < ks.length
    · have w1 : IntKind.i64.wrap (j + 1) = j + 1 := wrapI _ (by omega)
      have m1 := map_snocZ d.swLo ks j.toNat (by omega)
      have m2 := map_snocZ d.swHi ks j.toNat (by omega)
      rw [← q3, show j.toNat + 1 = (j + 1).toNat by omega] at m1
      rw [← q4, show j.toNat + 1 = (j + 1).toNat by omega] at m2
      have l1 : lo.length = j.toNat := by rw [q3]; simp; omega
      have l2 : hi.length = j.toNat := by rw [q4]; simp; omega
      have hemp : ∀ (l : List Int) (z : Int), (l ++ [z]).isEmpty = false := fun l z => isEmpty_snocZ l z
      obtain ⟨e, he⟩ : ∃ e, ks[j.toNat]?.getD 0 = e := ⟨_, rfl⟩
      rw [he] at m1 m2
      (try (simp -implicitDefEqProofs only [go_sem, diskC_eq, diskD_eq, he, q1, hj, w1])); repeat' first | with_reducible exact True.intro | with_reducible refine And.intro ?_ ?_ | with_reducible intro _ | (((with_reducible refine isCall ?_); first | refine call_b (c2 _) rfl ?_ ?_ | refine call_d (c2 _) rfl ?_ | refine call_sb (c2 _) rfl ?_ ?_ | refine call_s (c2 _) rfl rfl ?_) <;> try (simp -implicitDefEqProofs only [go_sem, diskC_eq, diskD_eq, he, q1, hj, w1])) | (((with_reducible refine vc_b ?_ ?_) <;> intro _) <;> try (simp -implicitDefEqProofs only [go_sem, diskC_eq, diskD_eq, he, q1, hj, w1])) | simp (disch := omega) only [wrapI, wrapU, shl1, shl1', shl1'', shrN, shrN', and_one] | ((with_reducible refine isEx5 ?_); refine ⟨(_, _, _, _, _), rfl, ?_, ?_⟩)
      all_goals first | omega | (simp; done) | (simp; omega) | skip
      all_goals first | exact m1.symm | exact m2.symm
    · have hjl : ¬ j < (ks.length : Int) := hj
      have n1 : lo = ks.map d.swLo := by rw [q3, List.take_of_length_le (by omega)]
      have n2 : hi = ks.map d.swHi := by rw [q4, List.take_of_length_le (by omega)]
      rw [← n1] at e1 ⊢; rw [← n2] at e2 ⊢
      (try (simp -implicitDefEqProofs only [go_sem, diskC_eq, diskD_eq, hjl])); repeat' first | with_reducible exact True.intro | with_reducible refine And.intro ?_ ?_ | with_reducible intro _ | (((with_reducible refine isCall ?_); first | refine call_b (e1 _) rfl ?_ ?_ | refine call_d (e1 _) rfl ?_ | refine call_sb (e1 _) rfl ?_ ?_ | refine call_s (e1 _) rfl rfl ?_ | refine call_b (e2 _) rfl ?_ ?_ | refine call_d (e2 _) rfl ?_ | refine call_sb (e2 _) rfl ?_ ?_ | refine call_s (e2 _) rfl rfl ?_) <;> try (simp -implicitDefEqProofs only [go_sem, diskC_eq, diskD_eq, hjl])) | (((with_reducible refine vc_b ?_ ?_) <;> intro _) <;> try (simp -implicitDefEqProofs only [go_sem, diskC_eq, diskD_eq, hjl])) | simp (disch := omega) only [wrapI, wrapU, shl1, shl1', shl1'', shrN, shrN', and_one] | ((with_reducible refine isEx5 ?_); refine ⟨(_, _, _, _, _), rfl, ?_, ?_⟩)
      all_goals first | omega | (simp; done) | (simp; omega) | skip

theorem ref01_IsRun_ret (d : GDisk) (h : d.ok = true) (a c : Int) : Ret E0 F_ref01_IsRun [diskD d, .int .i64 a, .int .i64 c] (.bool (decide (d.isRun a c))) := by
  have g := good_of h
  refine ret_of_pw dec_ref01_IsRun mixed (by simp) fun hwf => ?_
  have hsz := size_bound g
  have c1 := ref01_IsSector_ret d h a
  have c2 := ref01_Count_ret d h
  have c3 := ref01_within_ret c 1 (d.size - a)
  rw [enter_eq]; unfold pc_ref01_IsRun
  by_cases ha : 0 ≤ a ∧ a ≤ d.size - 1
  · have hb : inZ a 0 (d.size - 1) = true := inZ_iff.2 ha
    have w1 : IntKind.i64.wrap (d.size - a) = d.size - a := wrapI _ (by omega)
    rw [hb] at c1
    have hd : decide (d.isRun a c) = inZ c 1 (d.size - a) := by unfold inZ; refine decide_eq_decide.2 ?_; unfold GDisk.isRun; omega
    rw [hd]
    (try (simp -implicitDefEqProofs only [go_sem, diskD_eq, diskC_eq, w1])); repeat' first | with_reducible exact True.intro | with_reducible refine And.intro ?_ ?_ | with_reducible intro _ | (((with_reducible refine isCall ?_); first | refine call_b (c1) rfl ?_ ?_ | refine call_d (c1) rfl ?_ | refine call_sb (c1) rfl ?_ ?_ | refine call_s (c1) rfl rfl ?_ | refine call_b (c2) rfl ?_ ?_ | refine call_d (c2) rfl ?_ | refine call_sb (c2) rfl ?_ ?_ | refine call_s (c2) rfl rfl ?_ | refine call_b (c3) rfl ?_ ?_ | refine call_d (c3) rfl ?_ | refine call_sb (c3) rfl ?_ ?_ | refine call_s (c3) rfl rfl ?_) <;> try (simp -implicitDefEqProofs only [go_sem, diskD_eq, diskC_eq, w1])) | (((with_reducible refine vc_b ?_ ?_) <;> intro _) <;> try (simp -implicitDefEqProofs only [go_sem, diskD_eq, diskC_eq, w1])) | simp (disch := omega) only [wrapI, wrapU, shl1, shl1', shl1'', shrN, shrN', and_one] 
    all_goals first | rfl | (simp_all; done)
  · have hb : inZ a 0 (d.size - 1) = false := inZ_no.2 ha
    rw [hb] at c1
    have hd : decide (d.isRun a c) = false := decide_eq_false (by unfold GDisk.isRun; omega)
    rw [hd]
    (try (simp -implicitDefEqProofs only [go_sem, diskD_eq, diskC_eq])); repeat' first | with_reducible exact True.intro | with_reducible refine And.intro ?_ ?_ | with_reducible intro _ | (((with_reducible refine isCall ?_); first | refine call_b (c1) rfl ?_ ?_ | refine call_d (c1) rfl ?_ | refine call_sb (c1) rfl ?_ ?_ | refine call_s (c1) rfl rfl ?_ | refine call_b (c2) rfl ?_ ?_ | refine call_d (c2) rfl ?_ | refine call_sb (c2) rfl ?_ ?_ | refine call_s (c2) rfl rfl ?_ | refine call_b (c3) rfl ?_ ?_ | refine call_d (c3) rfl ?_ | refine call_sb (c3) rfl ?_ ?_ | refine call_s (c3) rfl rfl ?_) <;> try (simp -implicitDefEqProofs only [go_sem, diskD_eq, diskC_eq])) | (((with_reducible refine vc_b ?_ ?_) <;> intro _) <;> try (simp -implicitDefEqProofs only [go_sem, diskD_eq, diskC_eq])) | simp (disch := omega) only [wrapI, wrapU, shl1, shl1', shl1'', shrN, shrN', and_one] 
    all_goals first | omega | (simp; done) | (simp; omega) | skip

theorem ref01_Run_ret (d : GDisk) (a c : Int) : Ret E0 F_ref01_Run [diskD d, .int .i64 a, .int .i64 c] (.tup [.agg [.int .i64 (d.run a c).1.1, .int .i64 (d.run a c).1.2], .int .i64 (d.run a c).2]) := by
  refine ret_of_pw dec_ref01_Run mixed (by simp) fun hwf => ?_
  have c1 := ref01_Check_ret d
  rw [enter_eq]; unfold pc_ref01_Run
  unfold GDisk.check at c1
  unfold GDisk.run
  cases h : d.ok with
  | false =>
    rw [h] at c1
    (try (simp -implicitDefEqProofs only [go_sem, diskD_eq, diskC_eq])); repeat' first | with_reducible exact True.intro | with_reducible refine And.intro ?_ ?_ | with_reducible intro _ | (((with_reducible refine isCall ?_); first | refine call_b (c1) rfl ?_ ?_ | refine call_d (c1) rfl ?_ | refine call_sb (c1) rfl ?_ ?_ | refine call_s (c1) rfl rfl ?_) <;> try (simp -implicitDefEqProofs only [go_sem, diskD_eq, diskC_eq])) | (((with_reducible refine vc_b ?_ ?_) <;> intro _) <;> try (simp -implicitDefEqProofs only [go_sem, diskD_eq, diskC_eq])) | simp (disch := omega) only [wrapI, wrapU, shl1, shl1', shl1'', shrN, shrN', and_one] 
    all_goals first | omega | (simp; done) | (simp; omega) | skip
  | true =>
    rw [h] at c1
    have c2 := ref01_IsRun_ret d h a c
    by_cases hr : d.isRun a c
    · have c3 := ref01_run_ret d h a c hr.1.1 hr.1.2 hr.2
      rw [decide_eq_true hr] at c2
      rw [if_pos hr]
      (try (simp -implicitDefEqProofs only [go_sem, diskD_eq, diskC_eq])); repeat' first | with_reducible exact True.intro | with_reducible refine And.intro ?_ ?_ | with_reducible intro _ | (((with_reducible refine isCall ?_); first | refine call_b (c1) rfl ?_ ?_ | refine call_d (c1) rfl ?_ | refine call_sb (c1) rfl ?_ ?_ | refine call_s (c1) rfl rfl ?_ | refine call_b (c2) rfl ?_ ?_ | refine call_d (c2) rfl ?_ | refine call_sb (c2) rfl ?_ ?_ | refine call_s (c2) rfl rfl ?_ | refine call_b (c3) rfl ?_ ?_ | refine call_d (c3) rfl ?_ | refine call_sb (c3) rfl ?_ ?_ | refine call_s (c3) rfl rfl ?_) <;> try (simp -implicitDefEqProofs only [go_sem, diskD_eq, diskC_eq])) | (((with_reducible refine vc_b ?_ ?_) <;> intro _) <;> try (simp -implicitDefEqProofs only [go_sem, diskD_eq, diskC_eq])) | simp (disch := omega) only [wrapI, wrapU, shl1, shl1', shl1'', shrN, shrN', and_one] 
      all_goals first | omega | (simp; done) | (simp; omega) | skip
    · rw [decide_eq_false hr] at c2
      rw [if_neg hr]
      (try (simp -implicitDefEqProofs only [go_sem, diskD_eq, diskC_eq])); repeat' first | with_reducible exact True.intro | with_reducible refine And.intro ?_ ?_ | with_reducible intro _ | (((with_reducible refine isCall ?_); first | refine call_b (c1) rfl ?_ ?_ | refine call_d (c1) rfl ?_ | refine call_sb (c1) rfl ?_ ?_ | refine call_s (c1) rfl rfl ?_ | refine call_b (c2) rfl ?_ ?_ | refine call_d (c2) rfl ?_ | refine call_sb (c2) rfl ?_ ?_ | refine call_s (c2) rfl rfl ?_) <;> try (simp -implicitDefEqProofs only [go_sem, diskD_eq, diskC_eq])) | (((with_reducible refine vc_b ?_ ?_) <;> intro _) <;> try (simp -implicitDefEqProofs only [go_sem, diskD_eq, diskC_eq])) | simp (disch := omega) only [wrapI, wrapU, shl1, shl1', shl1'', shrN, shrN', and_one] 
      all_goals first | omega | (simp; done) | (simp; omega) | skip

theorem ref01_Copy_ret (d : GDisk) (hl : d.zones.length ≤ 1000) : Ret E0 F_ref01_Copy [diskD d] (diskD d.cp) := by
  refine ret_of_pw dec_ref01_Copy mixed (by simp) fun hwf => ?_
  rw [enter_eq]; unfold pc_ref01_Copy
  (try (simp -implicitDefEqProofs only [go_sem, diskD_eq, diskC_eq, zpsD_len, zpsD_unif, GDisk.cp])); repeat' first | with_reducible exact True.intro | with_reducible refine And.intro ?_ ?_ | with_reducible intro _ | (((with_reducible refine vc_b ?_ ?_) <;> intro _) <;> try (simp -implicitDefEqProofs only [go_sem, diskD_eq, diskC_eq, zpsD_len, zpsD_unif, GDisk.cp])) | simp (disch := omega) only [wrapI, wrapU, shl1, shl1', shl1'', shrN, shrN', and_one] 
  all_goals first | omega | (simp; done) | (simp; omega) | skip


end Go.Pw
end
