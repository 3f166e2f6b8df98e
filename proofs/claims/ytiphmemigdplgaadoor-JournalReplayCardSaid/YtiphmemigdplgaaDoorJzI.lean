/- A part of the proof. -/
import Derived.Test.YtiphmemigdplgaaDoorJzH
set_option linter.all false
open Go Go.Pw Go.Proofs
namespace Go.Pw
set_option linter.unusedSimpArgs false
set_option linter.unusedVariables false
set_option maxRecDepth 100000
set_option maxHeartbeats 1600000
theorem pl_inj {d : GDisk} (g : d.Good) {i j : Int} (hi : 0 ≤ i ∧ i < d.size) (hj : 0 ≤ j ∧ j < d.size) (h : d.pl i = d.pl j) : i = j := by
  obtain ⟨a, ha⟩ := Option.isSome_iff_exists.1 ((kOf_iff g i).2 hi)
  obtain ⟨b, hb⟩ := Option.isSome_iff_exists.1 ((kOf_iff g j).2 hj)
  unfold GDisk.pl at h
  rw [ha, hb] at h
  simp only [Prod.mk.injEq] at h
  have := tch_inj h.1 h.2.1
  subst this
  omega
theorem pls_get {d : GDisk} (i : Int) (h0 : 0 ≤ i) (h1 : i < d.size) : d.pls[i.toNat]?.getD default = d.pl i := by
  unfold GDisk.pls; rw [plsN_get _ _ _ (by omega), show ((i.toNat : Nat) : Int) = i by omega]
theorem pls_len (d : GDisk) : d.pls.length = d.size.toNat := plsN_len d _
theorem place_pl {d : GDisk} (g : d.Good) {n : Int} {k : Nat} (h : d.kOf n = some k) : d.pl n = (d.tc k, d.th k, n - d.tf k) := by unfold GDisk.pl; rw [h]
theorem to_eq {d : GDisk} (g : d.Good) : ∀ k, d.to k = (d.tc k * d.cskew + (d.tc k * (d.heads - 1) + d.th k) * d.hskew) % d.turn
  | 0 => by simp [GDisk.to, GDisk.tc, GDisk.th]
  | k + 1 => by
    obtain ⟨n1, n2⟩ := tch_next g k
    rw [GDisk.to, to_eq g k]
    by_cases h : d.th k = d.heads - 1
    · have h1 := n1 h
      have h2 : d.th (k + 1) = 0 := by
        have hp := g.hp; have hn := g.hn
        have e1 := Nat.div_add_mod (k + 1) d.heads.toNat
        have e2 := Nat.div_add_mod k d.heads.toNat
        unfold GDisk.tc at h1; unfold GDisk.th at h ⊢
        have : (k + 1) / d.heads.toNat = k / d.heads.toNat + 1 := by omega
        rw [this, Nat.mul_add] at e1
        omega
      rw [if_pos h, h1, h2, h, Int.emod_add_emod]
      congr 1
      generalize d.heads - 1 = m
      simp only [Int.add_mul, Int.one_mul, Int.add_zero]; omega
    · obtain ⟨h1, h2⟩ := n2 h
      rw [if_neg h, h1, h2, Int.emod_add_emod]
      congr 1
      simp only [Int.add_mul, Int.one_mul]; omega
theorem tc_nn {d : GDisk} (k : Nat) : 0 ≤ d.tc k := Int.natCast_nonneg _
def GDisk.csec (d : GDisk) (n : Int) : Int := if d.ok then (if inZ n 0 (d.size - 1) then 0 else 1) else 10
attribute [local congr] cg_pw cg_seqI cg_seqE cg_stepI cg_ev cg_evBin cg_condB cg_condV cg_thenQ cg_blockQ cg_onSome cg_onCells cg_onRow cg_onMap cg_onOpt cg_ghosts cg_ghost cg_evCall cg_part cg_rng cg_guardV cg_frzV cg_frpV cg_ownV cg_owcV cg_occV cg_occX cg_resK cg_res1 cg_yldP cg_rndE cg_onlyN cg_onHist
attribute [local irreducible] IntKind.wrap bitsOp Option.getD and or

theorem ref01_IsSector_ret (d : GDisk) (h : d.ok = true) (n : Int) : Ret E0 F_ref01_IsSector [diskD d, .int .i64 n] (.bool (inZ n 0 (d.size - 1))) := by
  refine ret_of_pw dec_ref01_IsSector mixed (by simp) fun hwf => ?_
  have g := good_of h
  have hsz := size_bound g
  have c1 := ref01_Count_ret d h
  have c2 := ref01_within_ret n 0 (d.size - 1)
  have w1 : IntKind.i64.wrap (d.size - 1) = d.size - 1 := wrapI _ (by omega)
  rw [enter_eq]; unfold pc_ref01_IsSector
  cases hb : inZ n 0 (d.size - 1) with
  | false => rw [hb] at c2; (try (simp -implicitDefEqProofs only [go_sem, diskD_eq, diskC_eq, w1])); repeat' first | with_reducible exact True.intro | with_reducible refine And.intro ?_ ?_ | with_reducible intro _ | (((with_reducible refine isCall ?_); first | refine call_b (c1) rfl ?_ ?_ | refine call_d (c1) rfl ?_ | refine call_sb (c1) rfl ?_ ?_ | refine call_s (c1) rfl rfl ?_ | refine call_b (c2) rfl ?_ ?_ | refine call_d (c2) rfl ?_ | refine call_sb (c2) rfl ?_ ?_ | refine call_s (c2) rfl rfl ?_) <;> try (simp -implicitDefEqProofs only [go_sem, diskD_eq, diskC_eq, w1])) | (((with_reducible refine vc_b ?_ ?_) <;> intro _) <;> try (simp -implicitDefEqProofs only [go_sem, diskD_eq, diskC_eq, w1])) | simp (disch := omega) only [wrapI, wrapU, shl1, shl1', shl1'', shrN, shrN', and_one] 
  | true => rw [hb] at c2; (try (simp -implicitDefEqProofs only [go_sem, diskD_eq, diskC_eq, w1])); repeat' first | with_reducible exact True.intro | with_reducible refine And.intro ?_ ?_ | with_reducible intro _ | (((with_reducible refine isCall ?_); first | refine call_b (c1) rfl ?_ ?_ | refine call_d (c1) rfl ?_ | refine call_sb (c1) rfl ?_ ?_ | refine call_s (c1) rfl rfl ?_ | refine call_b (c2) rfl ?_ ?_ | refine call_d (c2) rfl ?_ | refine call_sb (c2) rfl ?_ ?_ | refine call_s (c2) rfl rfl ?_) <;> try (simp -implicitDefEqProofs only [go_sem, diskD_eq, diskC_eq, w1])) | (((with_reducible refine vc_b ?_ ?_) <;> intro _) <;> try (simp -implicitDefEqProofs only [go_sem, diskD_eq, diskC_eq, w1])) | simp (disch := omega) only [wrapI, wrapU, shl1, shl1', shl1'', shrN, shrN', and_one] 

theorem csec_cases (d : GDisk) (n : Int) : (d.ok = false ∧ d.csec n = 10) ∨ (d.ok = true ∧ d.kOf n = none ∧ d.csec n = 1) ∨ (d.ok = true ∧ (0 ≤ n ∧ n < d.size) ∧ d.csec n = 0 ∧ ∃ k, d.kOf n = some k) := by
  unfold GDisk.csec
  cases h : d.ok with
  | false => left; simp
  | true =>
    right
    have g := good_of h
    by_cases hb : 0 ≤ n ∧ n < d.size
    · right
      exact ⟨rfl, hb, by rw [inZ_iff.2 (by omega)]; simp, Option.isSome_iff_exists.1 ((kOf_iff g n).2 hb)⟩
    · left
      refine ⟨rfl, ?_, by rw [inZ_no.2 (by omega)]; simp⟩
      cases hk : d.kOf n with
      | none => rfl
      | some k => exact absurd ((kOf_iff g n).1 (by rw [hk]; rfl)) hb

theorem ref01_After_ret (d : GDisk) (g : d.Good) (time a : Int) (h1 : 0 ≤ time ∧ time ≤ 1000000000) (h2 : 0 ≤ a ∧ a ≤ 1000000000) : Ret E0 F_ref01_After [diskD d, .int .i64 time, .int .i64 a] (.int .i64 ((a - time) % d.turn)) := by
  refine ret_of_pw dec_ref01_After mixed (by simp) fun hwf => ?_
  have t1 := g.t1; have t2 := g.t2
  have hb1 := Int.lt_tmod_of_pos (a - time) (b := d.turn) (by omega)
  have hb2 := Int.tmod_lt_of_pos (a - time) (b := d.turn) (by omega)
  have w1 : IntKind.i64.wrap (a - time) = a - time := wrapI _ (by omega)
  have w2 : IntKind.i64.wrap ((a - time).tmod d.turn + d.turn) = (a - time).tmod d.turn + d.turn := wrapI _ (by omega)
  have w3 : ((a - time).tmod d.turn + d.turn).tmod d.turn = (a - time) % d.turn := by
    rw [Int.tmod_eq_emod_of_nonneg (by omega), Int.add_emod_right]
    have h3 := Int.mul_tdiv_add_tmod (a - time) d.turn
    have h4 : (a - time).tmod d.turn = (a - time) + d.turn * (-(a - time).tdiv d.turn) := by rw [Int.mul_neg]; omega
    rw [h4, Int.add_mul_emod_self_left]
  have hne2 : ¬ d.turn = 0 := by omega
  rw [enter_eq]; unfold pc_ref01_After
  (try (simp -implicitDefEqProofs only [go_sem, diskD_eq, diskC_eq, w1, w2, w3, hne2])); repeat' first | with_reducible exact True.intro | with_reducible refine And.intro ?_ ?_ | with_reducible intro _ | (((with_reducible refine vc_b ?_ ?_) <;> intro _) <;> try (simp -implicitDefEqProofs only [go_sem, diskD_eq, diskC_eq, w1, w2, w3, hne2])) | simp (disch := omega) only [wrapI, wrapU, shl1, shl1', shl1'', shrN, shrN', and_one] 
  all_goals first | omega | (simp; done) | (simp; omega) | skip


end Go.Pw
