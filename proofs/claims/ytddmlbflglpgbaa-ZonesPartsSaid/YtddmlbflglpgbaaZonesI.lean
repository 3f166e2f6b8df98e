/- A part of the proof. -/
import Derived.Test.YtddmlbflglpgbaaZonesH
set_option linter.all false
open Go Go.Pw Go.Proofs
namespace Go.Pw
set_option linter.unusedSimpArgs false
set_option linter.unusedVariables false
set_option maxRecDepth 100000
set_option maxHeartbeats 1600000
theorem pl_inj {d : GDisk} (g : d.Good) {i j : Int} (hi : 0 ≤ i ∧ i < d.size) (hj : 0 ≤ j ∧ j < d.size) (h : d.pl i = d.pl j) : i = j := by
  obtain ⟨a, ha⟩ := Option.isSome_iff_exists.1 ((kOf_iff g i).2 hi)
  obtain ⟨b, hb⟩ := Option.isSome_iff_exists.1 ((kOf_iff g j).2 hj)
  unfold GDisk.pl at h
  rw [ha, hb] at h
  simp only [Prod.mk.injEq] at h
  have := tch_inj h.1 h.2.1
  subst this
  omega
theorem pls_get {d : GDisk} (i : Int) (h0 : 0 ≤ i) (h1 : i < d.size) : d.pls[i.toNat]?.getD default = d.pl i := by
  unfold GDisk.pls; rw [plsN_get _ _ _ (by omega), show ((i.toNat : Nat) : Int) = i by omega]
theorem pls_len (d : GDisk) : d.pls.length = d.size.toNat := plsN_len d _
theorem place_pl {d : GDisk} (g : d.Good) {n : Int} {k : Nat} (h : d.kOf n = some k) : d.pl n = (d.tc k, d.th k, n - d.tf k) := by unfold GDisk.pl; rw [h]
theorem to_eq {d : GDisk} (g : d.Good) : ∀ k, d.to k = (d.tc k * d.cskew + (d.tc k * (d.heads - 1) + d.th k) * d.hskew) % d.turn
  | 0 => by simp [GDisk.to, GDisk.tc, GDisk.th]
  | k + 1 => by
    obtain ⟨n1, n2⟩ := tch_next g k
    rw [GDisk.to, to_eq g k]
    by_cases h : d.th k = d.heads - 1
    · have h1 := n1 h
      have h2 : d.th (k + 1) = 0 := by
        have hp := g.hp; have hn := g.hn
        have e1 := Nat.div_add_mod (k + 1) d.heads.toNat
        have e2 := Nat.div_add_mod k d.heads.toNat
        unfold GDisk.tc at h1; unfold GDisk.th at h ⊢
        have : (k + 1) / d.heads.toNat = k / d.heads.toNat + 1 := by omega
        rw [this, Nat.mul_add] at e1
        omega
      rw [if_pos h, h1, h2, h, Int.emod_add_emod]
      congr 1
      generalize d.heads - 1 = m
      simp only [Int.add_mul, Int.one_mul, Int.add_zero]; omega
    · obtain ⟨h1, h2⟩ := n2 h
      rw [if_neg h, h1, h2, Int.emod_add_emod]
      congr 1
      simp only [Int.add_mul, Int.one_mul]; omega
theorem tc_nn {d : GDisk} (k : Nat) : 0 ≤ d.tc k := Int.natCast_nonneg _
def GDisk.csec (d : GDisk) (n : Int) : Int := if d.ok then (if inZ n 0 (d.size - 1) then 0 else 1) else 10
attribute [local congr] cg_pw cg_seqI cg_seqE cg_stepI cg_ev cg_evBin cg_condB cg_condV cg_thenQ cg_blockQ cg_onSome cg_onCells cg_onRow cg_onMap cg_onOpt cg_ghosts cg_ghost cg_evCall cg_part cg_rng cg_guardV cg_frzV cg_frpV cg_ownV cg_owcV cg_occV cg_occX cg_resK cg_res1 cg_yldP cg_rndE cg_onlyN cg_onHist
attribute [local irreducible] IntKind.wrap bitsOp Option.getD and or

theorem ref01_Size_ret (d : GDisk) : Ret E0 F_ref01_Size [diskD d] (.tup [.int .i64 (if d.ok then d.size else 0), .int .i64 d.check]) := by
  refine ret_of_pw dec_ref01_Size mixed (by simp) fun hwf => ?_
  have c1 := ref01_Check_ret d
  rw [enter_eq]; unfold pc_ref01_Size
  unfold GDisk.check at *
  cases h : d.ok with
  | false =>
    rw [h] at c1
    (try (simp -implicitDefEqProofs only [go_sem, diskD_eq, diskC_eq])); repeat' first | with_reducible exact True.intro | with_reducible refine And.intro ?_ ?_ | with_reducible intro _ | (((with_reducible refine isCall ?_); first | refine call_b (c1) rfl ?_ ?_ | refine call_d (c1) rfl ?_ | refine call_sb (c1) rfl ?_ ?_ | refine call_s (c1) rfl rfl ?_) <;> try (simp -implicitDefEqProofs only [go_sem, diskD_eq, diskC_eq])) | (((with_reducible refine vc_b ?_ ?_) <;> intro _) <;> try (simp -implicitDefEqProofs only [go_sem, diskD_eq, diskC_eq])) | simp (disch := omega) only [wrapI, wrapU, shl1, shl1', shl1'', shrN, shrN', and_one] 
    all_goals first | omega | (simp; done) | (simp; omega) | skip
  | true =>
    rw [h] at c1
    have c2 := ref01_Count_ret d h
    (try (simp -implicitDefEqProofs only [go_sem, diskD_eq, diskC_eq])); repeat' first | with_reducible exact True.intro | with_reducible refine And.intro ?_ ?_ | with_reducible intro _ | (((with_reducible refine isCall ?_); first | refine call_b (c1) rfl ?_ ?_ | refine call_d (c1) rfl ?_ | refine call_sb (c1) rfl ?_ ?_ | refine call_s (c1) rfl rfl ?_ | refine call_b (c2) rfl ?_ ?_ | refine call_d (c2) rfl ?_ | refine call_sb (c2) rfl ?_ ?_ | refine call_s (c2) rfl rfl ?_) <;> try (simp -implicitDefEqProofs only [go_sem, diskD_eq, diskC_eq])) | (((with_reducible refine vc_b ?_ ?_) <;> intro _) <;> try (simp -implicitDefEqProofs only [go_sem, diskD_eq, diskC_eq])) | simp (disch := omega) only [wrapI, wrapU, shl1, shl1', shl1'', shrN, shrN', and_one] 
    all_goals first | omega | (simp; done) | (simp; omega) | skip

theorem ref01_Number_ret (d : GDisk) (c h s : Int) : Ret E0 F_ref01_Number [diskD d, placeD c h s] (.tup [.int .i64 (d.number c h s).1, .int .i64 (d.number c h s).2]) := by
  refine ret_of_pw dec_ref01_Number mixed (by simp) fun hwf => ?_
  have c1 := ref01_Check_ret d
  rw [enter_eq]; unfold pc_ref01_Number
  unfold GDisk.check GDisk.number at *
  cases hk : d.ok with
  | false =>
    rw [hk] at c1
    (try (simp -implicitDefEqProofs only [go_sem, diskD_eq, diskC_eq, placeD_eq])); repeat' first | with_reducible exact True.intro | with_reducible refine And.intro ?_ ?_ | with_reducible intro _ | (((with_reducible refine isCall ?_); first | refine call_b (c1) rfl ?_ ?_ | refine call_d (c1) rfl ?_ | refine call_sb (c1) rfl ?_ ?_ | refine call_s (c1) rfl rfl ?_) <;> try (simp -implicitDefEqProofs only [go_sem, diskD_eq, diskC_eq, placeD_eq])) | (((with_reducible refine vc_b ?_ ?_) <;> intro _) <;> try (simp -implicitDefEqProofs only [go_sem, diskD_eq, diskC_eq, placeD_eq])) | simp (disch := omega) only [wrapI, wrapU, shl1, shl1', shl1'', shrN, shrN', and_one] | ((with_reducible refine isEx ?_); refine ⟨_, rfl, ?_, ?_⟩)
    all_goals first | omega | (simp; done) | (simp; omega) | skip
  | true =>
    rw [hk] at c1
    have g := good_of hk
    have hsz := size_bound g
    have c2 := ref01_Places_ret d hk
    have hlen := pls_len d
    obtain ⟨i0, hi0, hi1, hlt, heq⟩ : ∃ i0 : Int, 0 ≤ i0 ∧ i0 ≤ d.size ∧ (∀ i, 0 ≤ i → i < i0 → ¬ ((d.pl i).1 = c ∧ (d.pl i).2.1 = h ∧ (d.pl i).2.2 = s)) ∧
        ((i0 < d.size ∧ ((d.pl i0).1 = c ∧ (d.pl i0).2.1 = h ∧ (d.pl i0).2.2 = s) ∧ ∃ k, d.kAt c h s = some k ∧ i0 = d.tf k + s) ∨ (i0 = d.size ∧ d.kAt c h s = none)) := by
      cases hka : d.kAt c h s with
      | some k =>
        obtain ⟨k1, k2⟩ := kAt_spec hka
        have htf := g.tf k (by omega)
        have hts := g.ts k1
        have htm := tf_mono g k1 (Nat.le_refl _)
        have hpl := pl_at g k1 (s := s) (by have := k2.2; omega)
        have hs := k2.2
        refine ⟨d.tf k + s, by omega, by unfold GDisk.size; omega, fun i j1 j2 j3 => ?_, .inl ⟨by unfold GDisk.size; omega, ?_, k, rfl, rfl⟩⟩
        · have : d.pl i = d.pl (d.tf k + s) := by
            rw [hpl]
            exact Prod.ext (j3.1.trans k2.1.1.symm) (Prod.ext (j3.2.1.trans k2.1.2.symm) j3.2.2)
          have := pl_inj g (i := i) (j := d.tf k + s) (by unfold GDisk.size; omega) (by unfold GDisk.size; omega) this
          omega
        · rw [hpl]; exact ⟨k2.1.1, k2.1.2, rfl⟩
      | none =>
        refine ⟨d.size, by omega, Int.le_refl _, fun i j1 j2 j3 => ?_, .inr ⟨rfl, rfl⟩⟩
        obtain ⟨a, ha⟩ := Option.isSome_iff_exists.1 ((kOf_iff g i).2 ⟨j1, j2⟩)
        rw [place_pl g ha] at j3
        obtain ⟨a1, a2⟩ := kOf_spec ha
        unfold GDisk.holds at a2
        have x3 : i - d.tf a = s := j3.2.2
        exact kAt_none.1 hka a a1 ⟨⟨j3.1, j3.2.1⟩, by omega⟩
    (try (simp -implicitDefEqProofs only [go_sem, diskD_eq, diskC_eq, placeD_eq])); repeat' first | with_reducible exact True.intro | with_reducible refine And.intro ?_ ?_ | with_reducible intro _ | (((with_reducible refine isCall ?_); first | refine call_b (c1) rfl ?_ ?_ | refine call_d (c1) rfl ?_ | refine call_sb (c1) rfl ?_ ?_ | refine call_s (c1) rfl rfl ?_ | refine call_b (c2) rfl ?_ ?_ | refine call_d (c2) rfl ?_ | refine call_sb (c2) rfl ?_ ?_ | refine call_s (c2) rfl rfl ?_) <;> try (simp -implicitDefEqProofs only [go_sem, diskD_eq, diskC_eq, placeD_eq])) | (((with_reducible refine vc_b ?_ ?_) <;> intro _) <;> try (simp -implicitDefEqProofs only [go_sem, diskD_eq, diskC_eq, placeD_eq])) | simp (disch := omega) only [wrapI, wrapU, shl1, shl1', shl1'', shrN, shrN', and_one] | ((with_reducible refine isEx ?_); refine ⟨_, rfl, ?_, ?_⟩)
    all_goals first | omega | (simp; done) | (simp; omega) | skip
    refine pw_loopS (α := Int) (l0 := ?l1) (m0 := ?m1) (fun x => [(7, .d (.int .i64 x))]) (fun x => []) (fun x => 0 ≤ x ∧ x ≤ i0) (fun x => (d.size - x).toNat) ?a1_0 ?h01 ?he1 ?he21 ?hI1 ?step1
    case h01 => (simp -implicitDefEqProofs only [go_sem, diskC_eq]; rfl)
    case he1 => rfl
    case he21 => rfl
    case' step1 => (rintro i hI; try dsimp only at hI)
    case' hI1 => try dsimp only
    · exact ⟨by omega, by omega⟩
    · obtain ⟨h1, h2⟩ := hI
      by_cases hi : i < d.size
      · have hget := pls_get (d := d) i h1 hi
        obtain ⟨p, hp⟩ : ∃ p, d.pl i = p := ⟨_, rfl⟩
        have w1 : IntKind.i64.wrap (i + 1) = i + 1 := wrapI _ (by omega)
        have hil : i < d.pls.length := by omega
        by_cases hlt2 : i < i0
        · have hne := hlt i h1 hlt2
          rw [hp] at hget hne
          (try (simp -implicitDefEqProofs only [go_sem, plsD_len, onSome_pls, hget, plD_eq, plsD_unif, w1, hne, hil])); repeat' first | with_reducible exact True.intro | with_reducible refine And.intro ?_ ?_ | with_reducible intro _ | (((with_reducible refine vc_b ?_ ?_) <;> intro _) <;> try (simp -implicitDefEqProofs only [go_sem, plsD_len, onSome_pls, hget, plD_eq, plsD_unif, w1, hne, hil])) | simp (disch := omega) only [wrapI, wrapU, shl1, shl1', shl1'', shrN, shrN', and_one] | ((with_reducible refine isEx ?_); refine ⟨_, rfl, ?_, ?_⟩)
          all_goals first | omega | (simp; done) | (simp; omega) | skip
        · have hie : i = i0 := by omega
          rcases heq with ⟨_, e2, k, e3, e4⟩ | ⟨e2, _⟩
          · rw [← hie, hp] at e2
            rw [hp] at hget
            rw [e3]
            obtain ⟨f1, f2, f3⟩ := e2
            (try (simp -implicitDefEqProofs only [go_sem, plsD_len, onSome_pls, hget, plD_eq, plsD_unif, w1, f1, f2, f3, hil])); repeat' first | with_reducible exact True.intro | with_reducible refine And.intro ?_ ?_ | with_reducible intro _ | (((with_reducible refine vc_b ?_ ?_) <;> intro _) <;> try (simp -implicitDefEqProofs only [go_sem, plsD_len, onSome_pls, hget, plD_eq, plsD_unif, w1, f1, f2, f3, hil])) | simp (disch := omega) only [wrapI, wrapU, shl1, shl1', shl1'', shrN, shrN', and_one] | ((with_reducible refine isEx ?_); refine ⟨_, rfl, ?_, ?_⟩)
            all_goals first | omega | (simp; done) | (simp; omega) | skip
          · omega
      · have hil : ¬ i < d.pls.length := by omega
        rcases heq with ⟨e1, _⟩ | ⟨_, e3⟩
        · omega
        · rw [e3]
          (try (simp -implicitDefEqProofs only [go_sem, plsD_len, hil])); repeat' first | with_reducible exact True.intro | with_reducible refine And.intro ?_ ?_ | with_reducible intro _ | (((with_reducible refine vc_b ?_ ?_) <;> intro _) <;> try (simp -implicitDefEqProofs only [go_sem, plsD_len, hil])) | simp (disch := omega) only [wrapI, wrapU, shl1, shl1', shl1'', shrN, shrN', and_one] | ((with_reducible refine isEx ?_); refine ⟨_, rfl, ?_, ?_⟩)
          all_goals first | omega | (simp; done) | (simp; omega) | skip

theorem ref01_IsSector_ret (d : GDisk) (h : d.ok = true) (n : Int) : Ret E0 F_ref01_IsSector [diskD d, .int .i64 n] (.bool (inZ n 0 (d.size - 1))) := by
  refine ret_of_pw dec_ref01_IsSector mixed (by simp) fun hwf => ?_
  have g := good_of h
  have hsz := size_bound g
  have c1 := ref01_Count_ret d h
  have c2 := ref01_within_ret n 0 (d.size - 1)
  have w1 : IntKind.i64.wrap (d.size - 1) = d.size - 1 := wrapI _ (by omega)
  rw [enter_eq]; unfold pc_ref01_IsSector
  cases hb : inZ n 0 (d.size - 1) with
  | false => rw [hb] at c2; (try (simp -implicitDefEqProofs only [go_sem, diskD_eq, diskC_eq, w1])); repeat' first | with_reducible exact True.intro | with_reducible refine And.intro ?_ ?_ | with_reducible intro _ | (((with_reducible refine isCall ?_); first | refine call_b (c1) rfl ?_ ?_ | refine call_d (c1) rfl ?_ | refine call_sb (c1) rfl ?_ ?_ | refine call_s (c1) rfl rfl ?_ | refine call_b (c2) rfl ?_ ?_ | refine call_d (c2) rfl ?_ | refine call_sb (c2) rfl ?_ ?_ | refine call_s (c2) rfl rfl ?_) <;> try (simp -implicitDefEqProofs only [go_sem, diskD_eq, diskC_eq, w1])) | (((with_reducible refine vc_b ?_ ?_) <;> intro _) <;> try (simp -implicitDefEqProofs only [go_sem, diskD_eq, diskC_eq, w1])) | simp (disch := omega) only [wrapI, wrapU, shl1, shl1', shl1'', shrN, shrN', and_one] 
  | true => rw [hb] at c2; (try (simp -implicitDefEqProofs only [go_sem, diskD_eq, diskC_eq, w1])); repeat' first | with_reducible exact True.intro | with_reducible refine And.intro ?_ ?_ | with_reducible intro _ | (((with_reducible refine isCall ?_); first | refine call_b (c1) rfl ?_ ?_ | refine call_d (c1) rfl ?_ | refine call_sb (c1) rfl ?_ ?_ | refine call_s (c1) rfl rfl ?_ | refine call_b (c2) rfl ?_ ?_ | refine call_d (c2) rfl ?_ | refine call_sb (c2) rfl ?_ ?_ | refine call_s (c2) rfl rfl ?_) <;> try (simp -implicitDefEqProofs only [go_sem, diskD_eq, diskC_eq, w1])) | (((with_reducible refine vc_b ?_ ?_) <;> intro _) <;> try (simp -implicitDefEqProofs only [go_sem, diskD_eq, diskC_eq, w1])) | simp (disch := omega) only [wrapI, wrapU, shl1, shl1', shl1'', shrN, shrN', and_one] 

theorem ref01_checkSector_ret (d : GDisk) (n : Int) : Ret E0 F_ref01_checkSector [diskD d, .int .i64 n] (.int .i64 (d.csec n)) := by
  refine ret_of_pw dec_ref01_checkSector mixed (by simp) fun hwf => ?_
  have c1 := ref01_Check_ret d
  rw [enter_eq]; unfold pc_ref01_checkSector
  unfold GDisk.check GDisk.csec at *
  cases h : d.ok with
  | false =>
    rw [h] at c1
    (try (simp -implicitDefEqProofs only [go_sem, diskD_eq, diskC_eq])); repeat' first | with_reducible exact True.intro | with_reducible refine And.intro ?_ ?_ | with_reducible intro _ | (((with_reducible refine isCall ?_); first | refine call_b (c1) rfl ?_ ?_ | refine call_d (c1) rfl ?_ | refine call_sb (c1) rfl ?_ ?_ | refine call_s (c1) rfl rfl ?_) <;> try (simp -implicitDefEqProofs only [go_sem, diskD_eq, diskC_eq])) | (((with_reducible refine vc_b ?_ ?_) <;> intro _) <;> try (simp -implicitDefEqProofs only [go_sem, diskD_eq, diskC_eq])) | simp (disch := omega) only [wrapI, wrapU, shl1, shl1', shl1'', shrN, shrN', and_one] 
    all_goals first | omega | (simp; done) | (simp; omega) | skip
  | true =>
    rw [h] at c1
    have c2 := ref01_IsSector_ret d h n
    cases hb : inZ n 0 (d.size - 1) with
    | false =>
      rw [hb] at c2
      (try (simp -implicitDefEqProofs only [go_sem, diskD_eq, diskC_eq])); repeat' first | with_reducible exact True.intro | with_reducible refine And.intro ?_ ?_ | with_reducible intro _ | (((with_reducible refine isCall ?_); first | refine call_b (c1) rfl ?_ ?_ | refine call_d (c1) rfl ?_ | refine call_sb (c1) rfl ?_ ?_ | refine call_s (c1) rfl rfl ?_ | refine call_b (c2) rfl ?_ ?_ | refine call_d (c2) rfl ?_ | refine call_sb (c2) rfl ?_ ?_ | refine call_s (c2) rfl rfl ?_) <;> try (simp -implicitDefEqProofs only [go_sem, diskD_eq, diskC_eq])) | (((with_reducible refine vc_b ?_ ?_) <;> intro _) <;> try (simp -implicitDefEqProofs only [go_sem, diskD_eq, diskC_eq])) | simp (disch := omega) only [wrapI, wrapU, shl1, shl1', shl1'', shrN, shrN', and_one] 
      all_goals first | omega | (simp; done) | (simp; omega) | skip
    | true =>
      rw [hb] at c2
      (try (simp -implicitDefEqProofs only [go_sem, diskD_eq, diskC_eq])); repeat' first | with_reducible exact True.intro | with_reducible refine And.intro ?_ ?_ | with_reducible intro _ | (((with_reducible refine isCall ?_); first | refine call_b (c1) rfl ?_ ?_ | refine call_d (c1) rfl ?_ | refine call_sb (c1) rfl ?_ ?_ | refine call_s (c1) rfl rfl ?_ | refine call_b (c2) rfl ?_ ?_ | refine call_d (c2) rfl ?_ | refine call_sb (c2) rfl ?_ ?_ | refine call_s (c2) rfl rfl ?_) <;> try (simp -implicitDefEqProofs only [go_sem, diskD_eq, diskC_eq])) | (((with_reducible refine vc_b ?_ ?_) <;> intro _) <;> try (simp -implicitDefEqProofs only [go_sem, diskD_eq, diskC_eq])) | simp (disch := omega) only [wrapI, wrapU, shl1, shl1', shl1'', shrN, shrN', and_one] 
      all_goals first | omega | (simp; done) | (simp; omega) | skip

theorem csec_cases (d : GDisk) (n : Int) : (d.ok = false ∧ d.csec n = 10) ∨ (d.ok = true ∧ d.kOf n = none ∧ d.csec n = 1) ∨ (d.ok = true ∧ (0 ≤ n ∧ n < d.size) ∧ d.csec n = 0 ∧ ∃ k, d.kOf n = some k) := by
  unfold GDisk.csec
  cases h : d.ok with
  | false => left; simp
  | true =>
    right
    have g := good_of h
    by_cases hb : 0 ≤ n ∧ n < d.size
    · right
      exact ⟨rfl, hb, by rw [inZ_iff.2 (by omega)]; simp, Option.isSome_iff_exists.1 ((kOf_iff g n).2 hb)⟩
    · left
      refine ⟨rfl, ?_, by rw [inZ_no.2 (by omega)]; simp⟩
      cases hk : d.kOf n with
      | none => rfl
      | some k => exact absurd ((kOf_iff g n).1 (by rw [hk]; rfl)) hb

theorem ref01_Place_ret (d : GDisk) (n : Int) : Ret E0 F_ref01_Place [diskD d, .int .i64 n] (.tup [placeD (d.place n).1.1 (d.place n).1.2.1 (d.place n).1.2.2, .int .i64 (d.place n).2]) := by
  refine ret_of_pw dec_ref01_Place mixed (by simp) fun hwf => ?_
  have c1 := ref01_checkSector_ret d n
  rw [enter_eq]; unfold pc_ref01_Place GDisk.place
  rcases csec_cases d n with ⟨h1, h2⟩ | ⟨h1, h2, h3⟩ | ⟨h1, h2, h3, k, h4⟩
  · rw [h1]; rw [h2] at c1
    (try (simp -implicitDefEqProofs only [go_sem, diskD_eq, diskC_eq, placeD_eq])); repeat' first | with_reducible exact True.intro | with_reducible refine And.intro ?_ ?_ | with_reducible intro _ | (((with_reducible refine isCall ?_); first | refine call_b (c1) rfl ?_ ?_ | refine call_d (c1) rfl ?_ | refine call_sb (c1) rfl ?_ ?_ | refine call_s (c1) rfl rfl ?_) <;> try (simp -implicitDefEqProofs only [go_sem, diskD_eq, diskC_eq, placeD_eq])) | (((with_reducible refine vc_b ?_ ?_) <;> intro _) <;> try (simp -implicitDefEqProofs only [go_sem, diskD_eq, diskC_eq, placeD_eq])) | simp (disch := omega) only [wrapI, wrapU, shl1, shl1', shl1'', shrN, shrN', and_one] 
    all_goals first | omega | (simp; done) | (simp; omega) | skip
  · rw [h1, h2]; rw [h3] at c1
    (try (simp -implicitDefEqProofs only [go_sem, diskD_eq, diskC_eq, placeD_eq])); repeat' first | with_reducible exact True.intro | with_reducible refine And.intro ?_ ?_ | with_reducible intro _ | (((with_reducible refine isCall ?_); first | refine call_b (c1) rfl ?_ ?_ | refine call_d (c1) rfl ?_ | refine call_sb (c1) rfl ?_ ?_ | refine call_s (c1) rfl rfl ?_) <;> try (simp -implicitDefEqProofs only [go_sem, diskD_eq, diskC_eq, placeD_eq])) | (((with_reducible refine vc_b ?_ ?_) <;> intro _) <;> try (simp -implicitDefEqProofs only [go_sem, diskD_eq, diskC_eq, placeD_eq])) | simp (disch := omega) only [wrapI, wrapU, shl1, shl1', shl1'', shrN, shrN', and_one] 
    all_goals first | omega | (simp; done) | (simp; omega) | skip
  · rw [h1, h4]; rw [h3] at c1
    have g := good_of h1
    have c2 := ref01_Places_ret d h1
    have hget := pls_get (d := d) n h2.1 h2.2
    have hlen := pls_len d
    have hil : n < d.pls.length := by omega
    have h0 := h2.1
    rw [place_pl g h4] at hget
    (try (simp -implicitDefEqProofs only [go_sem, diskD_eq, diskC_eq, placeD_eq, plsD_len, onSome_pls, hget, plD_eq, plsD_unif, hil, h0])); repeat' first | with_reducible exact True.intro | with_reducible refine And.intro ?_ ?_ | with_reducible intro _ | (((with_reducible refine isCall ?_); first | refine call_b (c1) rfl ?_ ?_ | refine call_d (c1) rfl ?_ | refine call_sb (c1) rfl ?_ ?_ | refine call_s (c1) rfl rfl ?_ | refine call_b (c2) rfl ?_ ?_ | refine call_d (c2) rfl ?_ | refine call_sb (c2) rfl ?_ ?_ | refine call_s (c2) rfl rfl ?_) <;> try (simp -implicitDefEqProofs only [go_sem, diskD_eq, diskC_eq, placeD_eq, plsD_len, onSome_pls, hget, plD_eq, plsD_unif, hil, h0])) | (((with_reducible refine vc_b ?_ ?_) <;> intro _) <;> try (simp -implicitDefEqProofs only [go_sem, diskD_eq, diskC_eq, placeD_eq, plsD_len, onSome_pls, hget, plD_eq, plsD_unif, hil, h0])) | simp (disch := omega) only [wrapI, wrapU, shl1, shl1', shl1'', shrN, shrN', and_one] 
    all_goals first | omega | (simp; done) | (simp; omega) | skip

theorem ref01_offset_ret (d : GDisk) (h : d.ok = true) (k : Nat) (hk : k < d.nt) : Ret E0 F_ref01_offset [diskD d, .int .i64 (d.tc k), .int .i64 (d.th k)] (.int .i64 (d.to k)) := by
  refine ret_of_pw dec_ref01_offset mixed (by simp) fun hwf => ?_
  have g := good_of h
  have t1 := g.t1; have t2 := g.t2; have g1 := g.h1; have g2 := g.h2; have k1 := g.k1; have k2 := g.k2; have c1 := g.c1; have c2 := g.c2
  have h1 := tc_lt hk
  have h2 := g.cyls
  have h3 : 0 ≤ d.tc k := tc_nn k
  have h4 : 0 ≤ d.th k ∧ d.th k < 4 := by
    unfold GDisk.th
    have := Nat.mod_lt k g.hp
    have := g.hn
    omega
  rw [to_eq g, enter_eq]; unfold pc_ref01_offset
  generalize d.tc k = a at *
  generalize d.th k = b at *
  have m1 : 0 ≤ a * d.cskew ∧ a * d.cskew ≤ 80 * 1000 := ⟨Int.mul_nonneg (by omega) (by omega), Int.mul_le_mul (by omega) (by omega) (by omega) (by omega)⟩
  have m2 : 0 ≤ a * (d.heads - 1) ∧ a * (d.heads - 1) ≤ 80 * 3 := ⟨Int.mul_nonneg (by omega) (by omega), Int.mul_le_mul (by omega) (by omega) (by omega) (by omega)⟩
  have m3 : 0 ≤ (a * (d.heads - 1) + b) * d.hskew ∧ (a * (d.heads - 1) + b) * d.hskew ≤ 300 * 1000 := ⟨Int.mul_nonneg (by omega) (by omega), Int.mul_le_mul (by omega) (by omega) (by omega) (by omega)⟩
  have w0 : IntKind.i64.wrap (d.heads - 1) = d.heads - 1 := wrapI _ (by omega)
  have w1 : IntKind.i64.wrap (a * d.cskew) = a * d.cskew := wrapI _ (by omega)
  have w2 : IntKind.i64.wrap (a * (d.heads - 1)) = a * (d.heads - 1) := wrapI _ (by omega)
  have w3 : IntKind.i64.wrap (a * (d.heads - 1) + b) = a * (d.heads - 1) + b := wrapI _ (by omega)
  have w4 : IntKind.i64.wrap ((a * (d.heads - 1) + b) * d.hskew) = (a * (d.heads - 1) + b) * d.hskew := wrapI _ (by omega)
  have w5 : IntKind.i64.wrap (a * d.cskew + (a * (d.heads - 1) + b) * d.hskew) = a * d.cskew + (a * (d.heads - 1) + b) * d.hskew := wrapI _ (by omega)
  have w6 : (a * d.cskew + (a * (d.heads - 1) + b) * d.hskew).tmod d.turn = (a * d.cskew + (a * (d.heads - 1) + b) * d.hskew) % d.turn := Int.tmod_eq_emod_of_nonneg (by omega)
  have hne : ¬ d.turn = 0 := by omega
  (try (simp -implicitDefEqProofs only [go_sem, diskD_eq, diskC_eq, w0, w1, w2, w3, w4, w5, w6, hne])); repeat' first | with_reducible exact True.intro | with_reducible refine And.intro ?_ ?_ | with_reducible intro _ | (((with_reducible refine vc_b ?_ ?_) <;> intro _) <;> try (simp -implicitDefEqProofs only [go_sem, diskD_eq, diskC_eq, w0, w1, w2, w3, w4, w5, w6, hne])) | simp (disch := omega) only [wrapI, wrapU, shl1, shl1', shl1'', shrN, shrN', and_one] 
  all_goals first | omega | (simp; done) | (simp; omega) | skip

theorem ref01_begins_ret (d : GDisk) (h : d.ok = true) (n : Int) (k : Nat) (hk : d.kOf n = some k) : Ret E0 F_ref01_begins [diskD d, .agg [.int .i64 (d.tc k), .int .i64 (d.th k), .int .i64 (n - d.tf k)]] (.int .i64 ((d.to k + (n - d.tf k) * d.own k) % d.turn)) := by
  refine ret_of_pw dec_ref01_begins mixed (by simp) fun hwf => ?_
  have g := good_of h
  have t1 := g.t1; have t2 := g.t2
  obtain ⟨k1, k2⟩ := kOf_spec hk
  have c1 := ref01_offset_ret d h k k1
  have h1 := tc_lt k1
  have h3 : 0 ≤ d.tc k := tc_nn k
  have c2 := ref01_Sectors_ret d h (d.tc k) h3 h1
  rw [← ts_secs] at c2
  have ha := angle_in g k1 k2
  have ho := g.own k1
  have hts := g.ts k1
  have hto := g.to k
  have hw3 : IntKind.i64.wrap ((n - d.tf k) * d.own k) = (n - d.tf k) * d.own k := wrapI _ (by omega)
  have hw4 : IntKind.i64.wrap (d.to k + (n - d.tf k) * d.own k) = d.to k + (n - d.tf k) * d.own k := wrapI _ (by omega)
  have hw2 : IntKind.i64.wrap (d.own k) = d.own k := wrapI _ (by omega)
  have hm : (d.to k + (n - d.tf k) * d.own k).tmod d.turn = (d.to k + (n - d.tf k) * d.own k) % d.turn := Int.tmod_eq_emod_of_nonneg (by omega)
  have hne : ¬ d.ts k = 0 := by omega
  have hne2 : ¬ d.turn = 0 := by omega
  have hq := ho.2.2.2
  rw [enter_eq]; unfold pc_ref01_begins
  (try (simp -implicitDefEqProofs only [go_sem, diskD_eq, diskC_eq, hw2, hw3, hw4, hm, hne, hne2, hq])); repeat' first | with_reducible exact True.intro | with_reducible refine And.intro ?_ ?_ | with_reducible intro _ | (((with_reducible refine isCall ?_); first | refine call_b (c1) rfl ?_ ?_ | refine call_d (c1) rfl ?_ | refine call_sb (c1) rfl ?_ ?_ | refine call_s (c1) rfl rfl ?_ | refine call_b (c2) rfl ?_ ?_ | refine call_d (c2) rfl ?_ | refine call_sb (c2) rfl ?_ ?_ | refine call_s (c2) rfl rfl ?_) <;> try (simp -implicitDefEqProofs only [go_sem, diskD_eq, diskC_eq, hw2, hw3, hw4, hm, hne, hne2, hq])) | (((with_reducible refine vc_b ?_ ?_) <;> intro _) <;> try (simp -implicitDefEqProofs only [go_sem, diskD_eq, diskC_eq, hw2, hw3, hw4, hm, hne, hne2, hq])) | simp (disch := omega) only [wrapI, wrapU, shl1, shl1', shl1'', shrN, shrN', and_one] 
  all_goals first | omega | (simp; done) | (simp; omega) | skip

theorem ref01_Angle_ret (d : GDisk) (n : Int) : Ret E0 F_ref01_Angle [diskD d, .int .i64 n] (.tup [.int .i64 (d.angle n).1, .int .i64 (d.angle n).2.1, .int .i64 (d.angle n).2.2]) := by
  refine ret_of_pw dec_ref01_Angle mixed (by simp) fun hwf => ?_
  have c1 := ref01_checkSector_ret d n
  rw [enter_eq]; unfold pc_ref01_Angle GDisk.angle
  rcases csec_cases d n with ⟨h1, h2⟩ | ⟨h1, h2, h3⟩ | ⟨h1, h2, h3, k, h4⟩
  · rw [h1]; rw [h2] at c1
    (try (simp -implicitDefEqProofs only [go_sem, diskD_eq, diskC_eq])); repeat' first | with_reducible exact True.intro | with_reducible refine And.intro ?_ ?_ | with_reducible intro _ | (((with_reducible refine isCall ?_); first | refine call_b (c1) rfl ?_ ?_ | refine call_d (c1) rfl ?_ | refine call_sb (c1) rfl ?_ ?_ | refine call_s (c1) rfl rfl ?_) <;> try (simp -implicitDefEqProofs only [go_sem, diskD_eq, diskC_eq])) | (((with_reducible refine vc_b ?_ ?_) <;> intro _) <;> try (simp -implicitDefEqProofs only [go_sem, diskD_eq, diskC_eq])) | simp (disch := omega) only [wrapI, wrapU, shl1, shl1', shl1'', shrN, shrN', and_one] 
    all_goals first | omega | (simp; done) | (simp; omega) | skip
  · rw [h1, h2]; rw [h3] at c1
    (try (simp -implicitDefEqProofs only [go_sem, diskD_eq, diskC_eq])); repeat' first | with_reducible exact True.intro | with_reducible refine And.intro ?_ ?_ | with_reducible intro _ | (((with_reducible refine isCall ?_); first | refine call_b (c1) rfl ?_ ?_ | refine call_d (c1) rfl ?_ | refine call_sb (c1) rfl ?_ ?_ | refine call_s (c1) rfl rfl ?_) <;> try (simp -implicitDefEqProofs only [go_sem, diskD_eq, diskC_eq])) | (((with_reducible refine vc_b ?_ ?_) <;> intro _) <;> try (simp -implicitDefEqProofs only [go_sem, diskD_eq, diskC_eq])) | simp (disch := omega) only [wrapI, wrapU, shl1, shl1', shl1'', shrN, shrN', and_one] 
    all_goals first | omega | (simp; done) | (simp; omega) | skip
  · rw [h1, h4]; rw [h3] at c1
    have g := good_of h1
    obtain ⟨k1, k2⟩ := kOf_spec h4
    have c2 := ref01_Places_ret d h1
    have c3 := ref01_begins_ret d h1 n k h4
    have e1 := tc_lt k1
    have e3 : 0 ≤ d.tc k := tc_nn k
    have c4 := ref01_Sectors_ret d h1 (d.tc k) e3 e1
    rw [← ts_secs] at c4
    have ho := g.own k1
    have hts := g.ts k1
    have t2 := g.t2
    have hq := ho.2.2.2
    have hw2 : IntKind.i64.wrap (d.own k) = d.own k := wrapI _ (by omega)
    have hne : ¬ d.ts k = 0 := by omega
    have hget := pls_get (d := d) n h2.1 h2.2
    have hlen := pls_len d
    have hil : n < d.pls.length := by omega
    have h0 := h2.1
    rw [place_pl g h4] at hget
    (try (simp -implicitDefEqProofs only [go_sem, diskD_eq, diskC_eq, plsD_len, onSome_pls, hget, plD_eq, plsD_unif, hil, h0, hq, hw2, hne])); repeat' first | with_reducible exact True.intro | with_reducible refine And.intro ?_ ?_ | with_reducible intro _ | (((with_reducible refine isCall ?_); first | refine call_b (c1) rfl ?_ ?_ | refine call_d (c1) rfl ?_ | refine call_sb (c1) rfl ?_ ?_ | refine call_s (c1) rfl rfl ?_ | refine call_b (c2) rfl ?_ ?_ | refine call_d (c2) rfl ?_ | refine call_sb (c2) rfl ?_ ?_ | refine call_s (c2) rfl rfl ?_ | refine call_b (c3) rfl ?_ ?_ | refine call_d (c3) rfl ?_ | refine call_sb (c3) rfl ?_ ?_ | refine call_s (c3) rfl rfl ?_ | refine call_b (c4) rfl ?_ ?_ | refine call_d (c4) rfl ?_ | refine call_sb (c4) rfl ?_ ?_ | refine call_s (c4) rfl rfl ?_) <;> try (simp -implicitDefEqProofs only [go_sem, diskD_eq, diskC_eq, plsD_len, onSome_pls, hget, plD_eq, plsD_unif, hil, h0, hq, hw2, hne])) | (((with_reducible refine vc_b ?_ ?_) <;> intro _) <;> try (simp -implicitDefEqProofs only [go_sem, diskD_eq, diskC_eq, plsD_len, onSome_pls, hget, plD_eq, plsD_unif, hil, h0, hq, hw2, hne])) | simp (disch := omega) only [wrapI, wrapU, shl1, shl1', shl1'', shrN, shrN', and_one] 
    all_goals first | omega | (simp; done) | (simp; omega) | skip

theorem ref01_After_ret (d : GDisk) (g : d.Good) (time a : Int) (h1 : 0 ≤ time ∧ time ≤ 1000000000) (h2 : 0 ≤ a ∧ a ≤ 1000000000) : Ret E0 F_ref01_After [diskD d, .int .i64 time, .int .i64 a] (.int .i64 ((a - time) % d.turn)) := by
  refine ret_of_pw dec_ref01_After mixed (by simp) fun hwf => ?_
  have t1 := g.t1; have t2 := g.t2
  have hb1 := Int.lt_tmod_of_pos (a - time) (b := d.turn) (by omega)
  have hb2 := Int.tmod_lt_of_pos (a - time) (b := d.turn) (by omega)
  have w1 : IntKind.i64.wrap (a - time) = a - time := wrapI _ (by omega)
  have w2 : IntKind.i64.wrap ((a - time).tmod d.turn + d.turn) = (a - time).tmod d.turn + d.turn := wrapI _ (by omega)
  have w3 : ((a - time).tmod d.turn + d.turn).tmod d.turn = (a - time) % d.turn := by
    rw [Int.tmod_eq_emod_of_nonneg (by omega), Int.add_emod_right]
    have h3 := Int.mul_tdiv_add_tmod (a - time) d.turn
    have h4 : (a - time).tmod d.turn = (a - time) + d.turn * (-(a - time).tdiv d.turn) := by rw [Int.mul_neg]; omega
    rw [h4, Int.add_mul_emod_self_left]
  have hne2 : ¬ d.turn = 0 := by omega
  rw [enter_eq]; unfold pc_ref01_After
  (try (simp -implicitDefEqProofs only [go_sem, diskD_eq, diskC_eq, w1, w2, w3, hne2])); repeat' first | with_reducible exact True.intro | with_reducible refine And.intro ?_ ?_ | with_reducible intro _ | (((with_reducible refine vc_b ?_ ?_) <;> intro _) <;> try (simp -implicitDefEqProofs only [go_sem, diskD_eq, diskC_eq, w1, w2, w3, hne2])) | simp (disch := omega) only [wrapI, wrapU, shl1, shl1', shl1'', shrN, shrN', and_one] 
  all_goals first | omega | (simp; done) | (simp; omega) | skip

theorem ref01_Wait_ret (d : GDisk) (n time : Int) : Ret E0 F_ref01_Wait [diskD d, .int .i64 n, .int .i64 time] (.tup [.int .i64 (d.wait n time).1, .int .i64 (d.wait n time).2]) := by
  refine ret_of_pw dec_ref01_Wait mixed (by simp) fun hwf => ?_
  have c1 := ref01_checkSector_ret d n
  have c5 := ref01_within_ret time 0 1000000
  rw [enter_eq]; unfold pc_ref01_Wait GDisk.wait GDisk.angle
  rcases csec_cases d n with ⟨h1, h2⟩ | ⟨h1, h2, h3⟩ | ⟨h1, h2, h3, k, h4⟩
  · rw [h1]; rw [h2] at c1
    (try (simp -implicitDefEqProofs only [go_sem, diskD_eq, diskC_eq])); repeat' first | with_reducible exact True.intro | with_reducible refine And.intro ?_ ?_ | with_reducible intro _ | (((with_reducible refine isCall ?_); first | refine call_b (c1) rfl ?_ ?_ | refine call_d (c1) rfl ?_ | refine call_sb (c1) rfl ?_ ?_ | refine call_s (c1) rfl rfl ?_) <;> try (simp -implicitDefEqProofs only [go_sem, diskD_eq, diskC_eq])) | (((with_reducible refine vc_b ?_ ?_) <;> intro _) <;> try (simp -implicitDefEqProofs only [go_sem, diskD_eq, diskC_eq])) | simp (disch := omega) only [wrapI, wrapU, shl1, shl1', shl1'', shrN, shrN', and_one] 
    all_goals first | omega | (simp; done) | (simp; omega) | skip
  · rw [h1, h2]; rw [h3] at c1
    (try (simp -implicitDefEqProofs only [go_sem, diskD_eq, diskC_eq])); repeat' first | with_reducible exact True.intro | with_reducible refine And.intro ?_ ?_ | with_reducible intro _ | (((with_reducible refine isCall ?_); first | refine call_b (c1) rfl ?_ ?_ | refine call_d (c1) rfl ?_ | refine call_sb (c1) rfl ?_ ?_ | refine call_s (c1) rfl rfl ?_) <;> try (simp -implicitDefEqProofs only [go_sem, diskD_eq, diskC_eq])) | (((with_reducible refine vc_b ?_ ?_) <;> intro _) <;> try (simp -implicitDefEqProofs only [go_sem, diskD_eq, diskC_eq])) | simp (disch := omega) only [wrapI, wrapU, shl1, shl1', shl1'', shrN, shrN', and_one] 
    all_goals first | omega | (simp; done) | (simp; omega) | skip
  · rw [h1, h4]; rw [h3] at c1
    have g := good_of h1
    have t1 := g.t1; have t2 := g.t2
    cases ht : inZ time 0 1000000 with
    | false =>
      rw [ht] at c5
      (try (simp -implicitDefEqProofs only [go_sem, diskD_eq, diskC_eq])); repeat' first | with_reducible exact True.intro | with_reducible refine And.intro ?_ ?_ | with_reducible intro _ | (((with_reducible refine isCall ?_); first | refine call_b (c1) rfl ?_ ?_ | refine call_d (c1) rfl ?_ | refine call_sb (c1) rfl ?_ ?_ | refine call_s (c1) rfl rfl ?_ | refine call_b (c5) rfl ?_ ?_ | refine call_d (c5) rfl ?_ | refine call_sb (c5) rfl ?_ ?_ | refine call_s (c5) rfl rfl ?_) <;> try (simp -implicitDefEqProofs only [go_sem, diskD_eq, diskC_eq])) | (((with_reducible refine vc_b ?_ ?_) <;> intro _) <;> try (simp -implicitDefEqProofs only [go_sem, diskD_eq, diskC_eq])) | simp (disch := omega) only [wrapI, wrapU, shl1, shl1', shl1'', shrN, shrN', and_one] 
      all_goals first | omega | (simp; done) | (simp; omega) | skip
    | true =>
      rw [ht] at c5
      have htm := inZ_iff.1 ht
      have c2 := ref01_Places_ret d h1
      have c3 := ref01_begins_ret d h1 n k h4
      have hx1 := Int.emod_nonneg (d.to k + (n - d.tf k) * d.own k) (b := d.turn) (by omega)
      have hx2 := Int.emod_lt_of_pos (d.to k + (n - d.tf k) * d.own k) (b := d.turn) (by omega)
      have c4 := ref01_After_ret d g time _ (by omega) ⟨hx1, by omega⟩
      have hget := pls_get (d := d) n h2.1 h2.2
      have hlen := pls_len d
      have hil : n < d.pls.length := by omega
      have h0 := h2.1
      rw [place_pl g h4] at hget
      (try (simp -implicitDefEqProofs only [go_sem, diskD_eq, diskC_eq, plsD_len, onSome_pls, hget, plD_eq, plsD_unif, hil, h0])); repeat' first | with_reducible exact True.intro | with_reducible refine And.intro ?_ ?_ | with_reducible intro _ | (((with_reducible refine isCall ?_); first | refine call_b (c1) rfl ?_ ?_ | refine call_d (c1) rfl ?_ | refine call_sb (c1) rfl ?_ ?_ | refine call_s (c1) rfl rfl ?_ | refine call_b (c2) rfl ?_ ?_ | refine call_d (c2) rfl ?_ | refine call_sb (c2) rfl ?_ ?_ | refine call_s (c2) rfl rfl ?_ | refine call_b (c3) rfl ?_ ?_ | refine call_d (c3) rfl ?_ | refine call_sb (c3) rfl ?_ ?_ | refine call_s (c3) rfl rfl ?_ | refine call_b (c4) rfl ?_ ?_ | refine call_d (c4) rfl ?_ | refine call_sb (c4) rfl ?_ ?_ | refine call_s (c4) rfl rfl ?_ | refine call_b (c5) rfl ?_ ?_ | refine call_d (c5) rfl ?_ | refine call_sb (c5) rfl ?_ ?_ | refine call_s (c5) rfl rfl ?_) <;> try (simp -implicitDefEqProofs only [go_sem, diskD_eq, diskC_eq, plsD_len, onSome_pls, hget, plD_eq, plsD_unif, hil, h0])) | (((with_reducible refine vc_b ?_ ?_) <;> intro _) <;> try (simp -implicitDefEqProofs only [go_sem, diskD_eq, diskC_eq, plsD_len, onSome_pls, hget, plD_eq, plsD_unif, hil, h0])) | simp (disch := omega) only [wrapI, wrapU, shl1, shl1', shl1'', shrN, shrN', and_one] 
      all_goals first | omega | (simp; done) | (simp; omega) | skip
end Go.Pw
