/- A part of the proof. -/
import Derived.Test.YtddmlbflglpgbaaZonesN
set_option linter.all false
open Go Go.Pw Go.Proofs
namespace Go.Pw
set_option linter.unusedSimpArgs false
set_option linter.unusedVariables false
set_option maxRecDepth 100000
set_option maxHeartbeats 3200000
def GDisk.rdy (d : GDisk) : Bool := !d.far && d.ok
theorem rdy_ok {d : GDisk} (h : d.rdy = true) : d.ok = true := by unfold GDisk.rdy at h; simp at h; exact h.2
theorem isRun_all {d : GDisk} (g : d.Good) : d.isRun 0 d.size := ⟨⟨by omega, (size_bound g).1⟩, by omega⟩
theorem run_of {d : GDisk} (h : d.ok = true) {a c : Int} (hr : d.isRun a c) : d.run a c = ((d.low a c.toNat, d.high a c.toNat), 0) := by unfold GDisk.run; rw [if_pos h, if_pos hr]
theorem noTurn {d : GDisk} (g : d.Good) (h1 : d.hhi ≤ d.hskew) (h2 : d.chi ≤ d.cskew) (m : Nat) : d.turns 0 m = 0 ∧ d.low 0 m = d.high 0 m := by
  have s2 := g.s2; have s5 := g.s5
  have t : ∀ s x, x ≤ s → gapT d.turn s x = 0 := fun s x hx => by unfold gapT; rw [if_pos hx]
  have v : ∀ s x, x ≤ s → gapV d.turn s x = s := fun s x hx => by unfold gapV; rw [t s x hx]; simp
  constructor
  · unfold GDisk.turns; rw [t _ _ h1, t _ _ h2]; simp
  · unfold GDisk.low GDisk.high; rw [v _ _ h1, v _ _ h2, v _ d.hlo (by omega), v _ d.clo (by omega)]
theorem turns_nn {d : GDisk} (g : d.Good) (a : Int) (m : Nat) : 0 ≤ d.turns a m := by
  have t1 := g.t1
  have q1 := gapT_spec (t := d.turn) (skew := d.hskew) (ticks := d.hhi) (by omega)
  have q2 := gapT_spec (t := d.turn) (skew := d.cskew) (ticks := d.chi) (by omega)
  have b1 := swR_bound (d := d) 1 a m
  have b2 := swR_bound (d := d) 2 a m
  have := Int.mul_nonneg q1.1 b1.1
  have := Int.mul_nonneg q2.1 b2.1
  unfold GDisk.turns; omega
theorem tch_lt {d : GDisk} (g : d.Good) {i j : Nat} (h : i < j) : d.tc i < d.tc j ∨ (d.tc i = d.tc j ∧ d.th i < d.th j) := by
  unfold GDisk.tc GDisk.th
  have e1 := Nat.div_add_mod i d.heads.toNat
  have e2 := Nat.div_add_mod j d.heads.toNat
  have h1 : i / d.heads.toNat ≤ j / d.heads.toNat := Nat.div_le_div_right (by omega)
  rcases Nat.lt_or_ge (i / d.heads.toNat) (j / d.heads.toNat) with h2 | h2
  · left; omega
  · right
    have h3 : i / d.heads.toNat = j / d.heads.toNat := by omega
    rw [h3] at e1 ⊢
    exact ⟨rfl, by omega⟩
theorem number_place {d : GDisk} (h : d.ok = true) {n : Int} (h1 : 0 ≤ n) (h2 : n < d.size) : ∃ k, d.kOf n = some k ∧ d.place n = ((d.tc k, d.th k, n - d.tf k), 0) ∧ d.number (d.tc k) (d.th k) (n - d.tf k) = (n, 0) := by
  have g := good_of h
  obtain ⟨k, hk⟩ := Option.isSome_iff_exists.1 ((kOf_iff g n).2 ⟨h1, h2⟩)
  obtain ⟨k1, k2⟩ := kOf_spec hk
  refine ⟨k, hk, ?_, ?_⟩
  · unfold GDisk.place; rw [if_pos h, hk]
  · unfold GDisk.number
    unfold GDisk.holds at k2
    rw [if_pos h, kAt_some k1 (show d.isAt (d.tc k) (d.th k) (n - d.tf k) k from ⟨⟨rfl, rfl⟩, by omega, by omega⟩)]
    simp only [Prod.mk.injEq, and_true]; omega
/-- The places of two numbers. -/
theorem once {d : GDisk} (h : d.ok = true) {m n : Int} {i j : Nat} (hi : d.kOf m = some i) (hj : d.kOf n = some j) (hmn : m < n) :
    d.tc i < d.tc j ∨ (d.tc i = d.tc j ∧ (d.th i < d.th j ∨ (d.th i = d.th j ∧ m - d.tf i < n - d.tf j))) := by
  have g := good_of h
  obtain ⟨a1, a2⟩ := kOf_spec hi
  obtain ⟨b1, b2⟩ := kOf_spec hj
  unfold GDisk.holds at a2 b2
  rcases Nat.lt_trichotomy i j with hij | hij | hij
  · rcases tch_lt g hij with h1 | h1
    · exact .inl h1
    · exact .inr ⟨h1.1, .inl h1.2⟩
  · subst hij; exact .inr ⟨rfl, .inr ⟨rfl, by omega⟩⟩
  · have := tf_mono g hij (by omega); omega
attribute [local congr] cg_pw cg_seqI cg_seqE cg_stepI cg_ev cg_evBin cg_condB cg_condV cg_thenQ cg_blockQ cg_onSome cg_onCells cg_onRow cg_onMap cg_onOpt cg_ghosts cg_ghost cg_evCall cg_part cg_rng cg_guardV cg_frzV cg_frpV cg_ownV cg_owcV cg_occV cg_occX cg_resK cg_res1 cg_yldP cg_rndE cg_onlyN cg_onHist
attribute [local irreducible] IntKind.wrap bitsOp Option.getD and or

theorem law01_ready_ret (d : GDisk) : Ret E0 F_law01_ready [diskD d] (.bool d.rdy) := by
  refine ret_of_pw dec_law01_ready mixed (by simp) fun hwf => ?_
  have c0 := law01_Far_ret d
  have c1 := ref01_Check_ret d
  unfold GDisk.check at c1
  rw [enter_eq]; unfold pc_law01_ready GDisk.rdy
  cases hf : d.far with
  | true =>
    rw [hf] at c0
    (try (simp -implicitDefEqProofs only [go_sem, diskD_eq, diskC_eq])); repeat' first | with_reducible exact True.intro | with_reducible refine And.intro ?_ ?_ | with_reducible intro _ | (((with_reducible refine isCall ?_); first | refine call_b (c0) rfl ?_ ?_ | refine call_d (c0) rfl ?_ | refine call_sb (c0) rfl ?_ ?_ | refine call_s (c0) rfl rfl ?_) <;> try (simp -implicitDefEqProofs only [go_sem, diskD_eq, diskC_eq])) | (((with_reducible refine vc_b ?_ ?_) <;> intro _) <;> try (simp -implicitDefEqProofs only [go_sem, diskD_eq, diskC_eq])) | simp (disch := omega) only [wrapI, wrapU, shl1, shl1', shl1'', shrN, shrN', and_one] 
    all_goals first | rfl | simp
  | false =>
    rw [hf] at c0
    cases h : d.ok with
    | true =>
      rw [h] at c1
      (try (simp -implicitDefEqProofs only [go_sem, diskD_eq, diskC_eq])); repeat' first | with_reducible exact True.intro | with_reducible refine And.intro ?_ ?_ | with_reducible intro _ | (((with_reducible refine isCall ?_); first | refine call_b (c0) rfl ?_ ?_ | refine call_d (c0) rfl ?_ | refine call_sb (c0) rfl ?_ ?_ | refine call_s (c0) rfl rfl ?_ | refine call_b (c1) rfl ?_ ?_ | refine call_d (c1) rfl ?_ | refine call_sb (c1) rfl ?_ ?_ | refine call_s (c1) rfl rfl ?_) <;> try (simp -implicitDefEqProofs only [go_sem, diskD_eq, diskC_eq])) | (((with_reducible refine vc_b ?_ ?_) <;> intro _) <;> try (simp -implicitDefEqProofs only [go_sem, diskD_eq, diskC_eq])) | simp (disch := omega) only [wrapI, wrapU, shl1, shl1', shl1'', shrN, shrN', and_one] 
      all_goals first | rfl | simp
    | false =>
      rw [h] at c1
      (try (simp -implicitDefEqProofs only [go_sem, diskD_eq, diskC_eq])); repeat' first | with_reducible exact True.intro | with_reducible refine And.intro ?_ ?_ | with_reducible intro _ | (((with_reducible refine isCall ?_); first | refine call_b (c0) rfl ?_ ?_ | refine call_d (c0) rfl ?_ | refine call_sb (c0) rfl ?_ ?_ | refine call_s (c0) rfl rfl ?_ | refine call_b (c1) rfl ?_ ?_ | refine call_d (c1) rfl ?_ | refine call_sb (c1) rfl ?_ ?_ | refine call_s (c1) rfl rfl ?_) <;> try (simp -implicitDefEqProofs only [go_sem, diskD_eq, diskC_eq])) | (((with_reducible refine vc_b ?_ ?_) <;> intro _) <;> try (simp -implicitDefEqProofs only [go_sem, diskD_eq, diskC_eq])) | simp (disch := omega) only [wrapI, wrapU, shl1, shl1', shl1'', shrN, shrN', and_one] 
      all_goals first | rfl | simp

theorem ZonesNoTurn_ret (d : GDisk) : Ret E0 F_law01_ZonesNoTurn [diskD d] (.bool true) := by
  refine ret_of_pw dec_law01_ZonesNoTurn mixed (by simp) fun hwf => ?_
  have c0 := law01_ready_ret d
  have cw := law01_works_ret
  rw [enter_eq]; unfold pc_law01_ZonesNoTurn
  cases hf : d.rdy with
  | false =>
    rw [hf] at c0
    (try (simp -implicitDefEqProofs only [go_sem, diskD_eq, diskC_eq])); repeat' first | with_reducible exact True.intro | with_reducible refine And.intro ?_ ?_ | with_reducible intro _ | (((with_reducible refine isCall ?_); first | refine call_b (c0) rfl ?_ ?_ | refine call_d (c0) rfl ?_ | refine call_sb (c0) rfl ?_ ?_ | refine call_s (c0) rfl rfl ?_ | refine call_b (cw) rfl ?_ ?_ | refine call_d (cw) rfl ?_ | refine call_sb (cw) rfl ?_ ?_ | refine call_s (cw) rfl rfl ?_) <;> try (simp -implicitDefEqProofs only [go_sem, diskD_eq, diskC_eq])) | (((with_reducible refine vc_b ?_ ?_) <;> intro _) <;> try (simp -implicitDefEqProofs only [go_sem, diskD_eq, diskC_eq])) | simp (disch := omega) only [wrapI, wrapU, shl1, shl1', shl1'', shrN, shrN', and_one] 
  | true =>
    rw [hf] at c0
    have h := rdy_ok hf
    have g := good_of h
    have c1 := zones_Lost_ret d
    have c2 := ref01_Count_ret d h
    have c3 := zones_Run_ret d 0 d.size
    rw [run_of h (isRun_all g)] at c3
    unfold GDisk.lost at c1
    rw [if_pos h] at c1
    have hn := turns_nn g 0 d.size.toNat
    have hn2 : ¬ d.turns 0 d.size.toNat < 0 := by omega
    by_cases h1 : d.hskew < d.hhi
    · (try (simp -implicitDefEqProofs only [go_sem, diskD_eq, diskC_eq, hn2, h1])); repeat' first | with_reducible exact True.intro | with_reducible refine And.intro ?_ ?_ | with_reducible intro _ | (((with_reducible refine isCall ?_); first | refine call_b (c0) rfl ?_ ?_ | refine call_d (c0) rfl ?_ | refine call_sb (c0) rfl ?_ ?_ | refine call_s (c0) rfl rfl ?_ | refine call_b (cw) rfl ?_ ?_ | refine call_d (cw) rfl ?_ | refine call_sb (cw) rfl ?_ ?_ | refine call_s (cw) rfl rfl ?_ | refine call_b (c1) rfl ?_ ?_ | refine call_d (c1) rfl ?_ | refine call_sb (c1) rfl ?_ ?_ | refine call_s (c1) rfl rfl ?_ | refine call_b (c2) rfl ?_ ?_ | refine call_d (c2) rfl ?_ | refine call_sb (c2) rfl ?_ ?_ | refine call_s (c2) rfl rfl ?_ | refine call_b (c3) rfl ?_ ?_ | refine call_d (c3) rfl ?_ | refine call_sb (c3) rfl ?_ ?_ | refine call_s (c3) rfl rfl ?_) <;> try (simp -implicitDefEqProofs only [go_sem, diskD_eq, diskC_eq, hn2, h1])) | (((with_reducible refine vc_b ?_ ?_) <;> intro _) <;> try (simp -implicitDefEqProofs only [go_sem, diskD_eq, diskC_eq, hn2, h1])) | simp (disch := omega) only [wrapI, wrapU, shl1, shl1', shl1'', shrN, shrN', and_one] 
    · by_cases h2 : d.cskew < d.chi
      · (try (simp -implicitDefEqProofs only [go_sem, diskD_eq, diskC_eq, hn2, h1, h2])); repeat' first | with_reducible exact True.intro | with_reducible refine And.intro ?_ ?_ | with_reducible intro _ | (((with_reducible refine isCall ?_); first | refine call_b (c0) rfl ?_ ?_ | refine call_d (c0) rfl ?_ | refine call_sb (c0) rfl ?_ ?_ | refine call_s (c0) rfl rfl ?_ | refine call_b (cw) rfl ?_ ?_ | refine call_d (cw) rfl ?_ | refine call_sb (cw) rfl ?_ ?_ | refine call_s (cw) rfl rfl ?_ | refine call_b (c1) rfl ?_ ?_ | refine call_d (c1) rfl ?_ | refine call_sb (c1) rfl ?_ ?_ | refine call_s (c1) rfl rfl ?_ | refine call_b (c2) rfl ?_ ?_ | refine call_d (c2) rfl ?_ | refine call_sb (c2) rfl ?_ ?_ | refine call_s (c2) rfl rfl ?_ | refine call_b (c3) rfl ?_ ?_ | refine call_d (c3) rfl ?_ | refine call_sb (c3) rfl ?_ ?_ | refine call_s (c3) rfl rfl ?_) <;> try (simp -implicitDefEqProofs only [go_sem, diskD_eq, diskC_eq, hn2, h1, h2])) | (((with_reducible refine vc_b ?_ ?_) <;> intro _) <;> try (simp -implicitDefEqProofs only [go_sem, diskD_eq, diskC_eq, hn2, h1, h2])) | simp (disch := omega) only [wrapI, wrapU, shl1, shl1', shl1'', shrN, shrN', and_one] 
      · obtain ⟨k1, k2⟩ := noTurn g (by omega) (by omega) d.size.toNat
        rw [k1] at c1
        rw [k2] at c3
        (try (simp -implicitDefEqProofs only [go_sem, diskD_eq, diskC_eq, h1, h2])); repeat' first | with_reducible exact True.intro | with_reducible refine And.intro ?_ ?_ | with_reducible intro _ | (((with_reducible refine isCall ?_); first | refine call_b (c0) rfl ?_ ?_ | refine call_d (c0) rfl ?_ | refine call_sb (c0) rfl ?_ ?_ | refine call_s (c0) rfl rfl ?_ | refine call_b (cw) rfl ?_ ?_ | refine call_d (cw) rfl ?_ | refine call_sb (cw) rfl ?_ ?_ | refine call_s (cw) rfl rfl ?_ | refine call_b (c1) rfl ?_ ?_ | refine call_d (c1) rfl ?_ | refine call_sb (c1) rfl ?_ ?_ | refine call_s (c1) rfl rfl ?_ | refine call_b (c2) rfl ?_ ?_ | refine call_d (c2) rfl ?_ | refine call_sb (c2) rfl ?_ ?_ | refine call_s (c2) rfl rfl ?_ | refine call_b (c3) rfl ?_ ?_ | refine call_d (c3) rfl ?_ | refine call_sb (c3) rfl ?_ ?_ | refine call_s (c3) rfl rfl ?_) <;> try (simp -implicitDefEqProofs only [go_sem, diskD_eq, diskC_eq, h1, h2])) | (((with_reducible refine vc_b ?_ ?_) <;> intro _) <;> try (simp -implicitDefEqProofs only [go_sem, diskD_eq, diskC_eq, h1, h2])) | simp (disch := omega) only [wrapI, wrapU, shl1, shl1', shl1'', shrN, shrN', and_one] 

theorem ZonesOnce_ret (d : GDisk) (m n : Int) : Ret E0 F_law01_ZonesOnce [diskD d, .int .i64 m, .int .i64 n] (.bool true) := by
  refine ret_of_pw dec_law01_ZonesOnce mixed (by simp) fun hwf => ?_
  have c0 := law01_ready_ret d
  have cw := law01_works_ret
  rw [enter_eq]; unfold pc_law01_ZonesOnce
  cases hf : d.rdy with
  | false =>
    rw [hf] at c0
    (try (simp -implicitDefEqProofs only [go_sem, diskD_eq, diskC_eq])); repeat' first | with_reducible exact True.intro | with_reducible refine And.intro ?_ ?_ | with_reducible intro _ | (((with_reducible refine isCall ?_); first | refine call_b (c0) rfl ?_ ?_ | refine call_d (c0) rfl ?_ | refine call_sb (c0) rfl ?_ ?_ | refine call_s (c0) rfl rfl ?_ | refine call_b (cw) rfl ?_ ?_ | refine call_d (cw) rfl ?_ | refine call_sb (cw) rfl ?_ ?_ | refine call_s (cw) rfl rfl ?_) <;> try (simp -implicitDefEqProofs only [go_sem, diskD_eq, diskC_eq])) | (((with_reducible refine vc_b ?_ ?_) <;> intro _) <;> try (simp -implicitDefEqProofs only [go_sem, diskD_eq, diskC_eq])) | simp (disch := omega) only [wrapI, wrapU, shl1, shl1', shl1'', shrN, shrN', and_one] 
  | true =>
    rw [hf] at c0
    have h := rdy_ok hf
    have g := good_of h
    have c1 := ref01_IsSector_ret d h m
    have c2 := ref01_IsSector_ret d h n
    cases hm : inZ m 0 (d.size - 1) with
    | false =>
      rw [hm] at c1
      (try (simp -implicitDefEqProofs only [go_sem, diskD_eq, diskC_eq])); repeat' first | with_reducible exact True.intro | with_reducible refine And.intro ?_ ?_ | with_reducible intro _ | (((with_reducible refine isCall ?_); first | refine call_b (c0) rfl ?_ ?_ | refine call_d (c0) rfl ?_ | refine call_sb (c0) rfl ?_ ?_ | refine call_s (c0) rfl rfl ?_ | refine call_b (cw) rfl ?_ ?_ | refine call_d (cw) rfl ?_ | refine call_sb (cw) rfl ?_ ?_ | refine call_s (cw) rfl rfl ?_ | refine call_b (c1) rfl ?_ ?_ | refine call_d (c1) rfl ?_ | refine call_sb (c1) rfl ?_ ?_ | refine call_s (c1) rfl rfl ?_) <;> try (simp -implicitDefEqProofs only [go_sem, diskD_eq, diskC_eq])) | (((with_reducible refine vc_b ?_ ?_) <;> intro _) <;> try (simp -implicitDefEqProofs only [go_sem, diskD_eq, diskC_eq])) | simp (disch := omega) only [wrapI, wrapU, shl1, shl1', shl1'', shrN, shrN', and_one] 
    | true =>
    rw [hm] at c1
    cases hn : inZ n 0 (d.size - 1) with
    | false =>
      rw [hn] at c2
      (try (simp -implicitDefEqProofs only [go_sem, diskD_eq, diskC_eq])); repeat' first | with_reducible exact True.intro | with_reducible refine And.intro ?_ ?_ | with_reducible intro _ | (((with_reducible refine isCall ?_); first | refine call_b (c0) rfl ?_ ?_ | refine call_d (c0) rfl ?_ | refine call_sb (c0) rfl ?_ ?_ | refine call_s (c0) rfl rfl ?_ | refine call_b (cw) rfl ?_ ?_ | refine call_d (cw) rfl ?_ | refine call_sb (cw) rfl ?_ ?_ | refine call_s (cw) rfl rfl ?_ | refine call_b (c1) rfl ?_ ?_ | refine call_d (c1) rfl ?_ | refine call_sb (c1) rfl ?_ ?_ | refine call_s (c1) rfl rfl ?_ | refine call_b (c2) rfl ?_ ?_ | refine call_d (c2) rfl ?_ | refine call_sb (c2) rfl ?_ ?_ | refine call_s (c2) rfl rfl ?_) <;> try (simp -implicitDefEqProofs only [go_sem, diskD_eq, diskC_eq])) | (((with_reducible refine vc_b ?_ ?_) <;> intro _) <;> try (simp -implicitDefEqProofs only [go_sem, diskD_eq, diskC_eq])) | simp (disch := omega) only [wrapI, wrapU, shl1, shl1', shl1'', shrN, shrN', and_one] 
    | true =>
    rw [hn] at c2
    have m1 := inZ_iff.1 hm
    have n1 := inZ_iff.1 hn
    by_cases hmn : n < m
    · (try (simp -implicitDefEqProofs only [go_sem, diskD_eq, diskC_eq, hmn])); repeat' first | with_reducible exact True.intro | with_reducible refine And.intro ?_ ?_ | with_reducible intro _ | (((with_reducible refine isCall ?_); first | refine call_b (c0) rfl ?_ ?_ | refine call_d (c0) rfl ?_ | refine call_sb (c0) rfl ?_ ?_ | refine call_s (c0) rfl rfl ?_ | refine call_b (cw) rfl ?_ ?_ | refine call_d (cw) rfl ?_ | refine call_sb (cw) rfl ?_ ?_ | refine call_s (cw) rfl rfl ?_ | refine call_b (c1) rfl ?_ ?_ | refine call_d (c1) rfl ?_ | refine call_sb (c1) rfl ?_ ?_ | refine call_s (c1) rfl rfl ?_ | refine call_b (c2) rfl ?_ ?_ | refine call_d (c2) rfl ?_ | refine call_sb (c2) rfl ?_ ?_ | refine call_s (c2) rfl rfl ?_) <;> try (simp -implicitDefEqProofs only [go_sem, diskD_eq, diskC_eq, hmn])) | (((with_reducible refine vc_b ?_ ?_) <;> intro _) <;> try (simp -implicitDefEqProofs only [go_sem, diskD_eq, diskC_eq, hmn])) | simp (disch := omega) only [wrapI, wrapU, shl1, shl1', shl1'', shrN, shrN', and_one] 
    · obtain ⟨i, i1, i2, i3⟩ := number_place h m1.1 (by omega)
      obtain ⟨j, j1, j2, j3⟩ := number_place h n1.1 (by omega)
      have c3 := zones_Place_ret d m
      have c4 := zones_Place_ret d n
      have c5 := zones_Number_ret d (d.tc i) (d.th i) (m - d.tf i)
      have c6 := zones_Number_ret d (d.tc j) (d.th j) (n - d.tf j)
      rw [i2] at c3; rw [j2] at c4; rw [i3] at c5; rw [j3] at c6
      rw [placeD_eq] at c3 c4 c5 c6
      by_cases he : m = n
      · subst he
        rw [i1] at j1
        simp only [Option.some.injEq] at j1
        subst j1
        (try (simp -implicitDefEqProofs only [go_sem, diskD_eq, diskC_eq, hmn])); repeat' first | with_reducible exact True.intro | with_reducible refine And.intro ?_ ?_ | with_reducible intro _ | (((with_reducible refine isCall ?_); first | refine call_b (c0) rfl ?_ ?_ | refine call_d (c0) rfl ?_ | refine call_sb (c0) rfl ?_ ?_ | refine call_s (c0) rfl rfl ?_ | refine call_b (cw) rfl ?_ ?_ | refine call_d (cw) rfl ?_ | refine call_sb (cw) rfl ?_ ?_ | refine call_s (cw) rfl rfl ?_ | refine call_b (c1) rfl ?_ ?_ | refine call_d (c1) rfl ?_ | refine call_sb (c1) rfl ?_ ?_ | refine call_s (c1) rfl rfl ?_ | refine call_b (c3) rfl ?_ ?_ | refine call_d (c3) rfl ?_ | refine call_sb (c3) rfl ?_ ?_ | refine call_s (c3) rfl rfl ?_ | refine call_b (c5) rfl ?_ ?_ | refine call_d (c5) rfl ?_ | refine call_sb (c5) rfl ?_ ?_ | refine call_s (c5) rfl rfl ?_) <;> try (simp -implicitDefEqProofs only [go_sem, diskD_eq, diskC_eq, hmn])) | (((with_reducible refine vc_b ?_ ?_) <;> intro _) <;> try (simp -implicitDefEqProofs only [go_sem, diskD_eq, diskC_eq, hmn])) | simp (disch := omega) only [wrapI, wrapU, shl1, shl1', shl1'', shrN, shrN', and_one] 
      · have ho := once h i1 j1 (by omega)
        have hne : ¬ (d.tc i = d.tc j ∧ d.th i = d.th j ∧ m - d.tf i = n - d.tf j) := by omega
        generalize d.tc i = a1 at *
        generalize d.th i = a2 at *
        generalize m - d.tf i = a3 at *
        generalize d.tc j = b1 at *
        generalize d.th j = b2 at *
        generalize n - d.tf j = b3 at *
        rcases ho with ho | ⟨ho, ho2 | ⟨ho2, ho3⟩⟩
        · have hx : ¬ a1 = b1 := by omega
          (try (simp -implicitDefEqProofs only [go_sem, diskD_eq, diskC_eq, hmn, he, hne, ho, hx])); repeat' first | with_reducible exact True.intro | with_reducible refine And.intro ?_ ?_ | with_reducible intro _ | (((with_reducible refine isCall ?_); first | refine call_b (c0) rfl ?_ ?_ | refine call_d (c0) rfl ?_ | refine call_sb (c0) rfl ?_ ?_ | refine call_s (c0) rfl rfl ?_ | refine call_b (cw) rfl ?_ ?_ | refine call_d (cw) rfl ?_ | refine call_sb (cw) rfl ?_ ?_ | refine call_s (cw) rfl rfl ?_ | refine call_b (c1) rfl ?_ ?_ | refine call_d (c1) rfl ?_ | refine call_sb (c1) rfl ?_ ?_ | refine call_s (c1) rfl rfl ?_ | refine call_b (c2) rfl ?_ ?_ | refine call_d (c2) rfl ?_ | refine call_sb (c2) rfl ?_ ?_ | refine call_s (c2) rfl rfl ?_ | refine call_b (c3) rfl ?_ ?_ | refine call_d (c3) rfl ?_ | refine call_sb (c3) rfl ?_ ?_ | refine call_s (c3) rfl rfl ?_ | refine call_b (c4) rfl ?_ ?_ | refine call_d (c4) rfl ?_ | refine call_sb (c4) rfl ?_ ?_ | refine call_s (c4) rfl rfl ?_ | refine call_b (c5) rfl ?_ ?_ | refine call_d (c5) rfl ?_ | refine call_sb (c5) rfl ?_ ?_ | refine call_s (c5) rfl rfl ?_ | refine call_b (c6) rfl ?_ ?_ | refine call_d (c6) rfl ?_ | refine call_sb (c6) rfl ?_ ?_ | refine call_s (c6) rfl rfl ?_) <;> try (simp -implicitDefEqProofs only [go_sem, diskD_eq, diskC_eq, hmn, he, hne, ho, hx])) | (((with_reducible refine vc_b ?_ ?_) <;> intro _) <;> try (simp -implicitDefEqProofs only [go_sem, diskD_eq, diskC_eq, hmn, he, hne, ho, hx])) | simp (disch := omega) only [wrapI, wrapU, shl1, shl1', shl1'', shrN, shrN', and_one] 
        · have hx : ¬ a1 < b1 := by omega
          have hx2 : ¬ a2 = b2 := by omega
          (try (simp -implicitDefEqProofs only [go_sem, diskD_eq, diskC_eq, hmn, he, hx, eq_true ho, ho2, hx2])); repeat' first | with_reducible exact True.intro | with_reducible refine And.intro ?_ ?_ | with_reducible intro _ | (((with_reducible refine isCall ?_); first | refine call_b (c0) rfl ?_ ?_ | refine call_d (c0) rfl ?_ | refine call_sb (c0) rfl ?_ ?_ | refine call_s (c0) rfl rfl ?_ | refine call_b (cw) rfl ?_ ?_ | refine call_d (cw) rfl ?_ | refine call_sb (cw) rfl ?_ ?_ | refine call_s (cw) rfl rfl ?_ | refine call_b (c1) rfl ?_ ?_ | refine call_d (c1) rfl ?_ | refine call_sb (c1) rfl ?_ ?_ | refine call_s (c1) rfl rfl ?_ | refine call_b (c2) rfl ?_ ?_ | refine call_d (c2) rfl ?_ | refine call_sb (c2) rfl ?_ ?_ | refine call_s (c2) rfl rfl ?_ | refine call_b (c3) rfl ?_ ?_ | refine call_d (c3) rfl ?_ | refine call_sb (c3) rfl ?_ ?_ | refine call_s (c3) rfl rfl ?_ | refine call_b (c4) rfl ?_ ?_ | refine call_d (c4) rfl ?_ | refine call_sb (c4) rfl ?_ ?_ | refine call_s (c4) rfl rfl ?_ | refine call_b (c5) rfl ?_ ?_ | refine call_d (c5) rfl ?_ | refine call_sb (c5) rfl ?_ ?_ | refine call_s (c5) rfl rfl ?_ | refine call_b (c6) rfl ?_ ?_ | refine call_d (c6) rfl ?_ | refine call_sb (c6) rfl ?_ ?_ | refine call_s (c6) rfl rfl ?_) <;> try (simp -implicitDefEqProofs only [go_sem, diskD_eq, diskC_eq, hmn, he, hx, eq_true ho, ho2, hx2])) | (((with_reducible refine vc_b ?_ ?_) <;> intro _) <;> try (simp -implicitDefEqProofs only [go_sem, diskD_eq, diskC_eq, hmn, he, hx, eq_true ho, ho2, hx2])) | simp (disch := omega) only [wrapI, wrapU, shl1, shl1', shl1'', shrN, shrN', and_one] 
        · have hx : ¬ a1 < b1 := by omega
          have hx2 : ¬ a2 < b2 := by omega
          have hx3 : ¬ a3 = b3 := by omega
          (try (simp -implicitDefEqProofs only [go_sem, diskD_eq, diskC_eq, hmn, he, hx, eq_true ho, hx2, eq_true ho2, ho3, hx3])); repeat' first | with_reducible exact True.intro | with_reducible refine And.intro ?_ ?_ | with_reducible intro _ | (((with_reducible refine isCall ?_); first | refine call_b (c0) rfl ?_ ?_ | refine call_d (c0) rfl ?_ | refine call_sb (c0) rfl ?_ ?_ | refine call_s (c0) rfl rfl ?_ | refine call_b (cw) rfl ?_ ?_ | refine call_d (cw) rfl ?_ | refine call_sb (cw) rfl ?_ ?_ | refine call_s (cw) rfl rfl ?_ | refine call_b (c1) rfl ?_ ?_ | refine call_d (c1) rfl ?_ | refine call_sb (c1) rfl ?_ ?_ | refine call_s (c1) rfl rfl ?_ | refine call_b (c2) rfl ?_ ?_ | refine call_d (c2) rfl ?_ | refine call_sb (c2) rfl ?_ ?_ | refine call_s (c2) rfl rfl ?_ | refine call_b (c3) rfl ?_ ?_ | refine call_d (c3) rfl ?_ | refine call_sb (c3) rfl ?_ ?_ | refine call_s (c3) rfl rfl ?_ | refine call_b (c4) rfl ?_ ?_ | refine call_d (c4) rfl ?_ | refine call_sb (c4) rfl ?_ ?_ | refine call_s (c4) rfl rfl ?_ | refine call_b (c5) rfl ?_ ?_ | refine call_d (c5) rfl ?_ | refine call_sb (c5) rfl ?_ ?_ | refine call_s (c5) rfl rfl ?_ | refine call_b (c6) rfl ?_ ?_ | refine call_d (c6) rfl ?_ | refine call_sb (c6) rfl ?_ ?_ | refine call_s (c6) rfl rfl ?_) <;> try (simp -implicitDefEqProofs only [go_sem, diskD_eq, diskC_eq, hmn, he, hx, eq_true ho, hx2, eq_true ho2, ho3, hx3])) | (((with_reducible refine vc_b ?_ ?_) <;> intro _) <;> try (simp -implicitDefEqProofs only [go_sem, diskD_eq, diskC_eq, hmn, he, hx, eq_true ho, hx2, eq_true ho2, ho3, hx3])) | simp (disch := omega) only [wrapI, wrapU, shl1, shl1', shl1'', shrN, shrN', and_one] 
end Go.Pw
