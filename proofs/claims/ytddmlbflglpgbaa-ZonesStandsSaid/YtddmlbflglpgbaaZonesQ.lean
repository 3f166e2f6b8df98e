/- A part of the proof. -/
import Derived.Test.YtddmlbflglpgbaaZonesO
set_option linter.all false
open Go Go.Pw Go.Proofs
namespace Go.Pw
set_option linter.unusedSimpArgs false
set_option linter.unusedVariables false
set_option maxRecDepth 100000
set_option maxHeartbeats 3200000
theorem angle_of {d : GDisk} (h : d.ok = true) {n : Int} {k : Nat} (hk : d.kOf n = some k) : d.angle n = ((d.to k + (n - d.tf k) * d.own k) % d.turn, d.own k, 0) := by unfold GDisk.angle; rw [if_pos h, hk]
/-- The sectors begin one after the other. -/
theorem angle_next {d : GDisk} (h : d.ok = true) {n : Int} (h1 : 1 ≤ n) (h2 : n < d.size) : ∃ a b x y, d.angle (n - 1) = (a, b, 0) ∧ d.angle n = (x, y, 0) ∧ (0 ≤ a ∧ a < d.turn) ∧ (1 ≤ b ∧ b ≤ d.turn) ∧
    x = if 0 < d.kindN n then ((a + b) % d.turn + d.swSk (d.kindN n)) % d.turn else (a + b) % d.turn := by
  have g := good_of h
  have t1 := g.t1
  obtain ⟨k, hk⟩ := Option.isSome_iff_exists.1 ((kOf_iff g (n - 1)).2 (by omega))
  obtain ⟨k1, k2⟩ := kOf_spec hk
  have ho := g.own k1
  have hts := g.ts k1
  have hto := g.to k
  have hb : ∀ z : Int, 0 ≤ z % d.turn ∧ z % d.turn < d.turn := fun z => ⟨Int.emod_nonneg _ (by omega), Int.emod_lt_of_pos _ (by omega)⟩
  by_cases hin : n < d.tf k + d.ts k
  · have hk2 := kOf_some g k1 (n := n) (by unfold GDisk.holds at k2 ⊢; omega)
    have hkd : d.kindN n = 0 := kind_in g k1 (by unfold GDisk.holds at k2; omega) hin
    refine ⟨_, _, _, _, angle_of h hk, angle_of h hk2, hb _, by omega, ?_⟩
    rw [hkd, if_neg (by omega), Int.emod_add_emod]
    congr 1
    rw [show n - d.tf k = (n - 1 - d.tf k) + 1 by omega, Int.add_mul]; omega
  · have hn : n = d.tf (k + 1) := by unfold GDisk.holds at k2; rw [GDisk.tf]; omega
    have hk1 : k + 1 < d.nt := by
      rcases Nat.lt_or_ge (k + 1) d.nt with h3 | h3
      · exact h3
      · have : k + 1 = d.nt := by omega
        unfold GDisk.size at h2; rw [← this, ← hn] at h2; omega
    have hts1 := g.ts hk1
    have hk2 := kOf_some g hk1 (n := n) (by unfold GDisk.holds; omega)
    have hkd := kind_at g hk1
    rw [← hn] at hkd
    refine ⟨_, _, _, _, angle_of h hk, angle_of h hk2, hb _, by omega, ?_⟩
    have e1 : (d.to k + (n - 1 - d.tf k) * d.own k) % d.turn + d.own k = (d.to k + (n - 1 - d.tf k) * d.own k) % d.turn + d.own k := rfl
    have e2 : ((d.to k + (n - 1 - d.tf k) * d.own k) % d.turn + d.own k) % d.turn = d.to k := by
      rw [Int.emod_add_emod]
      have : d.to k + (n - 1 - d.tf k) * d.own k + d.own k = d.to k + d.own k * d.ts k := by
        rw [hn, GDisk.tf, show d.tf k + d.ts k - 1 - d.tf k = d.ts k - 1 by omega, Int.sub_mul, Int.mul_comm (d.ts k)]; omega
      rw [this, ho.2.2.1, Int.add_emod_right, Int.emod_eq_of_lt hto.1 hto.2]
    have hto1 := g.to (k + 1)
    rw [e2, hn, Int.sub_self, Int.zero_mul, Int.add_zero, Int.emod_eq_of_lt hto1.1 hto1.2, ← hn, hkd, GDisk.to]
    unfold GDisk.swSk
    by_cases hh : d.th k = d.heads - 1
    · simp [hh]
    · simp [hh]
theorem wait_of {d : GDisk} {n time x y : Int} (h : d.angle n = (x, y, 0)) (ht : 0 ≤ time ∧ time ≤ 1000000) : d.wait n time = ((x - time) % d.turn, 0) := by
  unfold GDisk.wait; rw [h]; simp [inZ_iff.2 ht]
theorem high_skews {d : GDisk} (step : Int) (i j : Nat) : (d.skews (i * step) (j * step)).high 0 d.size.toNat = d.ticksR 0 d.size.toNat + d.F1 step i + d.F2 step j := by
  have s := same_skews d (i * step) (j * step)
  unfold GDisk.high
  rw [s.ticksR, s.swR, s.swR]; rfl
theorem mult_of {x step : Int} (hs : 1 ≤ step) (h0 : 0 ≤ x) (h : x.tmod step = 0) : ∃ i : Nat, x = i * step := by
  refine ⟨(x / step).toNat, ?_⟩
  rw [Int.tmod_eq_emod_of_nonneg h0] at h
  have := Int.ediv_mul_add_emod x step
  have h1 : 0 ≤ x / step := Int.ediv_nonneg h0 (by omega)
  rw [show (((x / step).toNat : Nat) : Int) = x / step by omega]; omega
attribute [local congr] cg_pw cg_seqI cg_seqE cg_stepI cg_ev cg_evBin cg_condB cg_condV cg_thenQ cg_blockQ cg_onSome cg_onCells cg_onRow cg_onMap cg_onOpt cg_ghosts cg_ghost cg_evCall cg_part cg_rng cg_guardV cg_frzV cg_frpV cg_ownV cg_owcV cg_occV cg_occX cg_resK cg_res1 cg_yldP cg_rndE cg_onlyN cg_onHist
attribute [local irreducible] IntKind.wrap bitsOp Option.getD and or

theorem ZonesStands_ret (d : GDisk) (n time : Int) : Ret E0 F_law01_ZonesStands [diskD d, .int .i64 n, .int .i64 time] (.bool true) := by
  refine ret_of_pw dec_law01_ZonesStands mixed (by simp) fun hwf => ?_
  have c0 := law01_ready_ret d
  have cw := law01_works_ret
  rw [enter_eq]; unfold pc_law01_ZonesStands
  cases hf : d.rdy with
  | false =>
    rw [hf] at c0
    (try (simp -implicitDefEqProofs only [go_sem, diskD_eq, diskC_eq])); repeat' first | with_reducible exact True.intro | with_reducible refine And.intro ?_ ?_ | with_reducible intro _ | (((with_reducible refine isCall ?_); first | refine call_b (c0) rfl ?_ ?_ | refine call_d (c0) rfl ?_ | refine call_sb (c0) rfl ?_ ?_ | refine call_s (c0) rfl rfl ?_ | refine call_b (cw) rfl ?_ ?_ | refine call_d (cw) rfl ?_ | refine call_sb (cw) rfl ?_ ?_ | refine call_s (cw) rfl rfl ?_) <;> try (simp -implicitDefEqProofs only [go_sem, diskD_eq, diskC_eq])) | (((with_reducible refine vc_b ?_ ?_) <;> intro _) <;> try (simp -implicitDefEqProofs only [go_sem, diskD_eq, diskC_eq])) | simp (disch := omega) only [wrapI, wrapU, shl1, shl1', shl1'', shrN, shrN', and_one] 
  | true =>
    rw [hf] at c0
    have h := rdy_ok hf
    have g := good_of h
    have t1 := g.t1; have t2 := g.t2
    have c1 := ref01_IsSector_ret d h n
    cases hm : inZ n 0 (d.size - 1) with
    | false =>
      rw [hm] at c1
      (try (simp -implicitDefEqProofs only [go_sem, diskD_eq, diskC_eq])); repeat' first | with_reducible exact True.intro | with_reducible refine And.intro ?_ ?_ | with_reducible intro _ | (((with_reducible refine isCall ?_); first | refine call_b (c0) rfl ?_ ?_ | refine call_d (c0) rfl ?_ | refine call_sb (c0) rfl ?_ ?_ | refine call_s (c0) rfl rfl ?_ | refine call_b (cw) rfl ?_ ?_ | refine call_d (cw) rfl ?_ | refine call_sb (cw) rfl ?_ ?_ | refine call_s (cw) rfl rfl ?_ | refine call_b (c1) rfl ?_ ?_ | refine call_d (c1) rfl ?_ | refine call_sb (c1) rfl ?_ ?_ | refine call_s (c1) rfl rfl ?_) <;> try (simp -implicitDefEqProofs only [go_sem, diskD_eq, diskC_eq])) | (((with_reducible refine vc_b ?_ ?_) <;> intro _) <;> try (simp -implicitDefEqProofs only [go_sem, diskD_eq, diskC_eq])) | simp (disch := omega) only [wrapI, wrapU, shl1, shl1', shl1'', shrN, shrN', and_one] 
    | true =>
    rw [hm] at c1
    have m1 := inZ_iff.1 hm
    by_cases ht : 0 ≤ time ∧ time ≤ 1000000
    · have ht1 : ¬ time < 0 := by omega
      have ht2 : ¬ 1000000 < time := by omega
      have hsz := size_bound g
      have key : ∀ x y, d.angle n = (x, y, 0) → (0 ≤ x ∧ x < d.turn) ∧ 1 ≤ y → (0 ≤ (x - time) % d.turn ∧ (x - time) % d.turn < d.turn) ∧ (time + (x - time) % d.turn).tmod d.turn = x := fun x y _ hb => by
        have e1 := Int.emod_nonneg (x - time) (b := d.turn) (by omega)
        have e2 := Int.emod_lt_of_pos (x - time) (b := d.turn) (by omega)
        refine ⟨⟨e1, e2⟩, ?_⟩
        rw [Int.tmod_eq_emod_of_nonneg (by omega), Int.add_emod_emod, show time + (x - time) = x by omega, Int.emod_eq_of_lt hb.1.1 hb.1.2]
      by_cases h0 : n = 0
      · obtain ⟨k, hk⟩ := Option.isSome_iff_exists.1 ((kOf_iff g n).2 (by omega))
        have ha := angle_of h hk
        have ho := g.own (kOf_spec hk).1
        have hx : 0 ≤ (d.to k + (n - d.tf k) * d.own k) % d.turn ∧ (d.to k + (n - d.tf k) * d.own k) % d.turn < d.turn := ⟨Int.emod_nonneg _ (by omega), Int.emod_lt_of_pos _ (by omega)⟩
        have hk2 := key _ _ ha ⟨hx, ho.1⟩
        have hw := wait_of ha ht
        generalize (d.to k + (n - d.tf k) * d.own k) % d.turn = x at *
        generalize d.own k = y at *
        have c2 := zones_Wait_ret d n time
        have c3 := zones_Angle_ret d n
        rw [hw] at c2; rw [ha] at c3
        generalize (x - time) % d.turn = w at *
        have w1 : IntKind.i64.wrap (time + w) = time + w := wrapI _ (by omega)
        have q1 : ¬ w < 0 := by omega
        have q2 : ¬ d.turn ≤ w := by omega
        have q3 : ¬ x < 0 := by omega
        have q4 : ¬ d.turn ≤ x := by omega
        have q5 : ¬ y < 1 := by omega
        have q6 := hk2.2
        have q7 : ¬ d.turn = 0 := by omega
        (try (simp -implicitDefEqProofs only [go_sem, diskD_eq, diskC_eq, ht1, ht2, w1, q1, q2, q3, q4, q5, q6, q7, eq_true h0])); repeat' first | with_reducible exact True.intro | with_reducible refine And.intro ?_ ?_ | with_reducible intro _ | (((with_reducible refine isCall ?_); first | refine call_b (c0) rfl ?_ ?_ | refine call_d (c0) rfl ?_ | refine call_sb (c0) rfl ?_ ?_ | refine call_s (c0) rfl rfl ?_ | refine call_b (cw) rfl ?_ ?_ | refine call_d (cw) rfl ?_ | refine call_sb (cw) rfl ?_ ?_ | refine call_s (cw) rfl rfl ?_ | refine call_b (c1) rfl ?_ ?_ | refine call_d (c1) rfl ?_ | refine call_sb (c1) rfl ?_ ?_ | refine call_s (c1) rfl rfl ?_ | refine call_b (c2) rfl ?_ ?_ | refine call_d (c2) rfl ?_ | refine call_sb (c2) rfl ?_ ?_ | refine call_s (c2) rfl rfl ?_ | refine call_b (c3) rfl ?_ ?_ | refine call_d (c3) rfl ?_ | refine call_sb (c3) rfl ?_ ?_ | refine call_s (c3) rfl rfl ?_) <;> try (simp -implicitDefEqProofs only [go_sem, diskD_eq, diskC_eq, ht1, ht2, w1, q1, q2, q3, q4, q5, q6, q7, eq_true h0])) | (((with_reducible refine vc_b ?_ ?_) <;> intro _) <;> try (simp -implicitDefEqProofs only [go_sem, diskD_eq, diskC_eq, ht1, ht2, w1, q1, q2, q3, q4, q5, q6, q7, eq_true h0])) | simp (disch := omega) only [wrapI, wrapU, shl1, shl1', shl1'', shrN, shrN', and_one] 
      · obtain ⟨a, b, x, y, ha, hx, hab, hbb, hxe⟩ := angle_next h (n := n) (by omega) (by omega)
        obtain ⟨k, hk⟩ := Option.isSome_iff_exists.1 ((kOf_iff g n).2 (by omega))
        have ha2 := angle_of h hk
        have ho := g.own (kOf_spec hk).1
        rw [hx] at ha2
        simp only [Prod.mk.injEq, and_true] at ha2
        have hxb : 0 ≤ x ∧ x < d.turn := by rw [ha2.1]; exact ⟨Int.emod_nonneg _ (by omega), Int.emod_lt_of_pos _ (by omega)⟩
        have hk2 := key _ _ hx ⟨hxb, by rw [ha2.2]; exact ho.1⟩
        have hy : 1 ≤ y := by rw [ha2.2]; exact ho.1
        have hw := wait_of hx ht
        clear ha2 ho
        have c2 := zones_Wait_ret d n time
        have c3 := zones_Angle_ret d n
        have c4 := zones_Angle_ret d (n - 1)
        have c5 := ref01_Switches_ret d h (n - 1) 2 (by omega) (by omega) (by omega)
        have hL1 := kinds_len d (n - 1) ((2 : Int).toNat - 1)
        have hL2 := kinds_get d (n - 1) ((2 : Int).toNat - 1) 0 (by simp)
        rw [show n - 1 + 1 + ((0 : Nat) : Int) = n by simp] at hL2
        generalize d.kinds (n - 1) ((2 : Int).toNat - 1) = L at *
        have hL3 : (0 : Int) < L.length := by rw [hL1]; simp
        rw [hw] at c2; rw [hx] at c3; rw [ha] at c4
        have c6 := ref01_SwitchOf_ret d (d.kindN n)
        have hsk : 0 ≤ d.swSk (d.kindN n) ∧ d.swSk (d.kindN n) ≤ 1000 := by
          have k1 := g.k1; have k2 := g.k2; have k3 := g.c1; have k4 := g.c2
          unfold GDisk.swSk; split <;> (try split) <;> omega
        generalize d.kindN n = e at *
        generalize d.swSk e = sk at *
        generalize (x - time) % d.turn = w at *
        have w1 : IntKind.i64.wrap (time + w) = time + w := wrapI _ (by omega)
        have w2 : IntKind.i64.wrap (n - 1) = n - 1 := wrapI _ (by omega)
        have w3 : IntKind.i64.wrap (a + b) = a + b := wrapI _ (by omega)
        have w4 : (a + b).tmod d.turn = (a + b) % d.turn := Int.tmod_eq_emod_of_nonneg (by omega)
        have hb1 := Int.emod_nonneg (a + b) (b := d.turn) (by omega)
        have hb2 := Int.emod_lt_of_pos (a + b) (b := d.turn) (by omega)
        have w5 : IntKind.i64.wrap ((a + b) % d.turn + sk) = (a + b) % d.turn + sk := wrapI _ (by omega)
        have w6 : ((a + b) % d.turn + sk).tmod d.turn = ((a + b) % d.turn + sk) % d.turn := Int.tmod_eq_emod_of_nonneg (by omega)
        have q1 : ¬ w < 0 := by omega
        have q2 : ¬ d.turn ≤ w := by omega
        have q3 : ¬ x < 0 := by omega
        have q4 : ¬ d.turn ≤ x := by omega
        have q5 : ¬ y < 1 := by omega
        have q6 := hk2.2
        have q7 : ¬ d.turn = 0 := by omega
        by_cases he : 0 < e
        · rw [if_pos he] at hxe
          (try (simp -implicitDefEqProofs only [go_sem, diskD_eq, diskC_eq, ht1, ht2, w1, w2, w3, w4, w5, w6, q1, q2, q3, q4, q5, q6, q7, h0, hL2, hL3, he, hxe.symm])); repeat' first | with_reducible exact True.intro | with_reducible refine And.intro ?_ ?_ | with_reducible intro _ | (((with_reducible refine isCall ?_); first | refine call_b (c0) rfl ?_ ?_ | refine call_d (c0) rfl ?_ | refine call_sb (c0) rfl ?_ ?_ | refine call_s (c0) rfl rfl ?_ | refine call_b (cw) rfl ?_ ?_ | refine call_d (cw) rfl ?_ | refine call_sb (cw) rfl ?_ ?_ | refine call_s (cw) rfl rfl ?_ | refine call_b (c1) rfl ?_ ?_ | refine call_d (c1) rfl ?_ | refine call_sb (c1) rfl ?_ ?_ | refine call_s (c1) rfl rfl ?_ | refine call_b (c2) rfl ?_ ?_ | refine call_d (c2) rfl ?_ | refine call_sb (c2) rfl ?_ ?_ | refine call_s (c2) rfl rfl ?_ | refine call_b (c3) rfl ?_ ?_ | refine call_d (c3) rfl ?_ | refine call_sb (c3) rfl ?_ ?_ | refine call_s (c3) rfl rfl ?_ | refine call_b (c4) rfl ?_ ?_ | refine call_d (c4) rfl ?_ | refine call_sb (c4) rfl ?_ ?_ | refine call_s (c4) rfl rfl ?_ | refine call_b (c5) rfl ?_ ?_ | refine call_d (c5) rfl ?_ | refine call_sb (c5) rfl ?_ ?_ | refine call_s (c5) rfl rfl ?_ | refine call_b (c6) rfl ?_ ?_ | refine call_d (c6) rfl ?_ | refine call_sb (c6) rfl ?_ ?_ | refine call_s (c6) rfl rfl ?_) <;> try (simp -implicitDefEqProofs only [go_sem, diskD_eq, diskC_eq, ht1, ht2, w1, w2, w3, w4, w5, w6, q1, q2, q3, q4, q5, q6, q7, h0, hL2, hL3, he, hxe.symm])) | (((with_reducible refine vc_b ?_ ?_) <;> intro _) <;> try (simp -implicitDefEqProofs only [go_sem, diskD_eq, diskC_eq, ht1, ht2, w1, w2, w3, w4, w5, w6, q1, q2, q3, q4, q5, q6, q7, h0, hL2, hL3, he, hxe.symm])) | simp (disch := omega) only [wrapI, wrapU, shl1, shl1', shl1'', shrN, shrN', and_one] 
          all_goals omega
        · rw [if_neg he] at hxe
          (try (simp -implicitDefEqProofs only [go_sem, diskD_eq, diskC_eq, ht1, ht2, w1, w2, w3, w4, w5, w6, q1, q2, q3, q4, q5, q6, q7, h0, hL2, hL3, he, hxe.symm])); repeat' first | with_reducible exact True.intro | with_reducible refine And.intro ?_ ?_ | with_reducible intro _ | (((with_reducible refine isCall ?_); first | refine call_b (c0) rfl ?_ ?_ | refine call_d (c0) rfl ?_ | refine call_sb (c0) rfl ?_ ?_ | refine call_s (c0) rfl rfl ?_ | refine call_b (cw) rfl ?_ ?_ | refine call_d (cw) rfl ?_ | refine call_sb (cw) rfl ?_ ?_ | refine call_s (cw) rfl rfl ?_ | refine call_b (c1) rfl ?_ ?_ | refine call_d (c1) rfl ?_ | refine call_sb (c1) rfl ?_ ?_ | refine call_s (c1) rfl rfl ?_ | refine call_b (c2) rfl ?_ ?_ | refine call_d (c2) rfl ?_ | refine call_sb (c2) rfl ?_ ?_ | refine call_s (c2) rfl rfl ?_ | refine call_b (c3) rfl ?_ ?_ | refine call_d (c3) rfl ?_ | refine call_sb (c3) rfl ?_ ?_ | refine call_s (c3) rfl rfl ?_ | refine call_b (c4) rfl ?_ ?_ | refine call_d (c4) rfl ?_ | refine call_sb (c4) rfl ?_ ?_ | refine call_s (c4) rfl rfl ?_ | refine call_b (c5) rfl ?_ ?_ | refine call_d (c5) rfl ?_ | refine call_sb (c5) rfl ?_ ?_ | refine call_s (c5) rfl rfl ?_ | refine call_b (c6) rfl ?_ ?_ | refine call_d (c6) rfl ?_ | refine call_sb (c6) rfl ?_ ?_ | refine call_s (c6) rfl rfl ?_) <;> try (simp -implicitDefEqProofs only [go_sem, diskD_eq, diskC_eq, ht1, ht2, w1, w2, w3, w4, w5, w6, q1, q2, q3, q4, q5, q6, q7, h0, hL2, hL3, he, hxe.symm])) | (((with_reducible refine vc_b ?_ ?_) <;> intro _) <;> try (simp -implicitDefEqProofs only [go_sem, diskD_eq, diskC_eq, ht1, ht2, w1, w2, w3, w4, w5, w6, q1, q2, q3, q4, q5, q6, q7, h0, hL2, hL3, he, hxe.symm])) | simp (disch := omega) only [wrapI, wrapU, shl1, shl1', shl1'', shrN, shrN', and_one] 
          all_goals omega
    · by_cases ht1 : time < 0
      · (try (simp -implicitDefEqProofs only [go_sem, diskD_eq, diskC_eq, ht1])); repeat' first | with_reducible exact True.intro | with_reducible refine And.intro ?_ ?_ | with_reducible intro _ | (((with_reducible refine isCall ?_); first | refine call_b (c0) rfl ?_ ?_ | refine call_d (c0) rfl ?_ | refine call_sb (c0) rfl ?_ ?_ | refine call_s (c0) rfl rfl ?_ | refine call_b (cw) rfl ?_ ?_ | refine call_d (cw) rfl ?_ | refine call_sb (cw) rfl ?_ ?_ | refine call_s (cw) rfl rfl ?_ | refine call_b (c1) rfl ?_ ?_ | refine call_d (c1) rfl ?_ | refine call_sb (c1) rfl ?_ ?_ | refine call_s (c1) rfl rfl ?_) <;> try (simp -implicitDefEqProofs only [go_sem, diskD_eq, diskC_eq, ht1])) | (((with_reducible refine vc_b ?_ ?_) <;> intro _) <;> try (simp -implicitDefEqProofs only [go_sem, diskD_eq, diskC_eq, ht1])) | simp (disch := omega) only [wrapI, wrapU, shl1, shl1', shl1'', shrN, shrN', and_one] 
      · have ht2 : 1000000 < time := by omega
        (try (simp -implicitDefEqProofs only [go_sem, diskD_eq, diskC_eq, ht1, ht2])); repeat' first | with_reducible exact True.intro | with_reducible refine And.intro ?_ ?_ | with_reducible intro _ | (((with_reducible refine isCall ?_); first | refine call_b (c0) rfl ?_ ?_ | refine call_d (c0) rfl ?_ | refine call_sb (c0) rfl ?_ ?_ | refine call_s (c0) rfl rfl ?_ | refine call_b (cw) rfl ?_ ?_ | refine call_d (cw) rfl ?_ | refine call_sb (cw) rfl ?_ ?_ | refine call_s (cw) rfl rfl ?_ | refine call_b (c1) rfl ?_ ?_ | refine call_d (c1) rfl ?_ | refine call_sb (c1) rfl ?_ ?_ | refine call_s (c1) rfl rfl ?_) <;> try (simp -implicitDefEqProofs only [go_sem, diskD_eq, diskC_eq, ht1, ht2])) | (((with_reducible refine vc_b ?_ ?_) <;> intro _) <;> try (simp -implicitDefEqProofs only [go_sem, diskD_eq, diskC_eq, ht1, ht2])) | simp (disch := omega) only [wrapI, wrapU, shl1, shl1', shl1'', shrN, shrN', and_one] 

theorem ZonesBest_ret (d : GDisk) (step a b : Int) : Ret E0 F_law01_ZonesBest [diskD d, .int .i64 step, .agg [.int .i64 a, .int .i64 b]] (.bool true) := by
  refine ret_of_pw dec_law01_ZonesBest mixed (by simp) fun hwf => ?_
  have c0 := law01_ready_ret d
  have cw := law01_works_ret
  rw [enter_eq]; unfold pc_law01_ZonesBest
  cases hf : d.rdy with
  | false =>
    rw [hf] at c0
    (try (simp -implicitDefEqProofs only [go_sem, diskD_eq, diskC_eq])); repeat' first | with_reducible exact True.intro | with_reducible refine And.intro ?_ ?_ | with_reducible intro _ | (((with_reducible refine isCall ?_); first | refine call_b (c0) rfl ?_ ?_ | refine call_d (c0) rfl ?_ | refine call_sb (c0) rfl ?_ ?_ | refine call_s (c0) rfl rfl ?_ | refine call_b (cw) rfl ?_ ?_ | refine call_d (cw) rfl ?_ | refine call_sb (cw) rfl ?_ ?_ | refine call_s (cw) rfl rfl ?_) <;> try (simp -implicitDefEqProofs only [go_sem, diskD_eq, diskC_eq])) | (((with_reducible refine vc_b ?_ ?_) <;> intro _) <;> try (simp -implicitDefEqProofs only [go_sem, diskD_eq, diskC_eq])) | simp (disch := omega) only [wrapI, wrapU, shl1, shl1', shl1'', shrN, shrN', and_one] 
  | true =>
    rw [hf] at c0
    have h := rdy_ok hf
    have g := good_of h
    have t1 := g.t1; have t2 := g.t2
    by_cases hs1 : step < 1
    · (try (simp -implicitDefEqProofs only [go_sem, diskD_eq, diskC_eq, hs1])); repeat' first | with_reducible exact True.intro | with_reducible refine And.intro ?_ ?_ | with_reducible intro _ | (((with_reducible refine isCall ?_); first | refine call_b (c0) rfl ?_ ?_ | refine call_d (c0) rfl ?_ | refine call_sb (c0) rfl ?_ ?_ | refine call_s (c0) rfl rfl ?_ | refine call_b (cw) rfl ?_ ?_ | refine call_d (cw) rfl ?_ | refine call_sb (cw) rfl ?_ ?_ | refine call_s (cw) rfl rfl ?_) <;> try (simp -implicitDefEqProofs only [go_sem, diskD_eq, diskC_eq, hs1])) | (((with_reducible refine vc_b ?_ ?_) <;> intro _) <;> try (simp -implicitDefEqProofs only [go_sem, diskD_eq, diskC_eq, hs1])) | simp (disch := omega) only [wrapI, wrapU, shl1, shl1', shl1'', shrN, shrN', and_one] 
    · by_cases hs2 : d.turn < step
      · (try (simp -implicitDefEqProofs only [go_sem, diskD_eq, diskC_eq, hs1, hs2])); repeat' first | with_reducible exact True.intro | with_reducible refine And.intro ?_ ?_ | with_reducible intro _ | (((with_reducible refine isCall ?_); first | refine call_b (c0) rfl ?_ ?_ | refine call_d (c0) rfl ?_ | refine call_sb (c0) rfl ?_ ?_ | refine call_s (c0) rfl rfl ?_ | refine call_b (cw) rfl ?_ ?_ | refine call_d (cw) rfl ?_ | refine call_sb (cw) rfl ?_ ?_ | refine call_s (cw) rfl rfl ?_) <;> try (simp -implicitDefEqProofs only [go_sem, diskD_eq, diskC_eq, hs1, hs2])) | (((with_reducible refine vc_b ?_ ?_) <;> intro _) <;> try (simp -implicitDefEqProofs only [go_sem, diskD_eq, diskC_eq, hs1, hs2])) | simp (disch := omega) only [wrapI, wrapU, shl1, shl1', shl1'', shrN, shrN', and_one] 
      · have hst : inZ step 1 d.turn = true := inZ_iff.2 (by omega)
        have hM := stepsN_iff (t := d.turn) (s := step) (by omega) t1
        have hMp := stepsN_pos (t := d.turn) (s := step) (by omega) t1
        have c1 := zones_Skews_ret d step
        unfold GDisk.skR at c1
        rw [if_pos h, if_pos hst] at c1
        obtain ⟨x1, x2, x3⟩ := argF_spec (d.F1 step) _ hMp
        obtain ⟨y1, y2, y3⟩ := argF_spec (d.F2 step) _ hMp
        change d.A1 step < _ at x1
        change d.A2 step < _ at y1
        change ∀ i, i < _ → d.F1 step (d.A1 step) ≤ _ at x2
        change ∀ i, i < _ → d.F2 step (d.A2 step) ≤ _ at y2
        change ∀ i, i < d.A1 step → d.F1 step (d.A1 step) < _ at x3
        change ∀ i, i < d.A2 step → d.F2 step (d.A2 step) < _ at y3
        have hrun : ∀ i j : Nat, i < stepsN d.turn step → j < stepsN d.turn step → Ret E0 F_zones_Run [diskD (d.skews (i * step) (j * step)), .int .i64 0, .int .i64 d.size] (.tup [.agg [.int .i64 ((d.skews (i * step) (j * step)).low 0 d.size.toNat), .int .i64 (d.ticksR 0 d.size.toNat + d.F1 step i + d.F2 step j)], .int .i64 0]) := fun i j hi hj => by
          have p1 := (hM i).1 hi
          have p2 := (hM j).1 hj
          have p3 : 0 ≤ (i : Int) * step := Int.mul_nonneg (by omega) (by omega)
          have p4 : 0 ≤ (j : Int) * step := Int.mul_nonneg (by omega) (by omega)
          have hok := skews_ok h ⟨p3, p1⟩ ⟨p4, p2⟩
          have hr : (d.skews (i * step) (j * step)).isRun 0 d.size := by
            have := isRun_all (good_of hok); rwa [(same_skews d _ _).size] at this
          have := zones_Run_ret (d.skews (i * step) (j * step)) 0 d.size
          rw [run_of hok hr, high_skews] at this
          exact this
        have r1 := hrun _ _ x1 y1
        have c2 := ref01_Count_ret d h
        have c3 := fun p q => ref01_With_ret d p q
        have u1 := (hM _).1 x1
        have u2 := (hM _).1 y1
        have u3 : 0 ≤ (d.A1 step : Int) * step := Int.mul_nonneg (by omega) (by omega)
        have u4 : 0 ≤ (d.A2 step : Int) * step := Int.mul_nonneg (by omega) (by omega)
        have v1 : ((d.A1 step : Int) * step).tmod step = 0 := Int.mul_tmod_left _ _
        have v2 : ((d.A2 step : Int) * step).tmod step = 0 := Int.mul_tmod_left _ _
        have hlow : ∀ p q, ∃ z, (d.skews p q).low 0 d.size.toNat = z := fun p q => ⟨_, rfl⟩
        obtain ⟨z1, hz1⟩ := hlow ((d.A1 step : Int) * step) ((d.A2 step : Int) * step)
        rw [hz1] at r1
        generalize d.ticksR 0 d.size.toNat = t0 at *
        generalize d.F1 step = F at *
        generalize d.F2 step = H at *
        generalize d.A1 step = A at *
        generalize d.A2 step = B at *
        have q1 : ¬ (A : Int) * step < 0 := by omega
        have q2 : ¬ d.turn ≤ (A : Int) * step := by omega
        have q3 : ¬ (B : Int) * step < 0 := by omega
        have q4 : ¬ d.turn ≤ (B : Int) * step := by omega
        have q5 : ¬ step = 0 := by omega
        by_cases hx : (0 ≤ a ∧ a < d.turn ∧ a.tmod step = 0) ∧ (0 ≤ b ∧ b < d.turn ∧ b.tmod step = 0)
        · obtain ⟨⟨a1, a2, a3⟩, b1, b2, b3⟩ := hx
          obtain ⟨i, rfl⟩ := mult_of (by omega) a1 a3
          obtain ⟨j, rfl⟩ := mult_of (by omega) b1 b3
          have hi := (hM i).2 a2
          have hj := (hM j).2 b2
          have r2 := hrun _ _ hi hj
          obtain ⟨z2, hz2⟩ := hlow ((i : Int) * step) ((j : Int) * step)
          rw [hz2] at r2
          have f1 := x2 i hi
          have f2 := y2 j hj
          have p1 : ¬ (i : Int) * step < 0 := by omega
          have p2 : ¬ d.turn ≤ (i : Int) * step := by omega
          have p3 : ¬ (j : Int) * step < 0 := by omega
          have p4 : ¬ d.turn ≤ (j : Int) * step := by omega
          have fin : t0 + F A + H B < t0 + F i + H j ∨ (t0 + F i + H j = t0 + F A + H B ∧ ((A : Int) * step < i * step ∨ ((i : Int) * step = A * step ∧ (B : Int) * step ≤ j * step))) := by
            by_cases hlt : t0 + F A + H B < t0 + F i + H j
            · exact .inl hlt
            · refine .inr ⟨by omega, ?_⟩
              have g1 : ¬ i < A := fun hh => by have := x3 i hh; omega
              have g2 : ¬ j < B := fun hh => by have := y3 j hh; omega
              rcases Nat.lt_or_ge A i with g3 | g3
              · left; exact Int.mul_lt_mul_of_pos_right (by omega) (by omega)
              · have : i = A := by omega
                subst this
                right
                exact ⟨rfl, Int.mul_le_mul_of_nonneg_right (by omega) (by omega)⟩
          generalize t0 + F A + H B = T1 at *
          generalize t0 + F i + H j = T2 at *
          generalize (A : Int) * step = SA at *
          generalize (B : Int) * step = SB at *
          generalize (i : Int) * step = SI at *
          generalize (j : Int) * step = SJ at *
          rcases fin with g1 | ⟨g1, g2 | ⟨g2, g3⟩⟩
          · (try (simp -implicitDefEqProofs only [go_sem, diskD_eq, diskC_eq, GDisk.skews, hs1, hs2, q1, q2, q3, q4, q5, v1, v2, p1, p2, p3, p4, a3, b3, g1])); repeat' first | with_reducible exact True.intro | with_reducible refine And.intro ?_ ?_ | with_reducible intro _ | (((with_reducible refine isCall ?_); first | refine call_b (c0) rfl ?_ ?_ | refine call_d (c0) rfl ?_ | refine call_sb (c0) rfl ?_ ?_ | refine call_s (c0) rfl rfl ?_ | refine call_b (cw) rfl ?_ ?_ | refine call_d (cw) rfl ?_ | refine call_sb (cw) rfl ?_ ?_ | refine call_s (cw) rfl rfl ?_ | refine call_b (c1) rfl ?_ ?_ | refine call_d (c1) rfl ?_ | refine call_sb (c1) rfl ?_ ?_ | refine call_s (c1) rfl rfl ?_ | refine call_b (c2) rfl ?_ ?_ | refine call_d (c2) rfl ?_ | refine call_sb (c2) rfl ?_ ?_ | refine call_s (c2) rfl rfl ?_ | refine call_b (c3 _ _) rfl ?_ ?_ | refine call_d (c3 _ _) rfl ?_ | refine call_sb (c3 _ _) rfl ?_ ?_ | refine call_s (c3 _ _) rfl rfl ?_ | refine call_b (r1) rfl ?_ ?_ | refine call_d (r1) rfl ?_ | refine call_sb (r1) rfl ?_ ?_ | refine call_s (r1) rfl rfl ?_ | refine call_b (r2) rfl ?_ ?_ | refine call_d (r2) rfl ?_ | refine call_sb (r2) rfl ?_ ?_ | refine call_s (r2) rfl rfl ?_) <;> try (simp -implicitDefEqProofs only [go_sem, diskD_eq, diskC_eq, GDisk.skews, hs1, hs2, q1, q2, q3, q4, q5, v1, v2, p1, p2, p3, p4, a3, b3, g1])) | (((with_reducible refine vc_b ?_ ?_) <;> intro _) <;> try (simp -implicitDefEqProofs only [go_sem, diskD_eq, diskC_eq, GDisk.skews, hs1, hs2, q1, q2, q3, q4, q5, v1, v2, p1, p2, p3, p4, a3, b3, g1])) | simp (disch := omega) only [wrapI, wrapU, shl1, shl1', shl1'', shrN, shrN', and_one] 
            all_goals omega
          · have g4 : ¬ T1 < T2 := by omega
            (try (simp -implicitDefEqProofs only [go_sem, diskD_eq, diskC_eq, GDisk.skews, hs1, hs2, q1, q2, q3, q4, q5, v1, v2, p1, p2, p3, p4, a3, b3, g4, eq_true g1, g2])); repeat' first | with_reducible exact True.intro | with_reducible refine And.intro ?_ ?_ | with_reducible intro _ | (((with_reducible refine isCall ?_); first | refine call_b (c0) rfl ?_ ?_ | refine call_d (c0) rfl ?_ | refine call_sb (c0) rfl ?_ ?_ | refine call_s (c0) rfl rfl ?_ | refine call_b (cw) rfl ?_ ?_ | refine call_d (cw) rfl ?_ | refine call_sb (cw) rfl ?_ ?_ | refine call_s (cw) rfl rfl ?_ | refine call_b (c1) rfl ?_ ?_ | refine call_d (c1) rfl ?_ | refine call_sb (c1) rfl ?_ ?_ | refine call_s (c1) rfl rfl ?_ | refine call_b (c2) rfl ?_ ?_ | refine call_d (c2) rfl ?_ | refine call_sb (c2) rfl ?_ ?_ | refine call_s (c2) rfl rfl ?_ | refine call_b (c3 _ _) rfl ?_ ?_ | refine call_d (c3 _ _) rfl ?_ | refine call_sb (c3 _ _) rfl ?_ ?_ | refine call_s (c3 _ _) rfl rfl ?_ | refine call_b (r1) rfl ?_ ?_ | refine call_d (r1) rfl ?_ | refine call_sb (r1) rfl ?_ ?_ | refine call_s (r1) rfl rfl ?_ | refine call_b (r2) rfl ?_ ?_ | refine call_d (r2) rfl ?_ | refine call_sb (r2) rfl ?_ ?_ | refine call_s (r2) rfl rfl ?_) <;> try (simp -implicitDefEqProofs only [go_sem, diskD_eq, diskC_eq, GDisk.skews, hs1, hs2, q1, q2, q3, q4, q5, v1, v2, p1, p2, p3, p4, a3, b3, g4, eq_true g1, g2])) | (((with_reducible refine vc_b ?_ ?_) <;> intro _) <;> try (simp -implicitDefEqProofs only [go_sem, diskD_eq, diskC_eq, GDisk.skews, hs1, hs2, q1, q2, q3, q4, q5, v1, v2, p1, p2, p3, p4, a3, b3, g4, eq_true g1, g2])) | simp (disch := omega) only [wrapI, wrapU, shl1, shl1', shl1'', shrN, shrN', and_one] 
            all_goals omega
          · have g4 : ¬ T1 < T2 := by omega
            have g5 : ¬ SA < SI := by omega
            (try (simp -implicitDefEqProofs only [go_sem, diskD_eq, diskC_eq, GDisk.skews, hs1, hs2, q1, q2, q3, q4, q5, v1, v2, p1, p2, p3, p4, a3, b3, g4, g5, eq_true g1, eq_true g2, g3])); repeat' first | with_reducible exact True.intro | with_reducible refine And.intro ?_ ?_ | with_reducible intro _ | (((with_reducible refine isCall ?_); first | refine call_b (c0) rfl ?_ ?_ | refine call_d (c0) rfl ?_ | refine call_sb (c0) rfl ?_ ?_ | refine call_s (c0) rfl rfl ?_ | refine call_b (cw) rfl ?_ ?_ | refine call_d (cw) rfl ?_ | refine call_sb (cw) rfl ?_ ?_ | refine call_s (cw) rfl rfl ?_ | refine call_b (c1) rfl ?_ ?_ | refine call_d (c1) rfl ?_ | refine call_sb (c1) rfl ?_ ?_ | refine call_s (c1) rfl rfl ?_ | refine call_b (c2) rfl ?_ ?_ | refine call_d (c2) rfl ?_ | refine call_sb (c2) rfl ?_ ?_ | refine call_s (c2) rfl rfl ?_ | refine call_b (c3 _ _) rfl ?_ ?_ | refine call_d (c3 _ _) rfl ?_ | refine call_sb (c3 _ _) rfl ?_ ?_ | refine call_s (c3 _ _) rfl rfl ?_ | refine call_b (r1) rfl ?_ ?_ | refine call_d (r1) rfl ?_ | refine call_sb (r1) rfl ?_ ?_ | refine call_s (r1) rfl rfl ?_ | refine call_b (r2) rfl ?_ ?_ | refine call_d (r2) rfl ?_ | refine call_sb (r2) rfl ?_ ?_ | refine call_s (r2) rfl rfl ?_) <;> try (simp -implicitDefEqProofs only [go_sem, diskD_eq, diskC_eq, GDisk.skews, hs1, hs2, q1, q2, q3, q4, q5, v1, v2, p1, p2, p3, p4, a3, b3, g4, g5, eq_true g1, eq_true g2, g3])) | (((with_reducible refine vc_b ?_ ?_) <;> intro _) <;> try (simp -implicitDefEqProofs only [go_sem, diskD_eq, diskC_eq, GDisk.skews, hs1, hs2, q1, q2, q3, q4, q5, v1, v2, p1, p2, p3, p4, a3, b3, g4, g5, eq_true g1, eq_true g2, g3])) | simp (disch := omega) only [wrapI, wrapU, shl1, shl1', shl1'', shrN, shrN', and_one] 
            all_goals omega
        · generalize (A : Int) * step = SA at *
          generalize (B : Int) * step = SB at *
          (try (simp -implicitDefEqProofs only [go_sem, diskD_eq, diskC_eq, GDisk.skews, hs1, hs2, q1, q2, q3, q4, q5, v1, v2])); repeat' first | with_reducible exact True.intro | with_reducible refine And.intro ?_ ?_ | with_reducible intro _ | (((with_reducible refine isCall ?_); first | refine call_b (c0) rfl ?_ ?_ | refine call_d (c0) rfl ?_ | refine call_sb (c0) rfl ?_ ?_ | refine call_s (c0) rfl rfl ?_ | refine call_b (cw) rfl ?_ ?_ | refine call_d (cw) rfl ?_ | refine call_sb (cw) rfl ?_ ?_ | refine call_s (cw) rfl rfl ?_ | refine call_b (c1) rfl ?_ ?_ | refine call_d (c1) rfl ?_ | refine call_sb (c1) rfl ?_ ?_ | refine call_s (c1) rfl rfl ?_ | refine call_b (c2) rfl ?_ ?_ | refine call_d (c2) rfl ?_ | refine call_sb (c2) rfl ?_ ?_ | refine call_s (c2) rfl rfl ?_ | refine call_b (c3 _ _) rfl ?_ ?_ | refine call_d (c3 _ _) rfl ?_ | refine call_sb (c3 _ _) rfl ?_ ?_ | refine call_s (c3 _ _) rfl rfl ?_ | refine call_b (r1) rfl ?_ ?_ | refine call_d (r1) rfl ?_ | refine call_sb (r1) rfl ?_ ?_ | refine call_s (r1) rfl rfl ?_) <;> try (simp -implicitDefEqProofs only [go_sem, diskD_eq, diskC_eq, GDisk.skews, hs1, hs2, q1, q2, q3, q4, q5, v1, v2])) | (((with_reducible refine vc_b ?_ ?_) <;> intro _) <;> try (simp -implicitDefEqProofs only [go_sem, diskD_eq, diskC_eq, GDisk.skews, hs1, hs2, q1, q2, q3, q4, q5, v1, v2])) | simp (disch := omega) only [wrapI, wrapU, shl1, shl1', shl1'', shrN, shrN', and_one] 
          all_goals omega
end Go.Pw
