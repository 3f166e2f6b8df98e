/- A part of the proof. -/
import Derived.Test.YtddmlbflglpgbaaZonesD
import Derived.Test.YtddmlbflglpgbaaZonesSpec2
set_option linter.all false
open Go Go.Pw Go.Proofs
namespace Go.Pw
set_option linter.unusedSimpArgs false
set_option linter.unusedVariables false
set_option maxRecDepth 100000
set_option maxHeartbeats 1600000
attribute [local congr] cg_pw cg_seqI cg_seqE cg_stepI cg_ev cg_evBin cg_condB cg_condV cg_thenQ cg_blockQ cg_onSome cg_onCells cg_onRow cg_onMap cg_onOpt cg_ghosts cg_ghost cg_evCall cg_part cg_rng cg_guardV cg_frzV cg_frpV cg_ownV cg_owcV cg_occV cg_occX cg_resK cg_res1 cg_yldP cg_rndE cg_onlyN cg_onHist
attribute [local irreducible] IntKind.wrap bitsOp Option.getD and or

theorem zones_Place_ret (d : GDisk) (n : Int) : Ret E0 F_zones_Place [diskD d, .int .i64 n] (.tup [placeD (d.place n).1.1 (d.place n).1.2.1 (d.place n).1.2.2, .int .i64 (d.place n).2]) := by
  refine ret_of_pw dec_zones_Place mixed (by simp) fun hwf => ?_
  have c1 := zones_find_ret d n
  rw [enter_eq]; unfold pc_zones_Place
  unfold GDisk.find at c1
  unfold GDisk.place
  cases h : d.ok with
  | false =>
    rw [h] at c1
    (try (simp -implicitDefEqProofs only [go_sem, diskD_eq, diskC_eq, trackD_eq, trackC_eq, zeroT_eq, placeD_eq])); repeat' first | with_reducible exact True.intro | with_reducible refine And.intro ?_ ?_ | with_reducible intro _ | (((with_reducible refine isCall ?_); first | refine call_b (c1) rfl ?_ ?_ | refine call_d (c1) rfl ?_ | refine call_sb (c1) rfl ?_ ?_ | refine call_s (c1) rfl rfl ?_) <;> try (simp -implicitDefEqProofs only [go_sem, diskD_eq, diskC_eq, trackD_eq, trackC_eq, zeroT_eq, placeD_eq])) | (((with_reducible refine vc_b ?_ ?_) <;> intro _) <;> try (simp -implicitDefEqProofs only [go_sem, diskD_eq, diskC_eq, trackD_eq, trackC_eq, zeroT_eq, placeD_eq])) | simp (disch := omega) only [wrapI, wrapU, shl1, shl1', shl1'', shrN, shrN', and_one] 
    all_goals first | omega | (simp; done) | (simp; omega) | skip
  | true =>
    rw [h] at c1
    have g := good_of h
    cases hk : d.kOf n with
    | none =>
      rw [hk] at c1
      (try (simp -implicitDefEqProofs only [go_sem, diskD_eq, diskC_eq, trackD_eq, trackC_eq, zeroT_eq, placeD_eq])); repeat' first | with_reducible exact True.intro | with_reducible refine And.intro ?_ ?_ | with_reducible intro _ | (((with_reducible refine isCall ?_); first | refine call_b (c1) rfl ?_ ?_ | refine call_d (c1) rfl ?_ | refine call_sb (c1) rfl ?_ ?_ | refine call_s (c1) rfl rfl ?_) <;> try (simp -implicitDefEqProofs only [go_sem, diskD_eq, diskC_eq, trackD_eq, trackC_eq, zeroT_eq, placeD_eq])) | (((with_reducible refine vc_b ?_ ?_) <;> intro _) <;> try (simp -implicitDefEqProofs only [go_sem, diskD_eq, diskC_eq, trackD_eq, trackC_eq, zeroT_eq, placeD_eq])) | simp (disch := omega) only [wrapI, wrapU, shl1, shl1', shl1'', shrN, shrN', and_one] 
      all_goals first | omega | (simp; done) | (simp; omega) | skip
    | some k =>
      rw [hk] at c1
      obtain ⟨k1, k2⟩ := kOf_spec hk
      unfold GDisk.holds at k2
      have h1 := g.tf k (by omega)
      have h2 := g.ts k1
      have h3 := g.nt
      have hw : IntKind.i64.wrap (n - d.tf k) = n - d.tf k := wrapI _ (by omega)
      (try (simp -implicitDefEqProofs only [go_sem, diskD_eq, diskC_eq, trackD_eq, trackC_eq, GDisk.track, placeD_eq, hw])); repeat' first | with_reducible exact True.intro | with_reducible refine And.intro ?_ ?_ | with_reducible intro _ | (((with_reducible refine isCall ?_); first | refine call_b (c1) rfl ?_ ?_ | refine call_d (c1) rfl ?_ | refine call_sb (c1) rfl ?_ ?_ | refine call_s (c1) rfl rfl ?_) <;> try (simp -implicitDefEqProofs only [go_sem, diskD_eq, diskC_eq, trackD_eq, trackC_eq, GDisk.track, placeD_eq, hw])) | (((with_reducible refine vc_b ?_ ?_) <;> intro _) <;> try (simp -implicitDefEqProofs only [go_sem, diskD_eq, diskC_eq, trackD_eq, trackC_eq, GDisk.track, placeD_eq, hw])) | simp (disch := omega) only [wrapI, wrapU, shl1, shl1', shl1'', shrN, shrN', and_one] 
      all_goals first | omega | (simp; done) | (simp; omega) | skip

theorem zones_Angle_ret (d : GDisk) (n : Int) : Ret E0 F_zones_Angle [diskD d, .int .i64 n] (.tup [.int .i64 (d.angle n).1, .int .i64 (d.angle n).2.1, .int .i64 (d.angle n).2.2]) := by
  refine ret_of_pw dec_zones_Angle mixed (by simp) fun hwf => ?_
  have c1 := zones_find_ret d n
  rw [enter_eq]; unfold pc_zones_Angle
  unfold GDisk.find at c1
  unfold GDisk.angle
  cases h : d.ok with
  | false =>
    rw [h] at c1
    (try (simp -implicitDefEqProofs only [go_sem, diskD_eq, diskC_eq, trackD_eq, trackC_eq, zeroT_eq])); repeat' first | with_reducible exact True.intro | with_reducible refine And.intro ?_ ?_ | with_reducible intro _ | (((with_reducible refine isCall ?_); first | refine call_b (c1) rfl ?_ ?_ | refine call_d (c1) rfl ?_ | refine call_sb (c1) rfl ?_ ?_ | refine call_s (c1) rfl rfl ?_) <;> try (simp -implicitDefEqProofs only [go_sem, diskD_eq, diskC_eq, trackD_eq, trackC_eq, zeroT_eq])) | (((with_reducible refine vc_b ?_ ?_) <;> intro _) <;> try (simp -implicitDefEqProofs only [go_sem, diskD_eq, diskC_eq, trackD_eq, trackC_eq, zeroT_eq])) | simp (disch := omega) only [wrapI, wrapU, shl1, shl1', shl1'', shrN, shrN', and_one] 
    all_goals first | omega | (simp; done) | (simp; omega) | skip
  | true =>
    rw [h] at c1
    have g := good_of h
    cases hk : d.kOf n with
    | none =>
      rw [hk] at c1
      (try (simp -implicitDefEqProofs only [go_sem, diskD_eq, diskC_eq, trackD_eq, trackC_eq, zeroT_eq])); repeat' first | with_reducible exact True.intro | with_reducible refine And.intro ?_ ?_ | with_reducible intro _ | (((with_reducible refine isCall ?_); first | refine call_b (c1) rfl ?_ ?_ | refine call_d (c1) rfl ?_ | refine call_sb (c1) rfl ?_ ?_ | refine call_s (c1) rfl rfl ?_) <;> try (simp -implicitDefEqProofs only [go_sem, diskD_eq, diskC_eq, trackD_eq, trackC_eq, zeroT_eq])) | (((with_reducible refine vc_b ?_ ?_) <;> intro _) <;> try (simp -implicitDefEqProofs only [go_sem, diskD_eq, diskC_eq, trackD_eq, trackC_eq, zeroT_eq])) | simp (disch := omega) only [wrapI, wrapU, shl1, shl1', shl1'', shrN, shrN', and_one] 
      all_goals first | omega | (simp; done) | (simp; omega) | skip
    | some k =>
      rw [hk] at c1
      obtain ⟨k1, k2⟩ := kOf_spec hk
      have ha := angle_in g k1 k2
      have ho := g.own k1
      unfold GDisk.holds at k2
      have h1 := g.tf k (by omega)
      have h2 := g.ts k1
      have h3 := g.nt
      have h4 := g.to k
      have h5 := g.t1; have h6 := g.t2
      have hw : IntKind.i64.wrap (n - d.tf k) = n - d.tf k := wrapI _ (by omega)
      have hw2 : IntKind.i64.wrap (d.own k) = d.own k := wrapI _ (by omega)
      have hw3 : IntKind.i64.wrap ((n - d.tf k) * d.own k) = (n - d.tf k) * d.own k := wrapI _ (by omega)
      have hw4 : IntKind.i64.wrap (d.to k + (n - d.tf k) * d.own k) = d.to k + (n - d.tf k) * d.own k := wrapI _ (by omega)
      have hm : (d.to k + (n - d.tf k) * d.own k).tmod d.turn = (d.to k + (n - d.tf k) * d.own k) % d.turn := Int.tmod_eq_emod_of_nonneg (by omega)
      have hne : ¬ d.ts k = 0 := by omega
      have hne2 : ¬ d.turn = 0 := by omega
      have hq := ho.2.2.2
      (try (simp -implicitDefEqProofs only [go_sem, diskD_eq, diskC_eq, trackD_eq, trackC_eq, GDisk.track, hw, hw2, hw3, hw4, hq, hm, hne, hne2])); repeat' first | with_reducible exact True.intro | with_reducible refine And.intro ?_ ?_ | with_reducible intro _ | (((with_reducible refine isCall ?_); first | refine call_b (c1) rfl ?_ ?_ | refine call_d (c1) rfl ?_ | refine call_sb (c1) rfl ?_ ?_ | refine call_s (c1) rfl rfl ?_) <;> try (simp -implicitDefEqProofs only [go_sem, diskD_eq, diskC_eq, trackD_eq, trackC_eq, GDisk.track, hw, hw2, hw3, hw4, hq, hm, hne, hne2])) | (((with_reducible refine vc_b ?_ ?_) <;> intro _) <;> try (simp -implicitDefEqProofs only [go_sem, diskD_eq, diskC_eq, trackD_eq, trackC_eq, GDisk.track, hw, hw2, hw3, hw4, hq, hm, hne, hne2])) | simp (disch := omega) only [wrapI, wrapU, shl1, shl1', shl1'', shrN, shrN', and_one] 
      all_goals first | omega | (simp; done) | (simp; omega) | skip

theorem zones_Wait_ret (d : GDisk) (n time : Int) : Ret E0 F_zones_Wait [diskD d, .int .i64 n, .int .i64 time] (.tup [.int .i64 (d.wait n time).1, .int .i64 (d.wait n time).2]) := by
  refine ret_of_pw dec_zones_Wait mixed (by simp) fun hwf => ?_
  have c1 := zones_Angle_ret d n
  have c2 := zones_in_ret time 0 1000000
  rw [enter_eq]; unfold pc_zones_Wait GDisk.wait
  by_cases he : (d.angle n).2.2 = 0
  · rw [if_neg (by simpa using he)]
    have hok : d.ok = true := by
      cases h : d.ok with
      | true => rfl
      | false => unfold GDisk.angle at he; rw [h] at he; simp at he
    have g := good_of hok
    have ha := angle_at g n he
    have h5 := g.t1; have h6 := g.t2
    rw [he] at c1
    cases ht : inZ time 0 1000000 with
    | false =>
      rw [ht] at c2
      (try (simp -implicitDefEqProofs only [go_sem, diskD_eq, diskC_eq])); repeat' first | with_reducible exact True.intro | with_reducible refine And.intro ?_ ?_ | with_reducible intro _ | (((with_reducible refine isCall ?_); first | refine call_b (c1) rfl ?_ ?_ | refine call_d (c1) rfl ?_ | refine call_sb (c1) rfl ?_ ?_ | refine call_s (c1) rfl rfl ?_ | refine call_b (c2) rfl ?_ ?_ | refine call_d (c2) rfl ?_ | refine call_sb (c2) rfl ?_ ?_ | refine call_s (c2) rfl rfl ?_) <;> try (simp -implicitDefEqProofs only [go_sem, diskD_eq, diskC_eq])) | (((with_reducible refine vc_b ?_ ?_) <;> intro _) <;> try (simp -implicitDefEqProofs only [go_sem, diskD_eq, diskC_eq])) | simp (disch := omega) only [wrapI, wrapU, shl1, shl1', shl1'', shrN, shrN', and_one] 
      all_goals first | omega | (simp; done) | (simp; omega) | skip
    | true =>
      rw [ht] at c2
      have htm := inZ_iff.1 ht
      obtain ⟨x, hx⟩ : ∃ x, (d.angle n).1 = x := ⟨_, rfl⟩
      rw [hx] at c1 ha ⊢
      have hm1 : time.tmod d.turn = time % d.turn := Int.tmod_eq_emod_of_nonneg (by omega)
      have hb1 := Int.emod_nonneg time (b := d.turn) (by omega)
      have hb2 := Int.emod_lt_of_pos time (b := d.turn) (by omega)
      have hw1 : IntKind.i64.wrap (x - time % d.turn) = x - time % d.turn := wrapI _ (by omega)
      have hw2 : IntKind.i64.wrap (x - time % d.turn + d.turn) = x - time % d.turn + d.turn := wrapI _ (by omega)
      have hm2 : (x - time % d.turn + d.turn).tmod d.turn = (x - time) % d.turn := by
        rw [Int.tmod_eq_emod_of_nonneg (by omega), Int.add_emod_right, Int.sub_emod, Int.emod_emod, ← Int.sub_emod]
      have hne : ¬ d.turn = 0 := by omega
      (try (simp -implicitDefEqProofs only [go_sem, diskD_eq, diskC_eq, hm1, hw1, hw2, hm2, hne])); repeat' first | with_reducible exact True.intro | with_reducible refine And.intro ?_ ?_ | with_reducible intro _ | (((with_reducible refine isCall ?_); first | refine call_b (c1) rfl ?_ ?_ | refine call_d (c1) rfl ?_ | refine call_sb (c1) rfl ?_ ?_ | refine call_s (c1) rfl rfl ?_ | refine call_b (c2) rfl ?_ ?_ | refine call_d (c2) rfl ?_ | refine call_sb (c2) rfl ?_ ?_ | refine call_s (c2) rfl rfl ?_) <;> try (simp -implicitDefEqProofs only [go_sem, diskD_eq, diskC_eq, hm1, hw1, hw2, hm2, hne])) | (((with_reducible refine vc_b ?_ ?_) <;> intro _) <;> try (simp -implicitDefEqProofs only [go_sem, diskD_eq, diskC_eq, hm1, hw1, hw2, hm2, hne])) | simp (disch := omega) only [wrapI, wrapU, shl1, shl1', shl1'', shrN, shrN', and_one] 
      all_goals first | omega | (simp; done) | (simp; omega) | skip
  · rw [if_pos he]
    (try (simp -implicitDefEqProofs only [go_sem, diskD_eq, diskC_eq, he])); repeat' first | with_reducible exact True.intro | with_reducible refine And.intro ?_ ?_ | with_reducible intro _ | (((with_reducible refine isCall ?_); first | refine call_b (c1) rfl ?_ ?_ | refine call_d (c1) rfl ?_ | refine call_sb (c1) rfl ?_ ?_ | refine call_s (c1) rfl rfl ?_) <;> try (simp -implicitDefEqProofs only [go_sem, diskD_eq, diskC_eq, he])) | (((with_reducible refine vc_b ?_ ?_) <;> intro _) <;> try (simp -implicitDefEqProofs only [go_sem, diskD_eq, diskC_eq, he])) | simp (disch := omega) only [wrapI, wrapU, shl1, shl1', shl1'', shrN, shrN', and_one] 
    all_goals first | omega | (simp; done) | (simp; omega) | skip

theorem zones_gap_ret (d : GDisk) (g : d.Good) (skew ticks : Int) (h1 : 0 ≤ skew ∧ skew < d.turn) (h2 : 0 ≤ ticks ∧ ticks ≤ 2000) : Ret E0 F_zones_disk_gap [diskD d, .int .i64 skew, .int .i64 ticks] (.tup [.int .i64 (gapV d.turn skew ticks), .int .i64 (gapT d.turn skew ticks)]) := by
  refine ret_of_pw dec_zones_disk_gap mixed (by simp) fun hwf => ?_
  have t1 := g.t1; have t2 := g.t2
  obtain ⟨k0, k1, k2⟩ := gapT_spec (t := d.turn) (skew := skew) (ticks := ticks) (by omega)
  have hle := gapT_le (t := d.turn) (skew := skew) (ticks := ticks) (by omega) h2.2 h1.1
  rw [enter_eq]; unfold pc_zones_disk_gap gapV
  generalize gapT d.turn skew ticks = q at *
  (try (simp -implicitDefEqProofs only [go_sem, diskD_eq, diskC_eq])); repeat' first | with_reducible exact True.intro | with_reducible refine And.intro ?_ ?_ | with_reducible intro _ | (((with_reducible refine vc_b ?_ ?_) <;> intro _) <;> try (simp -implicitDefEqProofs only [go_sem, diskD_eq, diskC_eq])) | simp (disch := omega) only [wrapI, wrapU, shl1, shl1', shl1'', shrN, shrN', and_one] | ((with_reducible refine isEx ?_); refine ⟨_, rfl, ?_, ?_⟩)
  all_goals first | omega | (simp; done) | (simp; omega) | skip
  refine pw_loopS (α := Int) (l0 := ?l1) (m0 := ?m1) (fun x => [(7, .d (.int .i64 x))]) (fun x => []) (fun x => 0 ≤ x ∧ x ≤ q) (fun x => (q - x).toNat) ?a1_0 ?h01 ?he1 ?he21 ?hI1 ?step1
  case h01 => (simp -implicitDefEqProofs only [go_sem, diskC_eq]; rfl)
  case he1 => rfl
  case he21 => rfl
  case' step1 => (rintro t hI; try dsimp only at hI)
  case' hI1 => try dsimp only
  · exact ⟨by omega, by omega⟩
  · have hb : 0 ≤ t * d.turn ∧ t * d.turn ≤ 2000 * 1000 := ⟨Int.mul_nonneg (by omega) (by omega), Int.mul_le_mul (by omega) (by omega) (by omega) (by omega)⟩
    have hw1 : IntKind.i64.wrap (t * d.turn) = t * d.turn := wrapI _ (by omega)
    have hw2 : IntKind.i64.wrap (skew + t * d.turn) = skew + t * d.turn := wrapI _ (by omega)
    have hw3 : IntKind.i64.wrap (t + 1) = t + 1 := wrapI _ (by omega)
    by_cases ht : t < q
    · have hlt := k2 t ht hI.1
      (try (simp -implicitDefEqProofs only [go_sem, diskC_eq, hw1, hw2, hw3, hlt])); repeat' first | with_reducible exact True.intro | with_reducible refine And.intro ?_ ?_ | with_reducible intro _ | (((with_reducible refine vc_b ?_ ?_) <;> intro _) <;> try (simp -implicitDefEqProofs only [go_sem, diskC_eq, hw1, hw2, hw3, hlt])) | simp (disch := omega) only [wrapI, wrapU, shl1, shl1', shl1'', shrN, shrN', and_one] | ((with_reducible refine isEx ?_); refine ⟨_, rfl, ?_, ?_⟩)
      all_goals first | omega | (simp; done) | (simp; omega) | skip
    · have hte : t = q := by omega
      subst hte
      have hlt : ¬ skew + t * d.turn < ticks := by omega
      (try (simp -implicitDefEqProofs only [go_sem, diskC_eq, hw1, hw2, hw3, hlt])); repeat' first | with_reducible exact True.intro | with_reducible refine And.intro ?_ ?_ | with_reducible intro _ | (((with_reducible refine vc_b ?_ ?_) <;> intro _) <;> try (simp -implicitDefEqProofs only [go_sem, diskC_eq, hw1, hw2, hw3, hlt])) | simp (disch := omega) only [wrapI, wrapU, shl1, shl1', shl1'', shrN, shrN', and_one] | ((with_reducible refine isEx ?_); refine ⟨_, rfl, ?_, ?_⟩)
      all_goals first | omega | (simp; done) | (simp; omega) | skip

theorem zones_changes_ret (d : GDisk) : Ret E0 F_zones_disk_changes [diskD d] (.agg [.int .i64 d.hlo, .int .i64 d.hhi, .int .i64 d.hskew, .int .i64 d.clo, .int .i64 d.chi, .int .i64 d.cskew]) := by
  refine ret_of_pw dec_zones_disk_changes mixed (by simp) fun hwf => ?_
  rw [enter_eq]; unfold pc_zones_disk_changes
  (try (simp -implicitDefEqProofs only [go_sem, diskD_eq, diskC_eq])); repeat' first | with_reducible exact True.intro | with_reducible refine And.intro ?_ ?_ | with_reducible intro _ | (((with_reducible refine vc_b ?_ ?_) <;> intro _) <;> try (simp -implicitDefEqProofs only [go_sem, diskD_eq, diskC_eq])) | simp (disch := omega) only [wrapI, wrapU, shl1, shl1', shl1'', shrN, shrN', and_one] 
  all_goals first | omega | (simp; done) | (simp; omega) | skip
end Go.Pw
