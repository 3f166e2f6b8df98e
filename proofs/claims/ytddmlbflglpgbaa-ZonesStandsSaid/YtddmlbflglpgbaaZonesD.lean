/- A part of the proof. -/
import Derived.Test.YtddmlbflglpgbaaZonesC
set_option linter.all false
open Go Go.Pw Go.Proofs
namespace Go.Pw
set_option linter.unusedSimpArgs false
set_option linter.unusedVariables false
set_option maxRecDepth 100000
set_option maxHeartbeats 1600000
attribute [local congr] cg_pw cg_seqI cg_seqE cg_stepI cg_ev cg_evBin cg_condB cg_condV cg_thenQ cg_blockQ cg_onSome cg_onCells cg_onRow cg_onMap cg_onOpt cg_ghosts cg_ghost cg_evCall cg_part cg_rng cg_guardV cg_frzV cg_frpV cg_ownV cg_owcV cg_occV cg_occX cg_resK cg_res1 cg_yldP cg_rndE cg_onlyN cg_onHist
attribute [local irreducible] IntKind.wrap bitsOp Option.getD and or
-- %RNGV

theorem zones_disk_size_ret (d : GDisk) (hok : d.ok = true) : Ret E0 F_zones_disk_size [diskD d] (.int .i64 d.size) := by
  have g := good_of hok
  refine ret_of_pw dec_zones_disk_size mixed (by simp) fun hwf => ?_
  rw [enter_eq]; unfold pc_zones_disk_size
  (try (simp -implicitDefEqProofs only [go_sem, diskD_eq, diskC_eq])); repeat' first | with_reducible exact True.intro | with_reducible refine And.intro ?_ ?_ | with_reducible intro _ | (((with_reducible refine vc_b ?_ ?_) <;> intro _) <;> try (simp -implicitDefEqProofs only [go_sem, diskD_eq, diskC_eq])) | simp (disch := omega) only [wrapI, wrapU, shl1, shl1', shl1'', shrN, shrN', and_one] | ((with_reducible refine isVx ?_); refine ⟨_, rfl, ?_⟩)
  refine pw_rngS (α := Int) (so := setOs) (l0 := ?l1) (m0 := ?m1) (fun x => [(5000002, .cells [.d (.int .i64 x)])]) (fun n x => x = d.tf n) (fun e x => False) 0 (zones_tracks_seq d hok) body_zones_disk_tracks ?h01 ?he1 (by simp [PC.noR]) ?hw1 ?hI1 ?step1 ?hend1 ?hjump1
  case h01 => (simp -implicitDefEqProofs only [go_sem, diskD_eq, diskC_eq]; first | exact ⟨rfl, rfl⟩ | exact rfl)
  case he1 => rfl
  case hw1 => simp -implicitDefEqProofs only [go_sem]
  case' hjump1 => (rintro e x hI; try dsimp only at hI)
  case' hend1 => (rintro x hI; try dsimp only at hI)
  case' step1 => (rintro n x ds hds hI; try dsimp only at hI)
  case' hI1 => try dsimp only
  · rfl
  · obtain ⟨hn, rfl⟩ := tracks_get hds
    refine ⟨rfl, ?_⟩
    have h1 := g.tf n (by omega)
    have h2 := g.ts hn
    have h3 := g.nt
    have hw : IntKind.i64.wrap (x + d.ts n) = x + d.ts n := wrapI _ (by omega)
    (try (simp -implicitDefEqProofs only [go_sem, trackD_eq, trackC_eq, GDisk.track, hw])); repeat' first | with_reducible exact True.intro | with_reducible refine And.intro ?_ ?_ | with_reducible intro _ | (((with_reducible refine vc_b ?_ ?_) <;> intro _) <;> try (simp -implicitDefEqProofs only [go_sem, trackD_eq, trackC_eq, GDisk.track, hw])) | simp (disch := omega) only [wrapI, wrapU, shl1, shl1', shl1'', shrN, shrN', and_one] | ((with_reducible refine isVx ?_); refine ⟨_, rfl, ?_⟩)
    all_goals first | omega | (simp; done) | (simp; omega) | skip
    all_goals (rw [hI]; rfl)
  · rw [tracks_len] at hI
    (try (simp -implicitDefEqProofs only [go_sem, hI])); repeat' first | with_reducible exact True.intro | with_reducible refine And.intro ?_ ?_ | with_reducible intro _ | (((with_reducible refine vc_b ?_ ?_) <;> intro _) <;> try (simp -implicitDefEqProofs only [go_sem, hI])) | simp (disch := omega) only [wrapI, wrapU, shl1, shl1', shl1'', shrN, shrN', and_one] | ((with_reducible refine isVx ?_); refine ⟨_, rfl, ?_⟩)
    rfl

theorem zones_open_ret (d : GDisk) : Ret E0 F_zones_open [diskD d] (.tup [diskD d, .int .i64 d.check]) := by
  refine ret_of_pw dec_zones_open mixed (by simp) fun hwf => ?_
  have c1 := zones_Check_ret d
  rw [diskD_eq, diskC_eq] at c1
  rw [enter_eq]; unfold pc_zones_open
  (try (simp -implicitDefEqProofs only [go_sem, diskD_eq, diskC_eq])); repeat' first | with_reducible exact True.intro | with_reducible refine And.intro ?_ ?_ | with_reducible intro _ | (((with_reducible refine isCall ?_); first | refine call_b (c1) rfl ?_ ?_ | refine call_d (c1) rfl ?_ | refine call_sb (c1) rfl ?_ ?_ | refine call_s (c1) rfl rfl ?_) <;> try (simp -implicitDefEqProofs only [go_sem, diskD_eq, diskC_eq])) | (((with_reducible refine vc_b ?_ ?_) <;> intro _) <;> try (simp -implicitDefEqProofs only [go_sem, diskD_eq, diskC_eq])) | simp (disch := omega) only [wrapI, wrapU, shl1, shl1', shl1'', shrN, shrN', and_one] 
  all_goals first | omega | (simp; done) | (simp; omega) | skip

theorem zones_Size_ret (d : GDisk) : Ret E0 F_zones_Size [diskD d] (.tup [.int .i64 (if d.ok then d.size else 0), .int .i64 d.check]) := by
  refine ret_of_pw dec_zones_Size mixed (by simp) fun hwf => ?_
  have c1 := zones_open_ret d
  rw [enter_eq]; unfold pc_zones_Size
  unfold GDisk.check at *
  cases h : d.ok with
  | false =>
    rw [h] at c1
    (try (simp -implicitDefEqProofs only [go_sem, diskD_eq, diskC_eq])); repeat' first | with_reducible exact True.intro | with_reducible refine And.intro ?_ ?_ | with_reducible intro _ | (((with_reducible refine isCall ?_); first | refine call_b (c1) rfl ?_ ?_ | refine call_d (c1) rfl ?_ | refine call_sb (c1) rfl ?_ ?_ | refine call_s (c1) rfl rfl ?_) <;> try (simp -implicitDefEqProofs only [go_sem, diskD_eq, diskC_eq])) | (((with_reducible refine vc_b ?_ ?_) <;> intro _) <;> try (simp -implicitDefEqProofs only [go_sem, diskD_eq, diskC_eq])) | simp (disch := omega) only [wrapI, wrapU, shl1, shl1', shl1'', shrN, shrN', and_one] 
    all_goals first | omega | (simp; done) | (simp; omega) | skip
  | true =>
    rw [h] at c1
    have c2 := zones_disk_size_ret d h
    (try (simp -implicitDefEqProofs only [go_sem, diskD_eq, diskC_eq])); repeat' first | with_reducible exact True.intro | with_reducible refine And.intro ?_ ?_ | with_reducible intro _ | (((with_reducible refine isCall ?_); first | refine call_b (c1) rfl ?_ ?_ | refine call_d (c1) rfl ?_ | refine call_sb (c1) rfl ?_ ?_ | refine call_s (c1) rfl rfl ?_ | refine call_b (c2) rfl ?_ ?_ | refine call_d (c2) rfl ?_ | refine call_sb (c2) rfl ?_ ?_ | refine call_s (c2) rfl rfl ?_) <;> try (simp -implicitDefEqProofs only [go_sem, diskD_eq, diskC_eq])) | (((with_reducible refine vc_b ?_ ?_) <;> intro _) <;> try (simp -implicitDefEqProofs only [go_sem, diskD_eq, diskC_eq])) | simp (disch := omega) only [wrapI, wrapU, shl1, shl1', shl1'', shrN, shrN', and_one] 
    all_goals first | omega | (simp; done) | (simp; omega) | skip

theorem zones_find_ret (d : GDisk) (m : Int) : Ret E0 F_zones_find [diskD d, .int .i64 m] (.tup [diskD d, trackD (d.find m).1, .int .i64 (d.find m).2]) := by
  refine ret_of_pw dec_zones_find mixed (by simp) fun hwf => ?_
  have c1 := zones_open_ret d
  rw [enter_eq]; unfold pc_zones_find
  unfold GDisk.check GDisk.find at *
  cases h : d.ok with
  | false =>
    rw [h] at c1
    (try (simp -implicitDefEqProofs only [go_sem, diskD_eq, diskC_eq, trackD_eq, trackC_eq, zeroT_eq])); repeat' first | with_reducible exact True.intro | with_reducible refine And.intro ?_ ?_ | with_reducible intro _ | (((with_reducible refine isCall ?_); first | refine call_b (c1) rfl ?_ ?_ | refine call_d (c1) rfl ?_ | refine call_sb (c1) rfl ?_ ?_ | refine call_s (c1) rfl rfl ?_) <;> try (simp -implicitDefEqProofs only [go_sem, diskD_eq, diskC_eq, trackD_eq, trackC_eq, zeroT_eq])) | (((with_reducible refine vc_b ?_ ?_) <;> intro _) <;> try (simp -implicitDefEqProofs only [go_sem, diskD_eq, diskC_eq, trackD_eq, trackC_eq, zeroT_eq])) | simp (disch := omega) only [wrapI, wrapU, shl1, shl1', shl1'', shrN, shrN', and_one] | ((with_reducible refine isVx3 ?_); refine ⟨(_, _, _), rfl, ?_⟩)
    all_goals first | omega | (simp; done) | (simp; omega) | skip
  | true =>
    rw [h] at c1
    have g := good_of h
    (try (simp -implicitDefEqProofs only [go_sem, diskD_eq, diskC_eq])); repeat' first | with_reducible exact True.intro | with_reducible refine And.intro ?_ ?_ | with_reducible intro _ | (((with_reducible refine isCall ?_); first | refine call_b (c1) rfl ?_ ?_ | refine call_d (c1) rfl ?_ | refine call_sb (c1) rfl ?_ ?_ | refine call_s (c1) rfl rfl ?_) <;> try (simp -implicitDefEqProofs only [go_sem, diskD_eq, diskC_eq])) | (((with_reducible refine vc_b ?_ ?_) <;> intro _) <;> try (simp -implicitDefEqProofs only [go_sem, diskD_eq, diskC_eq])) | simp (disch := omega) only [wrapI, wrapU, shl1, shl1', shl1'', shrN, shrN', and_one] | ((with_reducible refine isVx3 ?_); refine ⟨(_, _, _), rfl, ?_⟩)
    all_goals first | omega | (simp; done) | (simp; omega) | skip
    refine pw_rngS (α := (List AV) × (List AV) × (List AV)) (so := setOs) (l0 := ?l2) (m0 := ?m2) (fun x => [(5000004, .cells x.1), (5000005, .cells x.2.1), (5000006, .cells x.2.2)]) (fun n x => (∀ k, k < n → ¬ d.holds m k) ∧ x.1 = [.d (.int .i64 0), .d (.int .i64 0), .d (.list true []), .d (.int .i64 0), .d (.int .i64 0), .d (.int .i64 0), .d (.int .i64 0), .d (.int .i64 0), .d (.int .i64 0)] ∧ x.2.1 = [.d (.int .i64 0), .d (.int .i64 0), .d (.int .i64 0), .d (.int .i64 0), .d (.int .i64 0)] ∧ x.2.2 = [.d (.int .i64 0)]) (fun e x => e = .ret ∧ ∃ k, k < d.nt ∧ d.holds m k ∧ x.1 = (diskC d).map .d ∧ x.2.1 = (trackC (d.track k)).map .d ∧ x.2.2 = [.d (.int .i64 0)]) (?a2_0, ?a2_1, ?a2_2) (zones_tracks_seq d h) body_zones_disk_tracks ?h02 ?he2 (by simp [PC.noR]) ?hw2 ?hI2 ?step2 ?hend2 ?hjump2
    case h02 => (simp -implicitDefEqProofs only [go_sem, diskD_eq, diskC_eq]; first | exact ⟨rfl, rfl⟩ | exact rfl)
    case he2 => rfl
    case hw2 => simp -implicitDefEqProofs only [go_sem]
    case' hjump2 => (rintro e ⟨p, q, r⟩ hI; try dsimp only at hI)
    case' hend2 => (rintro ⟨p, q, r⟩ hI; try dsimp only at hI)
    case' step2 => (rintro n ⟨p, q, r⟩ ds hds hI; try dsimp only at hI)
    case' hI2 => try dsimp only
    · exact ⟨fun k hk => by omega, rfl, rfl, rfl⟩
    · obtain ⟨h1, rfl, rfl, rfl⟩ := hI
      obtain ⟨hn, rfl⟩ := tracks_get hds
      refine ⟨rfl, ?_⟩
      have h2 := g.tf n (by omega)
      have h3 := g.ts hn
      have h4 := g.nt
      have hw1 : IntKind.i64.wrap (d.tf n + d.ts n) = d.tf n + d.ts n := wrapI _ (by omega)
      have hw2 : IntKind.i64.wrap (d.tf n + d.ts n - 1) = d.tf n + d.ts n - 1 := wrapI _ (by omega)
      have c2 := zones_in_ret m (d.tf n) (d.tf n + d.ts n - 1)
      by_cases hh : d.holds m n
      · have hb : inZ m (d.tf n) (d.tf n + d.ts n - 1) = true := inZ_iff.2 (by unfold GDisk.holds at hh; omega)
        rw [hb] at c2
        (try (simp -implicitDefEqProofs only [go_sem, trackD_eq, trackC_eq, GDisk.track, hw1, hw2])); repeat' first | with_reducible exact True.intro | with_reducible refine And.intro ?_ ?_ | with_reducible intro _ | (((with_reducible refine isCall ?_); first | refine call_b (c2) rfl ?_ ?_ | refine call_d (c2) rfl ?_ | refine call_sb (c2) rfl ?_ ?_ | refine call_s (c2) rfl rfl ?_) <;> try (simp -implicitDefEqProofs only [go_sem, trackD_eq, trackC_eq, GDisk.track, hw1, hw2])) | (((with_reducible refine vc_b ?_ ?_) <;> intro _) <;> try (simp -implicitDefEqProofs only [go_sem, trackD_eq, trackC_eq, GDisk.track, hw1, hw2])) | simp (disch := omega) only [wrapI, wrapU, shl1, shl1', shl1'', shrN, shrN', and_one] | ((with_reducible refine isVx3 ?_); refine ⟨(_, _, _), rfl, ?_⟩)
        all_goals first | omega | (simp; done) | (simp; omega) | skip
        exact ⟨n, hn, hh, rfl, rfl, trivial⟩
      · have hb : inZ m (d.tf n) (d.tf n + d.ts n - 1) = false := inZ_no.2 (by unfold GDisk.holds at hh; omega)
        rw [hb] at c2
        (try (simp -implicitDefEqProofs only [go_sem, trackD_eq, trackC_eq, GDisk.track, hw1, hw2])); repeat' first | with_reducible exact True.intro | with_reducible refine And.intro ?_ ?_ | with_reducible intro _ | (((with_reducible refine isCall ?_); first | refine call_b (c2) rfl ?_ ?_ | refine call_d (c2) rfl ?_ | refine call_sb (c2) rfl ?_ ?_ | refine call_s (c2) rfl rfl ?_) <;> try (simp -implicitDefEqProofs only [go_sem, trackD_eq, trackC_eq, GDisk.track, hw1, hw2])) | (((with_reducible refine vc_b ?_ ?_) <;> intro _) <;> try (simp -implicitDefEqProofs only [go_sem, trackD_eq, trackC_eq, GDisk.track, hw1, hw2])) | simp (disch := omega) only [wrapI, wrapU, shl1, shl1', shl1'', shrN, shrN', and_one] | ((with_reducible refine isVx3 ?_); refine ⟨(_, _, _), rfl, ?_⟩)
        all_goals first | omega | (simp; done) | (simp; omega) | skip
        rename_i k hk
        rcases (show k < n ∨ k = n by omega) with h5 | h5
        · exact h1 k h5
        · rw [h5]; exact hh
    · obtain ⟨h1, rfl, rfl, rfl⟩ := hI
      rw [tracks_len] at h1
      rw [kOf_none.2 h1]
      (try (simp -implicitDefEqProofs only [go_sem, diskD_eq, diskC_eq, trackD_eq, trackC_eq, zeroT_eq])); repeat' first | with_reducible exact True.intro | with_reducible refine And.intro ?_ ?_ | with_reducible intro _ | (((with_reducible refine vc_b ?_ ?_) <;> intro _) <;> try (simp -implicitDefEqProofs only [go_sem, diskD_eq, diskC_eq, trackD_eq, trackC_eq, zeroT_eq])) | simp (disch := omega) only [wrapI, wrapU, shl1, shl1', shl1'', shrN, shrN', and_one] | ((with_reducible refine isVx3 ?_); refine ⟨(_, _, _), rfl, ?_⟩)
      all_goals first | omega | (simp; done) | (simp; omega) | skip
    · obtain ⟨rfl, k, h1, h2, rfl, rfl, rfl⟩ := hI
      rw [kOf_some g h1 h2]
      (try (simp -implicitDefEqProofs only [go_sem, diskD_eq, diskC_eq, trackD_eq, trackC_eq, GDisk.track])); repeat' first | with_reducible exact True.intro | with_reducible refine And.intro ?_ ?_ | with_reducible intro _ | (((with_reducible refine vc_b ?_ ?_) <;> intro _) <;> try (simp -implicitDefEqProofs only [go_sem, diskD_eq, diskC_eq, trackD_eq, trackC_eq, GDisk.track])) | simp (disch := omega) only [wrapI, wrapU, shl1, shl1', shl1'', shrN, shrN', and_one] | ((with_reducible refine isVx3 ?_); refine ⟨(_, _, _), rfl, ?_⟩)
      all_goals first | omega | (simp; done) | (simp; omega) | skip

def placeD (c h s : Int) : D := .agg [.int .i64 c, .int .i64 h, .int .i64 s]
theorem placeD_eq (c h s : Int) : placeD c h s = .agg [.int .i64 c, .int .i64 h, .int .i64 s] := rfl

theorem zones_Number_ret (d : GDisk) (c h s : Int) : Ret E0 F_zones_Number [diskD d, placeD c h s] (.tup [.int .i64 (d.number c h s).1, .int .i64 (d.number c h s).2]) := by
  refine ret_of_pw dec_zones_Number mixed (by simp) fun hwf => ?_
  have c1 := zones_open_ret d
  rw [enter_eq]; unfold pc_zones_Number
  unfold GDisk.check GDisk.number at *
  cases hk : d.ok with
  | false =>
    rw [hk] at c1
    (try (simp -implicitDefEqProofs only [go_sem, diskD_eq, diskC_eq, placeD_eq])); repeat' first | with_reducible exact True.intro | with_reducible refine And.intro ?_ ?_ | with_reducible intro _ | (((with_reducible refine isCall ?_); first | refine call_b (c1) rfl ?_ ?_ | refine call_d (c1) rfl ?_ | refine call_sb (c1) rfl ?_ ?_ | refine call_s (c1) rfl rfl ?_) <;> try (simp -implicitDefEqProofs only [go_sem, diskD_eq, diskC_eq, placeD_eq])) | (((with_reducible refine vc_b ?_ ?_) <;> intro _) <;> try (simp -implicitDefEqProofs only [go_sem, diskD_eq, diskC_eq, placeD_eq])) | simp (disch := omega) only [wrapI, wrapU, shl1, shl1', shl1'', shrN, shrN', and_one] | ((with_reducible refine isVx2 ?_); refine ⟨(_, _), rfl, ?_⟩)
    all_goals first | omega | (simp; done) | (simp; omega) | skip
  | true =>
    rw [hk] at c1
    have g := good_of hk
    (try (simp -implicitDefEqProofs only [go_sem, diskD_eq, diskC_eq, placeD_eq])); repeat' first | with_reducible exact True.intro | with_reducible refine And.intro ?_ ?_ | with_reducible intro _ | (((with_reducible refine isCall ?_); first | refine call_b (c1) rfl ?_ ?_ | refine call_d (c1) rfl ?_ | refine call_sb (c1) rfl ?_ ?_ | refine call_s (c1) rfl rfl ?_) <;> try (simp -implicitDefEqProofs only [go_sem, diskD_eq, diskC_eq, placeD_eq])) | (((with_reducible refine vc_b ?_ ?_) <;> intro _) <;> try (simp -implicitDefEqProofs only [go_sem, diskD_eq, diskC_eq, placeD_eq])) | simp (disch := omega) only [wrapI, wrapU, shl1, shl1', shl1'', shrN, shrN', and_one] | ((with_reducible refine isVx2 ?_); refine ⟨(_, _), rfl, ?_⟩)
    all_goals first | omega | (simp; done) | (simp; omega) | skip
    refine pw_rngS (α := Int × Int) (so := setOs) (l0 := ?l3) (m0 := ?m3) (fun x => [(5000004, .cells [.d (.int .i64 x.1)]), (5000005, .cells [.d (.int .i64 x.2)])]) (fun n x => ∀ k, k < n → ¬ d.isAt c h s k) (fun e x => e = .ret ∧ x.2 = 0 ∧ ∃ k, k < d.nt ∧ d.isAt c h s k ∧ x.1 = d.tf k + s) (?a3_0, ?a3_1) (zones_tracks_seq d hk) body_zones_disk_tracks ?h03 ?he3 (by simp [PC.noR]) ?hw3 ?hI3 ?step3 ?hend3 ?hjump3
    case h03 => (simp -implicitDefEqProofs only [go_sem, diskD_eq, diskC_eq]; first | exact ⟨rfl, rfl⟩ | exact rfl)
    case he3 => rfl
    case hw3 => simp -implicitDefEqProofs only [go_sem]
    case' hjump3 => (rintro e ⟨a, b⟩ hI; try dsimp only at hI)
    case' hend3 => (rintro ⟨a, b⟩ hI; try dsimp only at hI)
    case' step3 => (rintro n ⟨a, b⟩ ds hds hI; try dsimp only at hI)
    case' hI3 => try dsimp only
    · exact fun k hk => by omega
    · obtain ⟨hn, rfl⟩ := tracks_get hds
      refine ⟨rfl, ?_⟩
      have h2 := g.tf n (by omega)
      have h3 := g.ts hn
      have h4 := g.nt
      have hw1 : IntKind.i64.wrap (d.ts n - 1) = d.ts n - 1 := wrapI _ (by omega)
      have c2 := zones_in_ret s 0 (d.ts n - 1)
      have hnext : ¬ d.isAt c h s n → ∀ k, k < n + 1 → ¬ d.isAt c h s k := fun hh k hk => by
        rcases (show k < n ∨ k = n by omega) with h5 | h5
        · exact hI k h5
        · rw [h5]; exact hh
      by_cases hc : d.tc n = c
      · by_cases hh : d.th n = h
        · by_cases hs : 0 ≤ s ∧ s ≤ d.ts n - 1
          · have hb : inZ s 0 (d.ts n - 1) = true := inZ_iff.2 hs
            have hat : d.isAt c h s n := ⟨⟨hc, hh⟩, hs⟩
            have hw2 : IntKind.i64.wrap (d.tf n + s) = d.tf n + s := wrapI _ (by omega)
            rw [hb] at c2
            (try (simp -implicitDefEqProofs only [go_sem, trackD_eq, trackC_eq, GDisk.track, hw1, hc, hh, hw2])); repeat' first | with_reducible exact True.intro | with_reducible refine And.intro ?_ ?_ | with_reducible intro _ | (((with_reducible refine isCall ?_); first | refine call_b (c2) rfl ?_ ?_ | refine call_d (c2) rfl ?_ | refine call_sb (c2) rfl ?_ ?_ | refine call_s (c2) rfl rfl ?_) <;> try (simp -implicitDefEqProofs only [go_sem, trackD_eq, trackC_eq, GDisk.track, hw1, hc, hh, hw2])) | (((with_reducible refine vc_b ?_ ?_) <;> intro _) <;> try (simp -implicitDefEqProofs only [go_sem, trackD_eq, trackC_eq, GDisk.track, hw1, hc, hh, hw2])) | simp (disch := omega) only [wrapI, wrapU, shl1, shl1', shl1'', shrN, shrN', and_one] | ((with_reducible refine isVx2 ?_); refine ⟨(_, _), rfl, ?_⟩)
            all_goals first | omega | (simp; done) | (simp; omega) | skip
            all_goals exact ⟨n, hn, hat, rfl⟩
          · have hb : inZ s 0 (d.ts n - 1) = false := inZ_no.2 hs
            have hat := hnext fun hx => hs hx.2
            rw [hb] at c2
            (try (simp -implicitDefEqProofs only [go_sem, trackD_eq, trackC_eq, GDisk.track, hw1, hc, hh])); repeat' first | with_reducible exact True.intro | with_reducible refine And.intro ?_ ?_ | with_reducible intro _ | (((with_reducible refine isCall ?_); first | refine call_b (c2) rfl ?_ ?_ | refine call_d (c2) rfl ?_ | refine call_sb (c2) rfl ?_ ?_ | refine call_s (c2) rfl rfl ?_) <;> try (simp -implicitDefEqProofs only [go_sem, trackD_eq, trackC_eq, GDisk.track, hw1, hc, hh])) | (((with_reducible refine vc_b ?_ ?_) <;> intro _) <;> try (simp -implicitDefEqProofs only [go_sem, trackD_eq, trackC_eq, GDisk.track, hw1, hc, hh])) | simp (disch := omega) only [wrapI, wrapU, shl1, shl1', shl1'', shrN, shrN', and_one] | ((with_reducible refine isVx2 ?_); refine ⟨(_, _), rfl, ?_⟩)
            all_goals first | omega | (simp; done) | (simp; omega) | skip
            all_goals (apply hat; assumption)
        · have hat := hnext fun hx => hh hx.1.2
          (try (simp -implicitDefEqProofs only [go_sem, trackD_eq, trackC_eq, GDisk.track, hw1, hc, hh])); repeat' first | with_reducible exact True.intro | with_reducible refine And.intro ?_ ?_ | with_reducible intro _ | (((with_reducible refine isCall ?_); first | refine call_b (c2) rfl ?_ ?_ | refine call_d (c2) rfl ?_ | refine call_sb (c2) rfl ?_ ?_ | refine call_s (c2) rfl rfl ?_) <;> try (simp -implicitDefEqProofs only [go_sem, trackD_eq, trackC_eq, GDisk.track, hw1, hc, hh])) | (((with_reducible refine vc_b ?_ ?_) <;> intro _) <;> try (simp -implicitDefEqProofs only [go_sem, trackD_eq, trackC_eq, GDisk.track, hw1, hc, hh])) | simp (disch := omega) only [wrapI, wrapU, shl1, shl1', shl1'', shrN, shrN', and_one] | ((with_reducible refine isVx2 ?_); refine ⟨(_, _), rfl, ?_⟩)
          all_goals first | omega | (simp; done) | (simp; omega) | skip
          all_goals (apply hat; assumption)
      · have hat := hnext fun hx => hc hx.1.1
        (try (simp -implicitDefEqProofs only [go_sem, trackD_eq, trackC_eq, GDisk.track, hw1, hc])); repeat' first | with_reducible exact True.intro | with_reducible refine And.intro ?_ ?_ | with_reducible intro _ | (((with_reducible refine isCall ?_); first | refine call_b (c2) rfl ?_ ?_ | refine call_d (c2) rfl ?_ | refine call_sb (c2) rfl ?_ ?_ | refine call_s (c2) rfl rfl ?_) <;> try (simp -implicitDefEqProofs only [go_sem, trackD_eq, trackC_eq, GDisk.track, hw1, hc])) | (((with_reducible refine vc_b ?_ ?_) <;> intro _) <;> try (simp -implicitDefEqProofs only [go_sem, trackD_eq, trackC_eq, GDisk.track, hw1, hc])) | simp (disch := omega) only [wrapI, wrapU, shl1, shl1', shl1'', shrN, shrN', and_one] | ((with_reducible refine isVx2 ?_); refine ⟨(_, _), rfl, ?_⟩)
        all_goals first | omega | (simp; done) | (simp; omega) | skip
        all_goals (apply hat; assumption)
    · rw [tracks_len] at hI
      rw [kAt_none.2 hI]
      (try (simp -implicitDefEqProofs only [go_sem])); repeat' first | with_reducible exact True.intro | with_reducible refine And.intro ?_ ?_ | with_reducible intro _ | (((with_reducible refine vc_b ?_ ?_) <;> intro _) <;> try (simp -implicitDefEqProofs only [go_sem])) | simp (disch := omega) only [wrapI, wrapU, shl1, shl1', shl1'', shrN, shrN', and_one] | ((with_reducible refine isVx2 ?_); refine ⟨(_, _), rfl, ?_⟩)
      all_goals first | omega | (simp; done) | (simp; omega) | skip
    · obtain ⟨rfl, rfl, k, h1, h2, rfl⟩ := hI
      rw [kAt_some h1 h2]
      (try (simp -implicitDefEqProofs only [go_sem])); repeat' first | with_reducible exact True.intro | with_reducible refine And.intro ?_ ?_ | with_reducible intro _ | (((with_reducible refine vc_b ?_ ?_) <;> intro _) <;> try (simp -implicitDefEqProofs only [go_sem])) | simp (disch := omega) only [wrapI, wrapU, shl1, shl1', shl1'', shrN, shrN', and_one] | ((with_reducible refine isVx2 ?_); refine ⟨(_, _), rfl, ?_⟩)
      all_goals first | omega | (simp; done) | (simp; omega) | skip
end Go.Pw
