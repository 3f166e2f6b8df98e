/- A part of the proof. -/
import Derived.Test.YtiphmemigdplgaaDoorJournalPC
import Derived.Test.YtiphmemigdplgaaDoorPwVC
import Derived.Test.YtiphmemigdplgaaDoorPgZonesSpec
set_option linter.all false
section
open Go Go.Pw Go.Proofs
namespace Go.Pw
set_option linter.unusedSimpArgs false
set_option linter.unusedVariables false
set_option maxRecDepth 100000
set_option maxHeartbeats 800000
attribute [local congr] cg_pw cg_seqI cg_seqE cg_stepI cg_ev cg_evBin cg_condB cg_condV cg_thenQ cg_blockQ cg_onSome cg_onCells cg_onRow cg_onMap cg_onOpt cg_ghosts cg_ghost cg_evCall cg_part cg_rng cg_guardV cg_frzV cg_frpV cg_ownV cg_owcV cg_occV cg_occX cg_resK cg_res1 cg_yldP cg_rndE cg_onlyN cg_onHist
attribute [local irreducible] IntKind.wrap bitsOp Option.getD and or

theorem zones_in_ret (n lo hi : Int) : Ret E0 F_zones_in [.int .i64 n, .int .i64 lo, .int .i64 hi] (.bool (inZ n lo hi)) := by
  refine ret_of_pw dec_zones_in mixed (by simp) fun hwf => ?_
  rw [enter_eq]; unfold pc_zones_in inZ
  (try (simp -implicitDefEqProofs only [go_sem])); repeat' first | with_reducible exact True.intro | with_reducible refine And.intro ?_ ?_ | with_reducible intro _ | (((with_reducible refine vc_b ?_ ?_) <;> intro _) <;> try (simp -implicitDefEqProofs only [go_sem])) | simp (disch := omega) only [wrapI, wrapU, shl1, shl1', shl1'', shrN, shrN', and_one] 
  all_goals first | omega | (simp_all; done) | (simp_all; omega)

theorem ref01_within_ret (n lo hi : Int) : Ret E0 F_ref01_within [.int .i64 n, .int .i64 lo, .int .i64 hi] (.bool (inZ n lo hi)) := by
  refine ret_of_pw dec_ref01_within mixed (by simp) fun hwf => ?_
  rw [enter_eq]; unfold pc_ref01_within inZ
  (try (simp -implicitDefEqProofs only [go_sem])); repeat' first | with_reducible exact True.intro | with_reducible refine And.intro ?_ ?_ | with_reducible intro _ | (((with_reducible refine vc_b ?_ ?_) <;> intro _) <;> try (simp -implicitDefEqProofs only [go_sem])) | simp (disch := omega) only [wrapI, wrapU, shl1, shl1', shl1'', shrN, shrN', and_one] 
  all_goals first | omega | (simp_all; done) | (simp_all; omega)

theorem zones_Check_1_ret (l h : Int) : Ret E0 F_zones_Check_1 [.agg [.int .i64 l, .int .i64 h]] (.bool (spanOk l h)) := by
  refine ret_of_pw dec_zones_Check_1 mixed (by simp) fun hwf => ?_
  rw [enter_eq]; unfold pc_zones_Check_1 spanOk
  (try (simp -implicitDefEqProofs only [go_sem])); repeat' first | with_reducible exact True.intro | with_reducible refine And.intro ?_ ?_ | with_reducible intro _ | (((with_reducible refine vc_b ?_ ?_) <;> intro _) <;> try (simp -implicitDefEqProofs only [go_sem])) | simp (disch := omega) only [wrapI, wrapU, shl1, shl1', shl1'', shrN, shrN', and_one] 
  all_goals first | omega | (simp_all; done) | (simp_all; omega)

theorem zones_disk_skew_ret (d : GDisk) (b : Bool) : Ret E0 F_zones_disk_skew [diskD d, .bool b] (.int .i64 (if b then d.cskew else d.hskew)) := by
  refine ret_of_pw dec_zones_disk_skew mixed (by simp) fun hwf => ?_
  rw [enter_eq]; unfold pc_zones_disk_skew
  cases b
  · (try (simp -implicitDefEqProofs only [go_sem, diskD_eq, diskC_eq])); repeat' first | with_reducible exact True.intro | with_reducible refine And.intro ?_ ?_ | with_reducible intro _ | (((with_reducible refine vc_b ?_ ?_) <;> intro _) <;> try (simp -implicitDefEqProofs only [go_sem, diskD_eq, diskC_eq])) | simp (disch := omega) only [wrapI, wrapU, shl1, shl1', shl1'', shrN, shrN', and_one] 
  · (try (simp -implicitDefEqProofs only [go_sem, diskD_eq, diskC_eq])); repeat' first | with_reducible exact True.intro | with_reducible refine And.intro ?_ ?_ | with_reducible intro _ | (((with_reducible refine vc_b ?_ ?_) <;> intro _) <;> try (simp -implicitDefEqProofs only [go_sem, diskD_eq, diskC_eq])) | simp (disch := omega) only [wrapI, wrapU, shl1, shl1', shl1'', shrN, shrN', and_one] 

end Go.Pw
end
section
open Go Go.Pw Go.Proofs
namespace Go.Pw
set_option linter.unusedSimpArgs false
set_option linter.unusedVariables false
set_option maxRecDepth 100000
set_option maxHeartbeats 1600000
attribute [local congr] cg_pw cg_seqI cg_seqE cg_stepI cg_ev cg_evBin cg_condB cg_condV cg_thenQ cg_blockQ cg_onSome cg_onCells cg_onRow cg_onMap cg_onOpt cg_ghosts cg_ghost cg_evCall cg_part cg_rng cg_guardV cg_frzV cg_frpV cg_ownV cg_owcV cg_occV cg_occX cg_resK cg_res1 cg_yldP cg_rndE cg_onlyN cg_onHist
attribute [local irreducible] IntKind.wrap bitsOp Option.getD and or

theorem zone_bad {d : GDisk} {i : Int} (h0 : 0 ≤ i ∧ i < d.zones.length) (h : zoneOk d.turn (d.zones[i.toNat]?.getD default) = false) : d.ok = false := by
  unfold GDisk.ok; rw [allZ_bad (j := i.toNat) (by omega) h]; simp
theorem zone_ok {d : GDisk} {i : Int} (h0 : 0 ≤ i ∧ i < d.zones.length) (h3 : ∀ (j : Nat), (j : Int) < i → zoneOk d.turn (d.zones[j]?.getD default) = true) (h : zoneOk d.turn (d.zones[i.toNat]?.getD default) = true) : ∀ (j : Nat), (j : Int) < i + 1 → zoneOk d.turn (d.zones[j]?.getD default) = true := fun j hj => by
  rcases (show (j : Int) < i ∨ j = i.toNat by omega) with h1 | h1
  · exact h3 j h1
  · rw [h1]; exact h

theorem zones_Check_ret (d : GDisk) : Ret E0 F_zones_Check [diskD d] (.int .i64 d.check) := by
  refine ret_of_pw dec_zones_Check mixed (by simp) fun hwf => ?_
  simp only [wf_int, wf_bool, wf_ints, wf_list, wf_agg, wf_ptr, wf_fn, wf_tup, wf_all_cons, wf_all_nil, wf_all_map, inK_i64, maxLen_eq, List.length_map, ints_len, true_and, and_true, diskD_eq, diskC_eq, zpsD_len] at hwf
  rw [enter_eq]; unfold pc_zones_Check GDisk.check
  have hb62 : hasBody E0.P 83 = true := by kernel_rfl
  by_cases ht : inZ d.turn 1 1000 = true
  · have ht2 := inZ_iff.1 ht
    have hw : IntKind.i64.wrap (d.turn - 1) = d.turn - 1 := wrapI _ (by omega)
    (try (simp -implicitDefEqProofs only [go_sem, diskD_eq, diskC_eq, hw, zpsD_len, hb62])); repeat' first | with_reducible exact True.intro | with_reducible refine And.intro ?_ ?_ | with_reducible intro _ | (((with_reducible refine isCall ?_); first | refine call_b (zones_in_ret _ _ _) rfl ?_ ?_ | refine call_d (zones_in_ret _ _ _) rfl ?_ | refine call_sb (zones_in_ret _ _ _) rfl ?_ ?_ | refine call_s (zones_in_ret _ _ _) rfl rfl ?_ | refine call_b (zones_Check_1_ret _ _) rfl ?_ ?_ | refine call_d (zones_Check_1_ret _ _) rfl ?_ | refine call_sb (zones_Check_1_ret _ _) rfl ?_ ?_ | refine call_s (zones_Check_1_ret _ _) rfl rfl ?_) <;> try (simp -implicitDefEqProofs only [go_sem, diskD_eq, diskC_eq, hw, zpsD_len, hb62])) | (((with_reducible refine vc_b ?_ ?_) <;> intro _) <;> try (simp -implicitDefEqProofs only [go_sem, diskD_eq, diskC_eq, hw, zpsD_len, hb62])) | simp (disch := omega) only [wrapI, wrapU, shl1, shl1', shl1'', shrN, shrN', and_one] | ((with_reducible refine isEx ?_); refine ⟨_, rfl, ?_, ?_⟩)
    all_goals (try (simp_all [GDisk.ok, GDisk.head]; done))
    refine pw_loopS (α := Int) (l0 := ?l1) (m0 := ?m1) (fun x => [(48, .d (.int .i64 x))]) (fun x => []) (fun x => 0 ≤ x ∧ x ≤ d.zones.length ∧ ∀ (j : Nat), (j : Int) < x → zoneOk d.turn (d.zones[j]?.getD default) = true) (fun x => (d.zones.length - x).toNat) ?a1_0 ?h01 ?he1 ?he21 ?hI1 ?step1
    case h01 => (simp -implicitDefEqProofs only [go_sem, zpsD_len, diskC_eq]; rfl)
    case he1 => rfl
    case he21 => rfl
    case' step1 => (rintro i hI; try dsimp only at hI)
    case' hI1 => try dsimp only
    · exact ⟨by omega, by omega, fun j hj => by omega⟩
    · obtain ⟨h1, h2, h3⟩ := hI
      by_cases hi : i < d.zones.length
      · have hbad := zone_bad (d := d) ⟨h1, hi⟩
        have hgood := zone_ok (d := d) ⟨h1, hi⟩ h3
        have hi1 : IntKind.i64.wrap (i + 1) = i + 1 := wrapI _ (by omega)
        obtain ⟨w, hw2⟩ : ∃ w, d.zones[i.toNat]?.getD default = w := ⟨_, rfl⟩
        rw [hw2] at hbad hgood
        have hwo : zoneOk d.turn w = (inZ w.1 1 20 && inZ w.2 1 16 && decide (d.turn.tmod w.2 = 0)) := rfl
        have k1 := zones_in_ret w.1 1 20
        have k2 := zones_in_ret w.2 1 16
        cases b1 : inZ w.1 1 20 with
        | false =>
          rw [b1] at k1
          rw [hbad (by rw [hwo, b1]; simp)]
          (try (simp -implicitDefEqProofs only [go_sem, zpsD_len, onSome_zps, hw2, zpD_eq, diskC_eq, zpsD_unif])); repeat' first | with_reducible exact True.intro | with_reducible refine And.intro ?_ ?_ | with_reducible intro _ | (((with_reducible refine isCall ?_); first | refine call_b (k1) rfl ?_ ?_ | refine call_d (k1) rfl ?_ | refine call_sb (k1) rfl ?_ ?_ | refine call_s (k1) rfl rfl ?_) <;> try (simp -implicitDefEqProofs only [go_sem, zpsD_len, onSome_zps, hw2, zpD_eq, diskC_eq, zpsD_unif])) | (((with_reducible refine vc_b ?_ ?_) <;> intro _) <;> try (simp -implicitDefEqProofs only [go_sem, zpsD_len, onSome_zps, hw2, zpD_eq, diskC_eq, zpsD_unif])) | simp (disch := omega) only [wrapI, wrapU, shl1, shl1', shl1'', shrN, shrN', and_one] | ((with_reducible refine isEx ?_); refine ⟨_, rfl, ?_, ?_⟩)
          all_goals first | omega | (simp; done) | (simp; omega) | skip
        | true =>
          rw [b1] at k1
          cases b2 : inZ w.2 1 16 with
          | false =>
            rw [b2] at k2
            rw [hbad (by rw [hwo, b2]; simp)]
            (try (simp -implicitDefEqProofs only [go_sem, zpsD_len, onSome_zps, hw2, zpD_eq, diskC_eq, zpsD_unif])); repeat' first | with_reducible exact True.intro | with_reducible refine And.intro ?_ ?_ | with_reducible intro _ | (((with_reducible refine isCall ?_); first | refine call_b (k1) rfl ?_ ?_ | refine call_d (k1) rfl ?_ | refine call_sb (k1) rfl ?_ ?_ | refine call_s (k1) rfl rfl ?_ | refine call_b (k2) rfl ?_ ?_ | refine call_d (k2) rfl ?_ | refine call_sb (k2) rfl ?_ ?_ | refine call_s (k2) rfl rfl ?_) <;> try (simp -implicitDefEqProofs only [go_sem, zpsD_len, onSome_zps, hw2, zpD_eq, diskC_eq, zpsD_unif])) | (((with_reducible refine vc_b ?_ ?_) <;> intro _) <;> try (simp -implicitDefEqProofs only [go_sem, zpsD_len, onSome_zps, hw2, zpD_eq, diskC_eq, zpsD_unif])) | simp (disch := omega) only [wrapI, wrapU, shl1, shl1', shl1'', shrN, shrN', and_one] | ((with_reducible refine isEx ?_); refine ⟨_, rfl, ?_, ?_⟩)
            all_goals first | omega | (simp; done) | (simp; omega) | skip
          | true =>
            rw [b2] at k2
            have hb2 := inZ_iff.1 b2
            have hm : IntKind.i64.wrap (d.turn.tmod w.2) = d.turn.tmod w.2 := wrapI _ (by
              have := Int.tmod_nonneg w.2 (a := d.turn) (by omega)
              have := Int.tmod_lt_of_pos d.turn (b := w.2) (by omega)
              omega)
            have hne : ¬ w.2 = 0 := by omega
            by_cases hz : d.turn.tmod w.2 = 0
            · have hok := hgood (by rw [hwo, b1, b2]; simp [hz])
              (try (simp -implicitDefEqProofs only [go_sem, zpsD_len, onSome_zps, hw2, zpD_eq, diskC_eq, zpsD_unif, hm, hz, hne])); repeat' first | with_reducible exact True.intro | with_reducible refine And.intro ?_ ?_ | with_reducible intro _ | (((with_reducible refine isCall ?_); first | refine call_b (k1) rfl ?_ ?_ | refine call_d (k1) rfl ?_ | refine call_sb (k1) rfl ?_ ?_ | refine call_s (k1) rfl rfl ?_ | refine call_b (k2) rfl ?_ ?_ | refine call_d (k2) rfl ?_ | refine call_sb (k2) rfl ?_ ?_ | refine call_s (k2) rfl rfl ?_) <;> try (simp -implicitDefEqProofs only [go_sem, zpsD_len, onSome_zps, hw2, zpD_eq, diskC_eq, zpsD_unif, hm, hz, hne])) | (((with_reducible refine vc_b ?_ ?_) <;> intro _) <;> try (simp -implicitDefEqProofs only [go_sem, zpsD_len, onSome_zps, hw2, zpD_eq, diskC_eq, zpsD_unif, hm, hz, hne])) | simp (disch := omega) only [wrapI, wrapU, shl1, shl1', shl1'', shrN, shrN', and_one] | ((with_reducible refine isEx ?_); refine ⟨_, rfl, ?_, ?_⟩)
              all_goals first | omega | (simp; done) | (simp; omega) | skip
              all_goals (apply hok; assumption)
            · rw [hbad (by rw [hwo]; simp [hz])]
              (try (simp -implicitDefEqProofs only [go_sem, zpsD_len, onSome_zps, hw2, zpD_eq, diskC_eq, zpsD_unif, hm, hz, hne])); repeat' first | with_reducible exact True.intro | with_reducible refine And.intro ?_ ?_ | with_reducible intro _ | (((with_reducible refine isCall ?_); first | refine call_b (k1) rfl ?_ ?_ | refine call_d (k1) rfl ?_ | refine call_sb (k1) rfl ?_ ?_ | refine call_s (k1) rfl rfl ?_ | refine call_b (k2) rfl ?_ ?_ | refine call_d (k2) rfl ?_ | refine call_sb (k2) rfl ?_ ?_ | refine call_s (k2) rfl rfl ?_) <;> try (simp -implicitDefEqProofs only [go_sem, zpsD_len, onSome_zps, hw2, zpD_eq, diskC_eq, zpsD_unif, hm, hz, hne])) | (((with_reducible refine vc_b ?_ ?_) <;> intro _) <;> try (simp -implicitDefEqProofs only [go_sem, zpsD_len, onSome_zps, hw2, zpD_eq, diskC_eq, zpsD_unif, hm, hz, hne])) | simp (disch := omega) only [wrapI, wrapU, shl1, shl1', shl1'', shrN, shrN', and_one] | ((with_reducible refine isEx ?_); refine ⟨_, rfl, ?_, ?_⟩)
              all_goals first | omega | (simp; done) | (simp; omega) | skip
      · have hall : d.zones.all (zoneOk d.turn) = true := allZ_iff.2 fun j hj => h3 j (by omega)
        (try (simp -implicitDefEqProofs only [go_sem, zpsD_len, diskC_eq, hi])); repeat' first | with_reducible exact True.intro | with_reducible refine And.intro ?_ ?_ | with_reducible intro _ | (((with_reducible refine vc_b ?_ ?_) <;> intro _) <;> try (simp -implicitDefEqProofs only [go_sem, zpsD_len, diskC_eq, hi])) | simp (disch := omega) only [wrapI, wrapU, shl1, shl1', shl1'', shrN, shrN', and_one] | ((with_reducible refine isEx ?_); refine ⟨_, rfl, ?_, ?_⟩)
        all_goals (simp_all [GDisk.ok, GDisk.head])
  · have ht' : inZ d.turn 1 1000 = false := by simpa using ht
    have hbad : d.ok = false := by simp [GDisk.ok, GDisk.head, ht']
    have k0 := zones_in_ret d.turn 1 1000
    rw [ht'] at k0
    rw [hbad]
    (try (simp -implicitDefEqProofs only [go_sem, diskD_eq, diskC_eq, hb62])); repeat' first | with_reducible exact True.intro | with_reducible refine And.intro ?_ ?_ | with_reducible intro _ | (((with_reducible refine isCall ?_); first | refine call_b (k0) rfl ?_ ?_ | refine call_d (k0) rfl ?_ | refine call_sb (k0) rfl ?_ ?_ | refine call_s (k0) rfl rfl ?_ | refine call_b (zones_in_ret _ _ _) rfl ?_ ?_ | refine call_d (zones_in_ret _ _ _) rfl ?_ | refine call_sb (zones_in_ret _ _ _) rfl ?_ ?_ | refine call_s (zones_in_ret _ _ _) rfl rfl ?_) <;> try (simp -implicitDefEqProofs only [go_sem, diskD_eq, diskC_eq, hb62])) | (((with_reducible refine vc_b ?_ ?_) <;> intro _) <;> try (simp -implicitDefEqProofs only [go_sem, diskD_eq, diskC_eq, hb62])) | simp (disch := omega) only [wrapI, wrapU, shl1, shl1', shl1'', shrN, shrN', and_one] | ((with_reducible refine isEx ?_); refine ⟨_, rfl, ?_, ?_⟩)
    all_goals first | omega | (simp; done) | (simp; omega) | skip

theorem ref01_Check_ret (d : GDisk) : Ret E0 F_ref01_Check [diskD d] (.int .i64 d.check) := by
  refine ret_of_pw dec_ref01_Check mixed (by simp) fun hwf => ?_
  simp only [wf_int, wf_bool, wf_ints, wf_list, wf_agg, wf_ptr, wf_fn, wf_tup, wf_all_cons, wf_all_nil, wf_all_map, inK_i64, maxLen_eq, List.length_map, ints_len, true_and, and_true, diskD_eq, diskC_eq, zpsD_len] at hwf
  rw [enter_eq]; unfold pc_ref01_Check GDisk.check
  by_cases ht : inZ d.turn 1 1000 = true
  · have ht2 := inZ_iff.1 ht
    have hw : IntKind.i64.wrap (d.turn - 1) = d.turn - 1 := wrapI _ (by omega)
    cases hh : d.head with
    | false =>
      have hbad : d.ok = false := by simp [GDisk.ok, hh]
      rw [hbad]
      (try (simp -implicitDefEqProofs only [go_sem, diskD_eq, diskC_eq, hw, zpsD_len])); repeat' first | with_reducible exact True.intro | with_reducible refine And.intro ?_ ?_ | with_reducible intro _ | (((with_reducible refine isCall ?_); first | refine call_b (ref01_within_ret _ _ _) rfl ?_ ?_ | refine call_d (ref01_within_ret _ _ _) rfl ?_ | refine call_sb (ref01_within_ret _ _ _) rfl ?_ ?_ | refine call_s (ref01_within_ret _ _ _) rfl rfl ?_) <;> try (simp -implicitDefEqProofs only [go_sem, diskD_eq, diskC_eq, hw, zpsD_len])) | (((with_reducible refine vc_b ?_ ?_) <;> intro _) <;> try (simp -implicitDefEqProofs only [go_sem, diskD_eq, diskC_eq, hw, zpsD_len])) | simp (disch := omega) only [wrapI, wrapU, shl1, shl1', shl1'', shrN, shrN', and_one] | ((with_reducible refine isEx ?_); refine ⟨_, rfl, ?_, ?_⟩)
      all_goals (simp_all [GDisk.head]; done)
    | true =>
    have hd := GDisk.head_iff.1 hh
    have q1 : inZ d.heads 1 4 = true := inZ_iff.2 (by omega)
    have q3 : inZ d.zones.length 1 4 = true := inZ_iff.2 (by omega)
    have q4 : inZ d.hskew 0 (d.turn - 1) = true := inZ_iff.2 (by omega)
    have q5 : inZ d.cskew 0 (d.turn - 1) = true := inZ_iff.2 (by omega)
    have r1 := ref01_within_ret d.heads 1 4
    have r2 := ref01_within_ret d.turn 1 1000
    have r3 := ref01_within_ret d.zones.length 1 4
    have r4 := ref01_within_ret d.hskew 0 (d.turn - 1)
    have r5 := ref01_within_ret d.cskew 0 (d.turn - 1)
    rw [q1] at r1; rw [ht] at r2; rw [q3] at r3; rw [q4] at r4; rw [q5] at r5
    (try (simp -implicitDefEqProofs only [go_sem, diskD_eq, diskC_eq, hw, zpsD_len])); repeat' first | with_reducible exact True.intro | with_reducible refine And.intro ?_ ?_ | with_reducible intro _ | (((with_reducible refine isCall ?_); first | refine call_b (r1) rfl ?_ ?_ | refine call_d (r1) rfl ?_ | refine call_sb (r1) rfl ?_ ?_ | refine call_s (r1) rfl rfl ?_ | refine call_b (r2) rfl ?_ ?_ | refine call_d (r2) rfl ?_ | refine call_sb (r2) rfl ?_ ?_ | refine call_s (r2) rfl rfl ?_ | refine call_b (r3) rfl ?_ ?_ | refine call_d (r3) rfl ?_ | refine call_sb (r3) rfl ?_ ?_ | refine call_s (r3) rfl rfl ?_ | refine call_b (r4) rfl ?_ ?_ | refine call_d (r4) rfl ?_ | refine call_sb (r4) rfl ?_ ?_ | refine call_s (r4) rfl rfl ?_ | refine call_b (r5) rfl ?_ ?_ | refine call_d (r5) rfl ?_ | refine call_sb (r5) rfl ?_ ?_ | refine call_s (r5) rfl rfl ?_) <;> try (simp -implicitDefEqProofs only [go_sem, diskD_eq, diskC_eq, hw, zpsD_len])) | (((with_reducible refine vc_b ?_ ?_) <;> intro _) <;> try (simp -implicitDefEqProofs only [go_sem, diskD_eq, diskC_eq, hw, zpsD_len])) | simp (disch := omega) only [wrapI, wrapU, shl1, shl1', shl1'', shrN, shrN', and_one] | ((with_reducible refine isEx ?_); refine ⟨_, rfl, ?_, ?_⟩)
    all_goals (try (simp_all; done))
    refine pw_loopS (α := Int) (l0 := ?l2) (m0 := ?m2) (fun x => [(3, .d (.int .i64 x))]) (fun x => []) (fun x => 0 ≤ x ∧ x ≤ d.zones.length ∧ ∀ (j : Nat), (j : Int) < x → zoneOk d.turn (d.zones[j]?.getD default) = true) (fun x => (d.zones.length - x).toNat) ?a2_0 ?h02 ?he2 ?he22 ?hI2 ?step2
    case h02 => (simp -implicitDefEqProofs only [go_sem, zpsD_len, diskC_eq]; rfl)
    case he2 => rfl
    case he22 => rfl
    case' step2 => (rintro i hI; try dsimp only at hI)
    case' hI2 => try dsimp only
    · exact ⟨by omega, by omega, fun j hj => by omega⟩
    · obtain ⟨h1, h2, h3⟩ := hI
      by_cases hi : i < d.zones.length
      · have hbad := zone_bad (d := d) ⟨h1, hi⟩
        have hgood := zone_ok (d := d) ⟨h1, hi⟩ h3
        have hi1 : IntKind.i64.wrap (i + 1) = i + 1 := wrapI _ (by omega)
        obtain ⟨w, hw2⟩ : ∃ w, d.zones[i.toNat]?.getD default = w := ⟨_, rfl⟩
        rw [hw2] at hbad hgood
        have hwo : zoneOk d.turn w = (inZ w.1 1 20 && inZ w.2 1 16 && decide (d.turn.tmod w.2 = 0)) := rfl
        have k1 := ref01_within_ret w.1 1 20
        have k2 := ref01_within_ret w.2 1 16
        cases b1 : inZ w.1 1 20 with
        | false =>
          rw [b1] at k1
          rw [hbad (by rw [hwo, b1]; simp)]
          (try (simp -implicitDefEqProofs only [go_sem, zpsD_len, onSome_zps, hw2, zpD_eq, diskC_eq, zpsD_unif])); repeat' first | with_reducible exact True.intro | with_reducible refine And.intro ?_ ?_ | with_reducible intro _ | (((with_reducible refine isCall ?_); first | refine call_b (k1) rfl ?_ ?_ | refine call_d (k1) rfl ?_ | refine call_sb (k1) rfl ?_ ?_ | refine call_s (k1) rfl rfl ?_) <;> try (simp -implicitDefEqProofs only [go_sem, zpsD_len, onSome_zps, hw2, zpD_eq, diskC_eq, zpsD_unif])) | (((with_reducible refine vc_b ?_ ?_) <;> intro _) <;> try (simp -implicitDefEqProofs only [go_sem, zpsD_len, onSome_zps, hw2, zpD_eq, diskC_eq, zpsD_unif])) | simp (disch := omega) only [wrapI, wrapU, shl1, shl1', shl1'', shrN, shrN', and_one] | ((with_reducible refine isEx ?_); refine ⟨_, rfl, ?_, ?_⟩)
          all_goals first | omega | (simp; done) | (simp; omega) | skip
        | true =>
          rw [b1] at k1
          cases b2 : inZ w.2 1 16 with
          | false =>
            rw [b2] at k2
            rw [hbad (by rw [hwo, b2]; simp)]
            (try (simp -implicitDefEqProofs only [go_sem, zpsD_len, onSome_zps, hw2, zpD_eq, diskC_eq, zpsD_unif])); repeat' first | with_reducible exact True.intro | with_reducible refine And.intro ?_ ?_ | with_reducible intro _ | (((with_reducible refine isCall ?_); first | refine call_b (k1) rfl ?_ ?_ | refine call_d (k1) rfl ?_ | refine call_sb (k1) rfl ?_ ?_ | refine call_s (k1) rfl rfl ?_ | refine call_b (k2) rfl ?_ ?_ | refine call_d (k2) rfl ?_ | refine call_sb (k2) rfl ?_ ?_ | refine call_s (k2) rfl rfl ?_) <;> try (simp -implicitDefEqProofs only [go_sem, zpsD_len, onSome_zps, hw2, zpD_eq, diskC_eq, zpsD_unif])) | (((with_reducible refine vc_b ?_ ?_) <;> intro _) <;> try (simp -implicitDefEqProofs only [go_sem, zpsD_len, onSome_zps, hw2, zpD_eq, diskC_eq, zpsD_unif])) | simp (disch := omega) only [wrapI, wrapU, shl1, shl1', shl1'', shrN, shrN', and_one] | ((with_reducible refine isEx ?_); refine ⟨_, rfl, ?_, ?_⟩)
            all_goals first | omega | (simp; done) | (simp; omega) | skip
          | true =>
            rw [b2] at k2
            have hb2 := inZ_iff.1 b2
            have hm : IntKind.i64.wrap (d.turn.tmod w.2) = d.turn.tmod w.2 := wrapI _ (by
              have := Int.tmod_nonneg w.2 (a := d.turn) (by omega)
              have := Int.tmod_lt_of_pos d.turn (b := w.2) (by omega)
              omega)
            have hne : ¬ w.2 = 0 := by omega
            by_cases hz : d.turn.tmod w.2 = 0
            · have hok := hgood (by rw [hwo, b1, b2]; simp [hz])
              (try (simp -implicitDefEqProofs only [go_sem, zpsD_len, onSome_zps, hw2, zpD_eq, diskC_eq, zpsD_unif, hm, hz, hne])); repeat' first | with_reducible exact True.intro | with_reducible refine And.intro ?_ ?_ | with_reducible intro _ | (((with_reducible refine isCall ?_); first | refine call_b (k1) rfl ?_ ?_ | refine call_d (k1) rfl ?_ | refine call_sb (k1) rfl ?_ ?_ | refine call_s (k1) rfl rfl ?_ | refine call_b (k2) rfl ?_ ?_ | refine call_d (k2) rfl ?_ | refine call_sb (k2) rfl ?_ ?_ | refine call_s (k2) rfl rfl ?_) <;> try (simp -implicitDefEqProofs only [go_sem, zpsD_len, onSome_zps, hw2, zpD_eq, diskC_eq, zpsD_unif, hm, hz, hne])) | (((with_reducible refine vc_b ?_ ?_) <;> intro _) <;> try (simp -implicitDefEqProofs only [go_sem, zpsD_len, onSome_zps, hw2, zpD_eq, diskC_eq, zpsD_unif, hm, hz, hne])) | simp (disch := omega) only [wrapI, wrapU, shl1, shl1', shl1'', shrN, shrN', and_one] | ((with_reducible refine isEx ?_); refine ⟨_, rfl, ?_, ?_⟩)
              all_goals first | omega | (simp; done) | (simp; omega) | skip
              all_goals (apply hok; assumption)
            · rw [hbad (by rw [hwo]; simp [hz])]
              (try (simp -implicitDefEqProofs only [go_sem, zpsD_len, onSome_zps, hw2, zpD_eq, diskC_eq, zpsD_unif, hm, hz, hne])); repeat' first | with_reducible exact True.intro | with_reducible refine And.intro ?_ ?_ | with_reducible intro _ | (((with_reducible refine isCall ?_); first | refine call_b (k1) rfl ?_ ?_ | refine call_d (k1) rfl ?_ | refine call_sb (k1) rfl ?_ ?_ | refine call_s (k1) rfl rfl ?_ | refine call_b (k2) rfl ?_ ?_ | refine call_d (k2) rfl ?_ | refine call_sb (k2) rfl ?_ ?_ | refine call_s (k2) rfl rfl ?_) <;> try (simp -implicitDefEqProofs only [go_sem, zpsD_len, onSome_zps, hw2, zpD_eq, diskC_eq, zpsD_unif, hm, hz, hne])) | (((with_reducible refine vc_b ?_ ?_) <;> intro _) <;> try (simp -implicitDefEqProofs only [go_sem, zpsD_len, onSome_zps, hw2, zpD_eq, diskC_eq, zpsD_unif, hm, hz, hne])) | simp (disch := omega) only [wrapI, wrapU, shl1, shl1', shl1'', shrN, shrN', and_one] | ((with_reducible refine isEx ?_); refine ⟨_, rfl, ?_, ?_⟩)
              all_goals first | omega | (simp; done) | (simp; omega) | skip
      · have hall : d.zones.all (zoneOk d.turn) = true := allZ_iff.2 fun j hj => h3 j (by omega)
        have hok : d.ok = (spanOk d.hlo d.hhi && spanOk d.clo d.chi) := by unfold GDisk.ok; rw [hall, hh]; simp
        rw [hok]; unfold spanOk
        (try (simp -implicitDefEqProofs only [go_sem, zpsD_len, diskC_eq, hi])); repeat' first | with_reducible exact True.intro | with_reducible refine And.intro ?_ ?_ | with_reducible intro _ | (((with_reducible refine vc_b ?_ ?_) <;> intro _) <;> try (simp -implicitDefEqProofs only [go_sem, zpsD_len, diskC_eq, hi])) | simp (disch := omega) only [wrapI, wrapU, shl1, shl1', shl1'', shrN, shrN', and_one] | ((with_reducible refine isEx ?_); refine ⟨_, rfl, ?_, ?_⟩)
        all_goals first | omega | (simp_all; done) | (simp; omega) | skip
  · have ht' : inZ d.turn 1 1000 = false := by simpa using ht
    have hbad : d.ok = false := by simp [GDisk.ok, GDisk.head, ht']
    have k0 := ref01_within_ret d.turn 1 1000
    rw [ht'] at k0
    rw [hbad]
    (try (simp -implicitDefEqProofs only [go_sem, diskD_eq, diskC_eq])); repeat' first | with_reducible exact True.intro | with_reducible refine And.intro ?_ ?_ | with_reducible intro _ | (((with_reducible refine isCall ?_); first | refine call_b (k0) rfl ?_ ?_ | refine call_d (k0) rfl ?_ | refine call_sb (k0) rfl ?_ ?_ | refine call_s (k0) rfl rfl ?_ | refine call_b (ref01_within_ret _ _ _) rfl ?_ ?_ | refine call_d (ref01_within_ret _ _ _) rfl ?_ | refine call_sb (ref01_within_ret _ _ _) rfl ?_ ?_ | refine call_s (ref01_within_ret _ _ _) rfl rfl ?_) <;> try (simp -implicitDefEqProofs only [go_sem, diskD_eq, diskC_eq])) | (((with_reducible refine vc_b ?_ ?_) <;> intro _) <;> try (simp -implicitDefEqProofs only [go_sem, diskD_eq, diskC_eq])) | simp (disch := omega) only [wrapI, wrapU, shl1, shl1', shl1'', shrN, shrN', and_one] | ((with_reducible refine isEx ?_); refine ⟨_, rfl, ?_, ?_⟩)
    all_goals first | omega | (simp; done) | (simp; omega) | skip

end Go.Pw
end
