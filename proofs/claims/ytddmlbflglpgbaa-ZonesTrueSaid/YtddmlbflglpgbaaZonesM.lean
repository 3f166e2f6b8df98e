/- A part of the proof. -/
import Derived.Test.YtddmlbflglpgbaaZonesL
set_option linter.all false
open Go Go.Pw Go.Proofs
namespace Go.Pw
set_option linter.unusedSimpArgs false
set_option linter.unusedVariables false
set_option maxRecDepth 100000
set_option maxHeartbeats 3200000
/-- What stands after some pairs were tried. -/
def Tried (F H : Nat → Int) (V : Nat → Nat → Prop) (step own : Int) (none : Prop) (hd cy be : Int) : Prop :=
  (none ∧ hd = 0 ∧ cy = 0 ∧ be = -1) ∨ (¬ none ∧ ∃ A B, BestP F H V A B ∧ hd = A * step ∧ cy = B * step ∧ be = own + F A + H B)
theorem Tried.next {F H : Nat → Int} {V : Nat → Nat → Prop} {step own : Int} {none : Prop} {hd cy be : Int} (h : Tried F H V step own none hd cy be) {i j : Nat} (hn : ∀ x y, V x y → x < i ∨ (x = i ∧ y < j)) (he : none → ∀ x y, ¬ V x y)
    (hb : ∀ x y, V x y → 0 ≤ own + F x + H y) (hij : 0 ≤ own + F i + H j) :
    ((be < 0 ∨ own + F i + H j < be) → Tried F H (fun x y => V x y ∨ (x = i ∧ y = j)) step own False (i * step) (j * step) (own + F i + H j)) ∧
    (¬ be < 0 → ¬ own + F i + H j < be → Tried F H (fun x y => V x y ∨ (x = i ∧ y = j)) step own False hd cy be) := by
  rcases h with ⟨h0, rfl, rfl, rfl⟩ | ⟨h0, A, B, h1, h2, h3, h4⟩
  · refine ⟨fun _ => .inr ⟨id, i, j, (BestP.first (f1 := F) (f2 := H)).cong fun x y => ?_, rfl, rfl, rfl⟩, fun hh => absurd (by omega) hh⟩
    constructor
    · rintro (hv | hv)
      · exact absurd hv (he h0 x y)
      · exact hv
    · exact .inr
  · have hAB := hb A B h1.mem
    obtain ⟨k1, k2⟩ := h1.step hn
    exact ⟨fun hh => .inr ⟨id, i, j, k1 (by omega), rfl, rfl, rfl⟩, fun _ hh => .inr ⟨id, A, B, k2 (by omega), h2, h3, h4⟩⟩
theorem Tried.cong {F H : Nat → Int} {V W : Nat → Nat → Prop} {step own : Int} {n m : Prop} {hd cy be : Int} (h : Tried F H V step own n hd cy be) (hw : ∀ x y, W x y ↔ V x y) (hn : n ↔ m) : Tried F H W step own m hd cy be := by
  rcases h with ⟨h0, h1⟩ | ⟨h0, A, B, h1, h2⟩
  · exact .inl ⟨hn.1 h0, h1⟩
  · exact .inr ⟨fun hm => h0 (hn.2 hm), A, B, h1.cong hw, h2⟩
attribute [local congr] cg_pw cg_seqI cg_seqE cg_stepI cg_ev cg_evBin cg_condB cg_condV cg_thenQ cg_blockQ cg_onSome cg_onCells cg_onRow cg_onMap cg_onOpt cg_ghosts cg_ghost cg_evCall cg_part cg_rng cg_guardV cg_frzV cg_frpV cg_ownV cg_owcV cg_occV cg_occX cg_resK cg_res1 cg_yldP cg_rndE cg_onlyN cg_onHist
attribute [local irreducible] IntKind.wrap bitsOp Option.getD and or

theorem ref01_Skews_ret (d : GDisk) (step : Int) : Ret E0 F_ref01_Skews [diskD d, .int .i64 step] (.tup [.int .i64 (d.skR step).1, .int .i64 (d.skR step).2.1, .int .i64 (d.skR step).2.2.1, .int .i64 (d.skR step).2.2.2]) := by
  refine ret_of_pw dec_ref01_Skews mixed (by simp) fun hwf => ?_
  have c1 := ref01_Check_ret d
  rw [enter_eq]; unfold pc_ref01_Skews
  unfold GDisk.check at c1
  unfold GDisk.skR
  cases h : d.ok with
  | false =>
    rw [h] at c1
    (try (simp -implicitDefEqProofs only [go_sem, diskD_eq, diskC_eq])); repeat' first | with_reducible exact True.intro | with_reducible refine And.intro ?_ ?_ | with_reducible intro _ | (((with_reducible refine isCall ?_); first | refine call_b (c1) rfl ?_ ?_ | refine call_d (c1) rfl ?_ | refine call_sb (c1) rfl ?_ ?_ | refine call_s (c1) rfl rfl ?_) <;> try (simp -implicitDefEqProofs only [go_sem, diskD_eq, diskC_eq])) | (((with_reducible refine vc_b ?_ ?_) <;> intro _) <;> try (simp -implicitDefEqProofs only [go_sem, diskD_eq, diskC_eq])) | simp (disch := omega) only [wrapI, wrapU, shl1, shl1', shl1'', shrN, shrN', and_one] | ((with_reducible refine isEx4 ?_); refine ⟨(_, _, _, _), rfl, ?_, ?_⟩) | ((with_reducible refine isEx3 ?_); refine ⟨(_, _, _), rfl, ?_, ?_⟩)
    all_goals first | omega | (simp; done) | (simp; omega) | skip
  | true =>
  rw [h] at c1
  have c2 := ref01_within_ret step 1 d.turn
  cases hb : inZ step 1 d.turn with
  | false =>
    rw [hb] at c2
    (try (simp -implicitDefEqProofs only [go_sem, diskD_eq, diskC_eq])); repeat' first | with_reducible exact True.intro | with_reducible refine And.intro ?_ ?_ | with_reducible intro _ | (((with_reducible refine isCall ?_); first | refine call_b (c1) rfl ?_ ?_ | refine call_d (c1) rfl ?_ | refine call_sb (c1) rfl ?_ ?_ | refine call_s (c1) rfl rfl ?_ | refine call_b (c2) rfl ?_ ?_ | refine call_d (c2) rfl ?_ | refine call_sb (c2) rfl ?_ ?_ | refine call_s (c2) rfl rfl ?_) <;> try (simp -implicitDefEqProofs only [go_sem, diskD_eq, diskC_eq])) | (((with_reducible refine vc_b ?_ ?_) <;> intro _) <;> try (simp -implicitDefEqProofs only [go_sem, diskD_eq, diskC_eq])) | simp (disch := omega) only [wrapI, wrapU, shl1, shl1', shl1'', shrN, shrN', and_one] | ((with_reducible refine isEx4 ?_); refine ⟨(_, _, _, _), rfl, ?_, ?_⟩) | ((with_reducible refine isEx3 ?_); refine ⟨(_, _, _), rfl, ?_, ?_⟩)
    all_goals first | omega | (simp; done) | (simp; omega) | skip
  | true =>
  rw [hb] at c2
  have hst := inZ_iff.1 hb
  have g := good_of h
  have hsz := size_bound g
  have t1 := g.t1; have t2 := g.t2; have g1 := g.h1; have g2 := g.h2
  have s1 := g.s1; have s2 := g.s2; have s3 := g.s3; have s4 := g.s4; have s5 := g.s5; have s6 := g.s6
  have c3 := ref01_Count_ret d h
  have c4 := ref01_Switches_ret d h 0 d.size (by omega) (by omega) (by omega)
  have c5 := ref01_Cylinders_ret d h
  have hcy := g.cyls
  have b0 := ticksR_bound g 0 d.size.toNat
  have b1 := swR_bound (d := d) 1 0 d.size.toNat
  have b2 := swR_bound (d := d) 2 0 d.size.toNat
  have hM := stepsN_iff (t := d.turn) (s := step) hst.1 t1
  have hMp := stepsN_pos (t := d.turn) (s := step) hst.1 t1
  have f1b : ∀ j, j < stepsN d.turn step → 0 ≤ d.F1 step j ∧ d.F1 step j ≤ 2001000 * 5120 := fun j hj => (skF_bound g (hi := d.hhi) (sw := d.sw1) (by omega) (by unfold GDisk.sw1; omega) hst.1 hj).2.2
  have f2b : ∀ j, j < stepsN d.turn step → 0 ≤ d.F2 step j ∧ d.F2 step j ≤ 2001000 * 5120 := fun j hj => (skF_bound g (hi := d.chi) (sw := d.sw2) (by omega) (by unfold GDisk.sw2; omega) hst.1 hj).2.2
  have f1e : ∀ j : Nat, d.sw1 * gapV d.turn (j * step) d.hhi = d.F1 step j := fun j => Int.mul_comm _ _
  have f2e : ∀ j : Nat, d.sw2 * gapV d.turn (j * step) d.chi = d.F2 step j := fun j => Int.mul_comm _ _
  have hfin : ∀ A B, BestP (d.F1 step) (d.F2 step) (fun x y => x < stepsN d.turn step ∧ y < stepsN d.turn step) A B → A = d.A1 step ∧ B = d.A2 step := fun A B hh => hh.eq hMp
  have hown := ticks_all g
  have m1 : 0 ≤ (d.cyls : Int) * d.heads ∧ (d.cyls : Int) * d.heads ≤ 80 * 4 := ⟨Int.mul_nonneg (by omega) (by omega), Int.mul_le_mul (by omega) (by omega) (by omega) (by omega)⟩
  have w1 : IntKind.i64.wrap ((d.cyls : Int) * d.heads) = d.cyls * d.heads := wrapI _ (by omega)
  have w2 : IntKind.i64.wrap ((d.cyls : Int) * d.heads * d.turn) = d.ticksR 0 d.size.toNat := by rw [← hown]; exact wrapI _ (by omega)
  have hg1 : ∀ i j : Nat, i < stepsN d.turn step → j < stepsN d.turn step → Ret E0 F_ref01_Gap [diskD (d.skews (i * step) (j * step)), .int .i64 1, .int .i64 d.hhi] (.int .i64 (gapV d.turn (i * step) d.hhi)) ∧
      Ret E0 F_ref01_Gap [diskD (d.skews (i * step) (j * step)), .int .i64 2, .int .i64 d.chi] (.int .i64 (gapV d.turn (j * step) d.chi)) := fun i j hi hj => by
    have q1 := (skF_bound g (hi := d.hhi) (sw := 0) (by omega) (by omega) hst.1 hi).1
    have q2 := (skF_bound g (hi := d.hhi) (sw := 0) (by omega) (by omega) hst.1 hj).1
    have g' := good_of (skews_ok h q1 q2)
    have r1 := ref01_Gap_ret (d.skews (i * step) (j * step)) g' 1 d.hhi (.inl rfl) (by omega)
    have r2 := ref01_Gap_ret (d.skews (i * step) (j * step)) g' 2 d.chi (.inr rfl) (by omega)
    unfold GDisk.gapK at r1 r2
    exact ⟨r1, r2⟩
  have hkl := kinds_len d 0 (d.size.toNat - 1)
  (try (simp -implicitDefEqProofs only [go_sem, diskD_eq, diskC_eq])); repeat' first | with_reducible exact True.intro | with_reducible refine And.intro ?_ ?_ | with_reducible intro _ | (((with_reducible refine isCall ?_); first | refine call_b (c1) rfl ?_ ?_ | refine call_d (c1) rfl ?_ | refine call_sb (c1) rfl ?_ ?_ | refine call_s (c1) rfl rfl ?_ | refine call_b (c2) rfl ?_ ?_ | refine call_d (c2) rfl ?_ | refine call_sb (c2) rfl ?_ ?_ | refine call_s (c2) rfl rfl ?_ | refine call_b (c3) rfl ?_ ?_ | refine call_d (c3) rfl ?_ | refine call_sb (c3) rfl ?_ ?_ | refine call_s (c3) rfl rfl ?_ | refine call_b (c4) rfl ?_ ?_ | refine call_d (c4) rfl ?_ | refine call_sb (c4) rfl ?_ ?_ | refine call_s (c4) rfl rfl ?_) <;> try (simp -implicitDefEqProofs only [go_sem, diskD_eq, diskC_eq])) | (((with_reducible refine vc_b ?_ ?_) <;> intro _) <;> try (simp -implicitDefEqProofs only [go_sem, diskD_eq, diskC_eq])) | simp (disch := omega) only [wrapI, wrapU, shl1, shl1', shl1'', shrN, shrN', and_one] | ((with_reducible refine isEx4 ?_); refine ⟨(_, _, _, _), rfl, ?_, ?_⟩) | ((with_reducible refine isEx3 ?_); refine ⟨(_, _, _), rfl, ?_, ?_⟩)
  all_goals first | omega | (simp; done) | (simp; omega) | skip
  refine pw_loopS (α := Int × Int × Int) (l0 := ?l1) (m0 := ?m1) (fun x => [(13, .d (.int .i64 x.1)), (10, .d (.int .i64 x.2.1)), (11, .d (.int .i64 x.2.2))]) (fun x => []) (fun x => (0 ≤ x.1 ∧ x.1 ≤ d.size - 1) ∧ x.2.1 = sumF (d.isK 1) 1 x.1.toNat ∧ x.2.2 = sumF (d.isK 2) 1 x.1.toNat) (fun x => (d.size - 1 - x.1).toNat) (?a1_0, ?a1_1, ?a1_2) ?h01 ?he1 ?he21 ?hI1 ?step1
  case h01 => (simp -implicitDefEqProofs only [go_sem, diskC_eq]; rfl)
  case he1 => rfl
  case he21 => rfl
  case' step1 => (rintro ⟨j, p, q⟩ hI; try dsimp only at hI)
  case' hI1 => try dsimp only
  · exact ⟨⟨by omega, by omega⟩, rfl, rfl⟩
  · obtain ⟨⟨q1, q2⟩, q3, q4⟩ := hI
    have r3 := sumF_bound (f := d.isK 1) (a := 1) (M := 1) j.toNat fun i _ => isK_bound 1 _
    have r4 := sumF_bound (f := d.isK 2) (a := 1) (M := 1) j.toNat fun i _ => isK_bound 2 _
    by_cases hj : j < d.size - 1
    · have w4 : IntKind.i64.wrap (j + 1) = j + 1 := wrapI _ (by omega)
      have hkg := kinds_get d 0 (d.size.toNat - 1) j.toNat (by omega)
      have hjl : j < (d.kinds 0 (d.size.toNat - 1)).length := by omega
      obtain ⟨e, he⟩ : ∃ e, d.kindN (0 + 1 + (j.toNat : Nat)) = e := ⟨_, rfl⟩
      rw [he] at hkg
      have he' : d.kindN (1 + (j.toNat : Nat)) = e := by simpa using he
      have n1 : sumF (d.isK 1) 1 (j + 1).toNat = p + (if e = 1 then 1 else 0) := by rw [show (j + 1).toNat = j.toNat + 1 by omega, sumF, ← q3, GDisk.isK, he']
      have n2 : sumF (d.isK 2) 1 (j + 1).toNat = q + (if e = 2 then 1 else 0) := by rw [show (j + 1).toNat = j.toNat + 1 by omega, sumF, ← q4, GDisk.isK, he']
      have w5 : IntKind.i64.wrap (p + 1) = p + 1 := wrapI _ (by omega)
      have w6 : IntKind.i64.wrap (q + 1) = q + 1 := wrapI _ (by omega)
      by_cases h1 : e = 1
      · rw [if_pos h1] at n1; rw [if_neg (by omega)] at n2
        have h2 : ¬ e = 2 := by omega
        (try (simp -implicitDefEqProofs only [go_sem, diskC_eq, hjl, hkg, q1, w4, w5, w6, eq_true h1, h2])); repeat' first | with_reducible exact True.intro | with_reducible refine And.intro ?_ ?_ | with_reducible intro _ | (((with_reducible refine vc_b ?_ ?_) <;> intro _) <;> try (simp -implicitDefEqProofs only [go_sem, diskC_eq, hjl, hkg, q1, w4, w5, w6, eq_true h1, h2])) | simp (disch := omega) only [wrapI, wrapU, shl1, shl1', shl1'', shrN, shrN', and_one] | ((with_reducible refine isEx4 ?_); refine ⟨(_, _, _, _), rfl, ?_, ?_⟩) | ((with_reducible refine isEx3 ?_); refine ⟨(_, _, _), rfl, ?_, ?_⟩)
        all_goals first | exact n1.symm | exact n2.symm | omega | skip
      · rw [if_neg h1] at n1
        by_cases h2 : e = 2
        · rw [if_pos h2] at n2
          (try (simp -implicitDefEqProofs only [go_sem, diskC_eq, hjl, hkg, q1, w4, w5, w6, h1, eq_true h2])); repeat' first | with_reducible exact True.intro | with_reducible refine And.intro ?_ ?_ | with_reducible intro _ | (((with_reducible refine vc_b ?_ ?_) <;> intro _) <;> try (simp -implicitDefEqProofs only [go_sem, diskC_eq, hjl, hkg, q1, w4, w5, w6, h1, eq_true h2])) | simp (disch := omega) only [wrapI, wrapU, shl1, shl1', shl1'', shrN, shrN', and_one] | ((with_reducible refine isEx4 ?_); refine ⟨(_, _, _, _), rfl, ?_, ?_⟩) | ((with_reducible refine isEx3 ?_); refine ⟨(_, _, _), rfl, ?_, ?_⟩)
          all_goals first | exact n1.symm | exact n2.symm | omega | skip
        · rw [if_neg h2] at n2
          (try (simp -implicitDefEqProofs only [go_sem, diskC_eq, hjl, hkg, q1, w4, w5, w6, h1, h2])); repeat' first | with_reducible exact True.intro | with_reducible refine And.intro ?_ ?_ | with_reducible intro _ | (((with_reducible refine vc_b ?_ ?_) <;> intro _) <;> try (simp -implicitDefEqProofs only [go_sem, diskC_eq, hjl, hkg, q1, w4, w5, w6, h1, h2])) | simp (disch := omega) only [wrapI, wrapU, shl1, shl1', shl1'', shrN, shrN', and_one] | ((with_reducible refine isEx4 ?_); refine ⟨(_, _, _, _), rfl, ?_, ?_⟩) | ((with_reducible refine isEx3 ?_); refine ⟨(_, _, _), rfl, ?_, ?_⟩)
          all_goals first | omega | skip
    · have hjl : ¬ j < (d.kinds 0 (d.size.toNat - 1)).length := by omega
      have hje : j.toNat = d.size.toNat - 1 := by omega
      have e3 : p = d.sw1 := by rw [q3, hje]; rfl
      have e4 : q = d.sw2 := by rw [q4, hje]; rfl
      have u1b : 0 ≤ d.sw1 ∧ d.sw1 ≤ 5120 := by unfold GDisk.sw1; omega
      have u2b : 0 ≤ d.sw2 ∧ d.sw2 ≤ 5120 := by unfold GDisk.sw2; omega
      clear q3 q4 r3 r4 q1 q2 hje
      generalize d.ticksR 0 d.size.toNat = t0 at *
      generalize d.F1 step = F at *
      generalize d.F2 step = H at *
      generalize d.A1 step = A at *
      generalize d.A2 step = B at *
      generalize d.sw1 = u1 at *
      generalize d.sw2 = u2 at *
      generalize stepsN d.turn step = M at *
      (try (simp -implicitDefEqProofs only [go_sem, diskC_eq, diskD_eq, hjl, w1, w2, e3, e4])); repeat' first | with_reducible exact True.intro | with_reducible refine And.intro ?_ ?_ | with_reducible intro _ | (((with_reducible refine isCall ?_); first | refine call_b (c5) rfl ?_ ?_ | refine call_d (c5) rfl ?_ | refine call_sb (c5) rfl ?_ ?_ | refine call_s (c5) rfl rfl ?_) <;> try (simp -implicitDefEqProofs only [go_sem, diskC_eq, diskD_eq, hjl, w1, w2, e3, e4])) | (((with_reducible refine vc_b ?_ ?_) <;> intro _) <;> try (simp -implicitDefEqProofs only [go_sem, diskC_eq, diskD_eq, hjl, w1, w2, e3, e4])) | simp (disch := omega) only [wrapI, wrapU, shl1, shl1', shl1'', shrN, shrN', and_one] | ((with_reducible refine isEx4 ?_); refine ⟨(_, _, _, _), rfl, ?_, ?_⟩) | ((with_reducible refine isEx3 ?_); refine ⟨(_, _, _), rfl, ?_, ?_⟩)
      all_goals first | omega | (simp; done) | (simp; omega) | skip
      refine pw_loopS (α := Int × Int × Int × Int) (l0 := ?l2) (m0 := ?m2) (fun x => [(14, .d (.int .i64 x.1)), (4, .d (.int .i64 x.2.1)), (5, .d (.int .i64 x.2.2.1)), (8, .d (.int .i64 x.2.2.2))]) (fun x => []) (fun x => ∃ i : Nat, i ≤ M ∧ x.1 = i * step ∧ Tried F H (fun x y => x < i ∧ y < M) step t0 (i = 0) x.2.1 x.2.2.1 x.2.2.2) (fun x => (d.turn + step - x.1).toNat) (?a2_0, ?a2_1, ?a2_2, ?a2_3) ?h02 ?he2 ?he22 ?hI2 ?step2
      case h02 => (simp -implicitDefEqProofs only [go_sem, diskC_eq]; rfl)
      case he2 => rfl
      case he22 => rfl
      case' step2 => (rintro ⟨s, hd, cy, be⟩ hI2; try dsimp only at hI2)
      case' hI2 => try dsimp only
      · exact ⟨0, by omega, by simp, .inl ⟨rfl, rfl, rfl, rfl⟩⟩
      · obtain ⟨i, q1, q2, q3⟩ := hI2
        have x1 : ∀ z : Int, 0 ≤ z → z < d.turn → IntKind.i64.wrap (z + step) = z + step := fun z _ _ => wrapI _ (by omega)
        by_cases hi : i < M
        · have hlt := (hM i).1 hi
          have hs0 : 0 ≤ (i : Int) * step := Int.mul_nonneg (by omega) (by omega)
          rw [← q2] at hlt hs0
          (try (simp -implicitDefEqProofs only [go_sem, diskC_eq, diskD_eq, hlt])); repeat' first | with_reducible exact True.intro | with_reducible refine And.intro ?_ ?_ | with_reducible intro _ | (((with_reducible refine vc_b ?_ ?_) <;> intro _) <;> try (simp -implicitDefEqProofs only [go_sem, diskC_eq, diskD_eq, hlt])) | simp (disch := omega) only [wrapI, wrapU, shl1, shl1', shl1'', shrN, shrN', and_one] | ((with_reducible refine isEx4 ?_); refine ⟨(_, _, _, _), rfl, ?_, ?_⟩) | ((with_reducible refine isEx3 ?_); refine ⟨(_, _, _), rfl, ?_, ?_⟩)
          all_goals first | omega | (simp; done) | (simp; omega) | skip
          refine pw_loopS (α := Int × Int × Int × Int) (l0 := ?l3) (m0 := ?m3) (fun x => [(15, .d (.int .i64 x.1)), (4, .d (.int .i64 x.2.1)), (5, .d (.int .i64 x.2.2.1)), (8, .d (.int .i64 x.2.2.2))]) (fun x => []) (fun x => ∃ j : Nat, j ≤ M ∧ x.1 = j * step ∧ Tried F H (fun x y => (x < i ∧ y < M) ∨ (x = i ∧ y < j)) step t0 (i = 0 ∧ j = 0) x.2.1 x.2.2.1 x.2.2.2) (fun x => (d.turn + step - x.1).toNat) (?a3_0, ?a3_1, ?a3_2, ?a3_3) ?h03 ?he3 ?he23 ?hI3 ?step3
          case h03 => (simp -implicitDefEqProofs only [go_sem, diskC_eq]; rfl)
          case he3 => rfl
          case he23 => rfl
          case' step3 => (rintro ⟨r, hd, cy, be⟩ hI3; try dsimp only at hI3)
          case' hI3 => try dsimp only
          · exact ⟨0, by omega, by simp, q3.cong (fun x y => ⟨fun hh => hh.elim id fun h2 => absurd h2.2 (by omega), .inl⟩) (by simp)⟩
          · obtain ⟨j, r1, r2, r3⟩ := hI3
            by_cases hj : j < M
            · have hlt2 := (hM j).1 hj
              have hs1 : 0 ≤ (j : Int) * step := Int.mul_nonneg (by omega) (by omega)
              obtain ⟨k1, k2⟩ := hg1 i j hi hj
              have k3 := ref01_With_ret d (i * step) (j * step)
              rw [← r2] at hlt2 hs1
              rw [← q2, ← r2] at k1 k2 k3
              have hF := f1b i hi
              have hH := f2b j hj
              have y1 : IntKind.i64.wrap (u1 * gapV d.turn s d.hhi) = F i := by rw [q2, f1e]; exact wrapI _ (by omega)
              have y2 : IntKind.i64.wrap (u2 * gapV d.turn r d.chi) = H j := by rw [r2, f2e]; exact wrapI _ (by omega)
              have y3 : IntKind.i64.wrap (t0 + F i) = t0 + F i := wrapI _ (by omega)
              have y4 : IntKind.i64.wrap (t0 + F i + H j) = t0 + F i + H j := wrapI _ (by omega)
              have y5 := x1 r hs1 hlt2
              have hn : r + step = ((j + 1 : Nat) : Int) * step := by rw [show ((j + 1 : Nat) : Int) = (j : Int) + 1 by omega, Int.add_mul, ← r2]; omega
              obtain ⟨n1, n2⟩ := r3.next (i := i) (j := j) (fun x y hv => by rcases hv with hv | hv; exact .inl hv.1; exact .inr hv) (fun h0 x y hv => by rcases hv with hv | hv <;> omega)
                (fun x y hv => by
                  rcases hv with hv | hv
                  · have := f1b x (by omega); have := f2b y (by omega); omega
                  · have := f1b x (by omega); have := f2b y (by omega); omega) (by omega)
              have hcg : ∀ x y : Nat, ((x < i ∧ y < M) ∨ (x = i ∧ y < j + 1)) ↔ (((x < i ∧ y < M) ∨ (x = i ∧ y < j)) ∨ (x = i ∧ y = j)) := fun x y => by omega
              have fin1 : (be < 0 ∨ t0 + F i + H j < be) → ∃ k : Nat, k ≤ M ∧ r + step = k * step ∧ Tried F H (fun x y => (x < i ∧ y < M) ∨ (x = i ∧ y < k)) step t0 (i = 0 ∧ k = 0) s r (t0 + F i + H j) := fun hh =>
                ⟨j + 1, hj, hn, by have := (n1 hh).cong (m := (i = 0 ∧ j + 1 = 0)) hcg (by simp); rw [← q2, ← r2] at this; exact this⟩
              have fin2 : ¬ be < 0 → ¬ t0 + F i + H j < be → ∃ k : Nat, k ≤ M ∧ r + step = k * step ∧ Tried F H (fun x y => (x < i ∧ y < M) ∨ (x = i ∧ y < k)) step t0 (i = 0 ∧ k = 0) hd cy be := fun h1 h2 =>
                ⟨j + 1, hj, hn, (n2 h1 h2).cong (m := (i = 0 ∧ j + 1 = 0)) hcg (by simp)⟩
              by_cases h1 : be < 0
              · have fin := fin1 (.inl h1)
                (try (simp -implicitDefEqProofs only [go_sem, diskC_eq, diskD_eq, GDisk.skews, hlt2, y1, y2, y3, y4, y5, h1])); repeat' first | with_reducible exact True.intro | with_reducible refine And.intro ?_ ?_ | with_reducible intro _ | (((with_reducible refine isCall ?_); first | refine call_b (k1) rfl ?_ ?_ | refine call_d (k1) rfl ?_ | refine call_sb (k1) rfl ?_ ?_ | refine call_s (k1) rfl rfl ?_ | refine call_b (k2) rfl ?_ ?_ | refine call_d (k2) rfl ?_ | refine call_sb (k2) rfl ?_ ?_ | refine call_s (k2) rfl rfl ?_ | refine call_b (k3) rfl ?_ ?_ | refine call_d (k3) rfl ?_ | refine call_sb (k3) rfl ?_ ?_ | refine call_s (k3) rfl rfl ?_) <;> try (simp -implicitDefEqProofs only [go_sem, diskC_eq, diskD_eq, GDisk.skews, hlt2, y1, y2, y3, y4, y5, h1])) | (((with_reducible refine vc_b ?_ ?_) <;> intro _) <;> try (simp -implicitDefEqProofs only [go_sem, diskC_eq, diskD_eq, GDisk.skews, hlt2, y1, y2, y3, y4, y5, h1])) | simp (disch := omega) only [wrapI, wrapU, shl1, shl1', shl1'', shrN, shrN', and_one] | ((with_reducible refine isEx4 ?_); refine ⟨(_, _, _, _), rfl, ?_, ?_⟩) | ((with_reducible refine isEx3 ?_); refine ⟨(_, _, _), rfl, ?_, ?_⟩)
                all_goals first | exact fin | omega | skip
              · by_cases h2 : t0 + F i + H j < be
                · have fin := fin1 (.inr h2)
                  (try (simp -implicitDefEqProofs only [go_sem, diskC_eq, diskD_eq, GDisk.skews, hlt2, y1, y2, y3, y4, y5, h1, h2])); repeat' first | with_reducible exact True.intro | with_reducible refine And.intro ?_ ?_ | with_reducible intro _ | (((with_reducible refine isCall ?_); first | refine call_b (k1) rfl ?_ ?_ | refine call_d (k1) rfl ?_ | refine call_sb (k1) rfl ?_ ?_ | refine call_s (k1) rfl rfl ?_ | refine call_b (k2) rfl ?_ ?_ | refine call_d (k2) rfl ?_ | refine call_sb (k2) rfl ?_ ?_ | refine call_s (k2) rfl rfl ?_ | refine call_b (k3) rfl ?_ ?_ | refine call_d (k3) rfl ?_ | refine call_sb (k3) rfl ?_ ?_ | refine call_s (k3) rfl rfl ?_) <;> try (simp -implicitDefEqProofs only [go_sem, diskC_eq, diskD_eq, GDisk.skews, hlt2, y1, y2, y3, y4, y5, h1, h2])) | (((with_reducible refine vc_b ?_ ?_) <;> intro _) <;> try (simp -implicitDefEqProofs only [go_sem, diskC_eq, diskD_eq, GDisk.skews, hlt2, y1, y2, y3, y4, y5, h1, h2])) | simp (disch := omega) only [wrapI, wrapU, shl1, shl1', shl1'', shrN, shrN', and_one] | ((with_reducible refine isEx4 ?_); refine ⟨(_, _, _, _), rfl, ?_, ?_⟩) | ((with_reducible refine isEx3 ?_); refine ⟨(_, _, _), rfl, ?_, ?_⟩)
                  all_goals first | exact fin | omega | skip
                · have fin := fin2 h1 h2
                  (try (simp -implicitDefEqProofs only [go_sem, diskC_eq, diskD_eq, GDisk.skews, hlt2, y1, y2, y3, y4, y5, h1, h2])); repeat' first | with_reducible exact True.intro | with_reducible refine And.intro ?_ ?_ | with_reducible intro _ | (((with_reducible refine isCall ?_); first | refine call_b (k1) rfl ?_ ?_ | refine call_d (k1) rfl ?_ | refine call_sb (k1) rfl ?_ ?_ | refine call_s (k1) rfl rfl ?_ | refine call_b (k2) rfl ?_ ?_ | refine call_d (k2) rfl ?_ | refine call_sb (k2) rfl ?_ ?_ | refine call_s (k2) rfl rfl ?_ | refine call_b (k3) rfl ?_ ?_ | refine call_d (k3) rfl ?_ | refine call_sb (k3) rfl ?_ ?_ | refine call_s (k3) rfl rfl ?_) <;> try (simp -implicitDefEqProofs only [go_sem, diskC_eq, diskD_eq, GDisk.skews, hlt2, y1, y2, y3, y4, y5, h1, h2])) | (((with_reducible refine vc_b ?_ ?_) <;> intro _) <;> try (simp -implicitDefEqProofs only [go_sem, diskC_eq, diskD_eq, GDisk.skews, hlt2, y1, y2, y3, y4, y5, h1, h2])) | simp (disch := omega) only [wrapI, wrapU, shl1, shl1', shl1'', shrN, shrN', and_one] | ((with_reducible refine isEx4 ?_); refine ⟨(_, _, _, _), rfl, ?_, ?_⟩) | ((with_reducible refine isEx3 ?_); refine ⟨(_, _, _), rfl, ?_, ?_⟩)
                  all_goals first | exact fin | omega | skip
            · have hje : j = M := by omega
              have hge : ¬ r < d.turn := fun hh => hj ((hM j).2 (by rw [← r2]; exact hh))
              have y5 := x1 s hs0 hlt
              have hn : s + step = ((i + 1 : Nat) : Int) * step := by rw [show ((i + 1 : Nat) : Int) = (i : Int) + 1 by omega, Int.add_mul, ← q2]; omega
              have fin : ∃ k : Nat, k ≤ M ∧ s + step = k * step ∧ Tried F H (fun x y => x < k ∧ y < M) step t0 (k = 0) hd cy be := ⟨i + 1, hi, hn, r3.cong (fun x y => by omega) (by omega)⟩
              (try (simp -implicitDefEqProofs only [go_sem, diskC_eq, diskD_eq, hge, y5])); repeat' first | with_reducible exact True.intro | with_reducible refine And.intro ?_ ?_ | with_reducible intro _ | (((with_reducible refine vc_b ?_ ?_) <;> intro _) <;> try (simp -implicitDefEqProofs only [go_sem, diskC_eq, diskD_eq, hge, y5])) | simp (disch := omega) only [wrapI, wrapU, shl1, shl1', shl1'', shrN, shrN', and_one] | ((with_reducible refine isEx4 ?_); refine ⟨(_, _, _, _), rfl, ?_, ?_⟩) | ((with_reducible refine isEx3 ?_); refine ⟨(_, _, _), rfl, ?_, ?_⟩)
              all_goals first | exact fin | omega | skip
        · have hie : i = M := by omega
          have hge : ¬ s < d.turn := fun hh => hi ((hM i).2 (by rw [← q2]; exact hh))
          rcases q3 with ⟨z0, _⟩ | ⟨_, A', B', z1, rfl, rfl, rfl⟩
          · omega
          · rw [hie] at z1
            obtain ⟨rfl, rfl⟩ := hfin _ _ z1
            (try (simp -implicitDefEqProofs only [go_sem, diskC_eq, diskD_eq, hge])); repeat' first | with_reducible exact True.intro | with_reducible refine And.intro ?_ ?_ | with_reducible intro _ | (((with_reducible refine vc_b ?_ ?_) <;> intro _) <;> try (simp -implicitDefEqProofs only [go_sem, diskC_eq, diskD_eq, hge])) | simp (disch := omega) only [wrapI, wrapU, shl1, shl1', shl1'', shrN, shrN', and_one] | ((with_reducible refine isEx4 ?_); refine ⟨(_, _, _, _), rfl, ?_, ?_⟩) | ((with_reducible refine isEx3 ?_); refine ⟨(_, _, _), rfl, ?_, ?_⟩)
            all_goals first | omega | (simp; done) | skip
end Go.Pw
