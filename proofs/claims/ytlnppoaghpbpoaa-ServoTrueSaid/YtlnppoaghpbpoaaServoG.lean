/- A part of the proof. -/
import Derived.Test.YtlnppoaghpbpoaaServoF
set_option linter.all false
open Go Go.Pw Go.Proofs
namespace Go.Pw
set_option linter.unusedSimpArgs false
set_option linter.unusedVariables false
set_option maxRecDepth 100000
set_option maxHeartbeats 1600000
attribute [local congr] cg_pw cg_seqI cg_seqE cg_stepI cg_ev cg_evBin cg_condB cg_condV cg_thenQ cg_blockQ cg_onSome cg_onCells cg_onRow cg_onMap cg_onOpt cg_ghosts cg_ghost cg_evCall cg_part cg_rng cg_guardV cg_frzV cg_frpV cg_ownV cg_owcV cg_occV cg_occX cg_resK cg_res1
attribute [local irreducible] IntKind.wrap bitsOp Option.getD and or

theorem ref02_Agrees_ret (s : GServo) (h : s.ok = true) (w : Pair) (hwo : wedgeOk w = true) (i p : Int) (hi : -1 ≤ i ∧ i ≤ 1000000) (hp : 0 ≤ p ∧ p ≤ 1008) :
    Ret E0 F_ref02_Agrees [servoD s, pairD w, .int .i64 i, .int .i64 p] (.bool (s.agrees w i p)) := by
  refine ret_of_pw dec_ref02_Agrees mixed (by simp) fun hwf => ?_
  have hd := GServo.ok_head h
  obtain ⟨cd, b⟩ := w
  have hcb : (-1 ≤ cd ∧ cd ≤ 127) ∧ -100 ≤ b ∧ b ≤ 100 := by simpa [wedgeOk, inR] using hwo
  rw [enter_eq]; unfold pc_ref02_Agrees
  by_cases hcd : cd = -1
  · subst hcd
    have : s.agrees (-1, b) i p = true := by simp [GServo.agrees]
    rw [this]
    (try (simp -implicitDefEqProofs only [go_sem, servoD_eq, servoC_eq, pairD_eq])); repeat' first | with_reducible exact True.intro | with_reducible refine And.intro ?_ ?_ | with_reducible intro _ | (((with_reducible refine vc_b ?_ ?_) <;> intro _) <;> try (simp -implicitDefEqProofs only [go_sem, servoD_eq, servoC_eq, pairD_eq])) | simp (disch := omega) only [wrapI, wrapU, shl1, shl1', shl1'', shrN, shrN', and_one] 
    all_goals first | omega | (simp; done) | (simp; omega) | skip
  · have ht := gray_all (n := cd) (by omega)
    have hcen := center_bound h (t := trackI cd) ⟨ht.2.2.2.1, ht.2.2.2.2.1⟩ i
    have c1 := ref02_Track_ret cd
    rw [show inR cd 0 127 = true by simp [inR]; omega] at c1
    simp only [if_true] at c1
    have c2 := ref02_Center_ret s h (trackI cd) i ⟨ht.2.2.2.1, ht.2.2.2.2.1⟩ hi
    rw [agrees_eq _ _ _ _ _ hcd]
    generalize s.center (trackI cd) i = C at *
    generalize trackI cd = T at *
    have w1 : IntKind.i64.wrap (p - C) = p - C := wrapI _ (by omega)
    have w3 : IntKind.i64.wrap (2 * max (p - C) (-(p - C))) = 2 * max (p - C) (-(p - C)) := wrapI _ (by omega)
    have w4 : IntKind.i64.wrap (b - (p - C)) = b - (p - C) := wrapI _ (by omega)
    have a1 := ref02_abs_ret (p - C) (by omega)
    have a2 := ref02_abs_ret (b - (p - C)) (by omega)
    have hn0 : ¬ cd = -1 := hcd
    by_cases hA : T < s.tracks
    · by_cases hB : 2 * max (p - C) (-(p - C)) ≤ s.step
      · by_cases hC : max (b - (p - C)) (-(b - (p - C))) ≤ s.noise
        · (try (simp -implicitDefEqProofs only [go_sem, servoD_eq, servoC_eq, pairD_eq, hn0, w1, w3, w4, hA, hB, hC])); repeat' first | with_reducible exact True.intro | with_reducible refine And.intro ?_ ?_ | with_reducible intro _ | (((with_reducible refine isCall ?_); first | refine call_b (c1) rfl ?_ ?_ | refine call_d (c1) rfl ?_ | refine call_sb (c1) rfl ?_ ?_ | refine call_s (c1) rfl rfl ?_ | refine call_b (c2) rfl ?_ ?_ | refine call_d (c2) rfl ?_ | refine call_sb (c2) rfl ?_ ?_ | refine call_s (c2) rfl rfl ?_ | refine call_b (a1) rfl ?_ ?_ | refine call_d (a1) rfl ?_ | refine call_sb (a1) rfl ?_ ?_ | refine call_s (a1) rfl rfl ?_ | refine call_b (a2) rfl ?_ ?_ | refine call_d (a2) rfl ?_ | refine call_sb (a2) rfl ?_ ?_ | refine call_s (a2) rfl rfl ?_) <;> try (simp -implicitDefEqProofs only [go_sem, servoD_eq, servoC_eq, pairD_eq, hn0, w1, w3, w4, hA, hB, hC])) | (((with_reducible refine vc_b ?_ ?_) <;> intro _) <;> try (simp -implicitDefEqProofs only [go_sem, servoD_eq, servoC_eq, pairD_eq, hn0, w1, w3, w4, hA, hB, hC])) | simp (disch := omega) only [wrapI, wrapU, shl1, shl1', shl1'', shrN, shrN', and_one] 
          all_goals first | omega | (simp [hA, hB, hC]; done)
        · (try (simp -implicitDefEqProofs only [go_sem, servoD_eq, servoC_eq, pairD_eq, hn0, w1, w3, w4, hA, hB, hC])); repeat' first | with_reducible exact True.intro | with_reducible refine And.intro ?_ ?_ | with_reducible intro _ | (((with_reducible refine isCall ?_); first | refine call_b (c1) rfl ?_ ?_ | refine call_d (c1) rfl ?_ | refine call_sb (c1) rfl ?_ ?_ | refine call_s (c1) rfl rfl ?_ | refine call_b (c2) rfl ?_ ?_ | refine call_d (c2) rfl ?_ | refine call_sb (c2) rfl ?_ ?_ | refine call_s (c2) rfl rfl ?_ | refine call_b (a1) rfl ?_ ?_ | refine call_d (a1) rfl ?_ | refine call_sb (a1) rfl ?_ ?_ | refine call_s (a1) rfl rfl ?_ | refine call_b (a2) rfl ?_ ?_ | refine call_d (a2) rfl ?_ | refine call_sb (a2) rfl ?_ ?_ | refine call_s (a2) rfl rfl ?_) <;> try (simp -implicitDefEqProofs only [go_sem, servoD_eq, servoC_eq, pairD_eq, hn0, w1, w3, w4, hA, hB, hC])) | (((with_reducible refine vc_b ?_ ?_) <;> intro _) <;> try (simp -implicitDefEqProofs only [go_sem, servoD_eq, servoC_eq, pairD_eq, hn0, w1, w3, w4, hA, hB, hC])) | simp (disch := omega) only [wrapI, wrapU, shl1, shl1', shl1'', shrN, shrN', and_one] 
          all_goals first | omega | (simp [hA, hB, hC]; done)
      · (try (simp -implicitDefEqProofs only [go_sem, servoD_eq, servoC_eq, pairD_eq, hn0, w1, w3, w4, hA, hB])); repeat' first | with_reducible exact True.intro | with_reducible refine And.intro ?_ ?_ | with_reducible intro _ | (((with_reducible refine isCall ?_); first | refine call_b (c1) rfl ?_ ?_ | refine call_d (c1) rfl ?_ | refine call_sb (c1) rfl ?_ ?_ | refine call_s (c1) rfl rfl ?_ | refine call_b (c2) rfl ?_ ?_ | refine call_d (c2) rfl ?_ | refine call_sb (c2) rfl ?_ ?_ | refine call_s (c2) rfl rfl ?_ | refine call_b (a1) rfl ?_ ?_ | refine call_d (a1) rfl ?_ | refine call_sb (a1) rfl ?_ ?_ | refine call_s (a1) rfl rfl ?_ | refine call_b (a2) rfl ?_ ?_ | refine call_d (a2) rfl ?_ | refine call_sb (a2) rfl ?_ ?_ | refine call_s (a2) rfl rfl ?_) <;> try (simp -implicitDefEqProofs only [go_sem, servoD_eq, servoC_eq, pairD_eq, hn0, w1, w3, w4, hA, hB])) | (((with_reducible refine vc_b ?_ ?_) <;> intro _) <;> try (simp -implicitDefEqProofs only [go_sem, servoD_eq, servoC_eq, pairD_eq, hn0, w1, w3, w4, hA, hB])) | simp (disch := omega) only [wrapI, wrapU, shl1, shl1', shl1'', shrN, shrN', and_one] 
        all_goals first | omega | (simp [hA, hB]; done)
    · (try (simp -implicitDefEqProofs only [go_sem, servoD_eq, servoC_eq, pairD_eq, hn0, w1, w3, w4, hA])); repeat' first | with_reducible exact True.intro | with_reducible refine And.intro ?_ ?_ | with_reducible intro _ | (((with_reducible refine isCall ?_); first | refine call_b (c1) rfl ?_ ?_ | refine call_d (c1) rfl ?_ | refine call_sb (c1) rfl ?_ ?_ | refine call_s (c1) rfl rfl ?_ | refine call_b (c2) rfl ?_ ?_ | refine call_d (c2) rfl ?_ | refine call_sb (c2) rfl ?_ ?_ | refine call_s (c2) rfl rfl ?_ | refine call_b (a1) rfl ?_ ?_ | refine call_d (a1) rfl ?_ | refine call_sb (a1) rfl ?_ ?_ | refine call_s (a1) rfl rfl ?_ | refine call_b (a2) rfl ?_ ?_ | refine call_d (a2) rfl ?_ | refine call_sb (a2) rfl ?_ ?_ | refine call_s (a2) rfl rfl ?_) <;> try (simp -implicitDefEqProofs only [go_sem, servoD_eq, servoC_eq, pairD_eq, hn0, w1, w3, w4, hA])) | (((with_reducible refine vc_b ?_ ?_) <;> intro _) <;> try (simp -implicitDefEqProofs only [go_sem, servoD_eq, servoC_eq, pairD_eq, hn0, w1, w3, w4, hA])) | simp (disch := omega) only [wrapI, wrapU, shl1, shl1', shl1'', shrN, shrN', and_one] 
      all_goals first | omega | (simp [hA]; done)

/-! the least of a row -/
def minL : List Int → Int
  | [] => 0
  | x :: l => l.foldl min x
theorem foldl_take {l : List Int} {i : Nat} (x : Int) (h : i < l.length) : (l.take (i + 1)).foldl min x = min ((l.take i).foldl min x) (l[i]?.getD 0) := by
  rw [List.take_add_one, List.getElem?_eq_getElem h, Option.getD_some]
  simp only [Option.toList, List.foldl_append, List.foldl_cons, List.foldl_nil]
theorem minL_take {l : List Int} {i : Nat} (h : i + 1 < l.length) : minL (l.take (i + 2)) = min (minL (l.take (i + 1))) (l[i + 1]?.getD 0) := by
  cases l with
  | nil => simp at h
  | cons x l =>
    simp only [List.take_succ_cons, minL, List.getElem?_cons_succ]
    exact foldl_take x (by simpa using h)

theorem slices_Min_ret (nl : Bool) (l : List Int) (hl : 1 ≤ l.length) : Ret E0 F_slices_Min_servo_row_int [.list nl (ints l)] (.int .i64 (minL l)) := by
  refine ret_of_pw dec_slices_Min_servo_row_int mixed (by simp) fun hwf => ?_
  simp only [wf_int, wf_bool, wf_ints, wf_list, wf_agg, wf_ptr, wf_fn, wf_tup, wf_all_cons, wf_all_nil, wf_all_map, inK_i64, maxLen_eq, List.length_map, ints_len, true_and, and_true] at hwf
  have hl1 : ¬ (l.length : Int) < 1 := by omega
  rw [enter_eq]; unfold pc_slices_Min_servo_row_int
  (try (simp -implicitDefEqProofs only [go_sem, hl1])); repeat' first | with_reducible exact True.intro | with_reducible refine And.intro ?_ ?_ | with_reducible intro _ | (((with_reducible refine vc_b ?_ ?_) <;> intro _) <;> try (simp -implicitDefEqProofs only [go_sem, hl1])) | simp (disch := omega) only [wrapI, wrapU, shl1, shl1', shl1'', shrN, shrN', and_one] | ((with_reducible refine isEx2 ?_); refine ⟨(_, _), rfl, ?_, ?_⟩)
  all_goals first | omega | (simp; done) | (simp; omega) | skip
  refine pw_loopS (α := Int × Int) (l0 := ?l1) (m0 := ?m1) (fun x => [(4, .d (.int .i64 x.1)), (3, .d (.int .i64 x.2))]) (fun x => []) (fun x => 1 ≤ x.1 ∧ x.1 ≤ l.length ∧ x.2 = minL (l.take x.1.toNat)) (fun x => (l.length - x.1).toNat) (?a1_0, ?a1_1) ?h01 ?he1 ?he21 ?hI1 ?step1
  case h01 => (simp -implicitDefEqProofs only [go_sem]; rfl)
  case he1 => rfl
  case he21 => rfl
  case' step1 => (rintro ⟨i, m⟩ hI; try dsimp only at hI)
  case' hI1 => try dsimp only
  · refine ⟨by omega, by omega, ?_⟩
    cases l with
    | nil => simp at hl
    | cons x l => simp [minL]
  · obtain ⟨h1, h2, h3⟩ := hI
    by_cases hi : i < l.length
    · have hs := minL_take (l := l) (i := i.toNat - 1) (by omega)
      rw [show i.toNat - 1 + 2 = (i + 1).toNat by omega, show i.toNat - 1 + 1 = i.toNat by omega] at hs
      (try (simp -implicitDefEqProofs only [go_sem])); repeat' first | with_reducible exact True.intro | with_reducible refine And.intro ?_ ?_ | with_reducible intro _ | (((with_reducible refine vc_b ?_ ?_) <;> intro _) <;> try (simp -implicitDefEqProofs only [go_sem])) | simp (disch := omega) only [wrapI, wrapU, shl1, shl1', shl1'', shrN, shrN', and_one] | ((with_reducible refine isEx2 ?_); refine ⟨(_, _), rfl, ?_, ?_⟩)
      all_goals first | omega | (simp; done) | (simp; omega) | skip
      all_goals (rw [hs, ← h3])
    · have hx : l.take i.toNat = l := List.take_of_length_le (by omega)
      rw [hx] at h3
      (try (simp -implicitDefEqProofs only [go_sem])); repeat' first | with_reducible exact True.intro | with_reducible refine And.intro ?_ ?_ | with_reducible intro _ | (((with_reducible refine vc_b ?_ ?_) <;> intro _) <;> try (simp -implicitDefEqProofs only [go_sem])) | simp (disch := omega) only [wrapI, wrapU, shl1, shl1', shl1'', shrN, shrN', and_one] | ((with_reducible refine isEx2 ?_); refine ⟨(_, _), rfl, ?_, ?_⟩)
      all_goals first | omega | (simp; done) | (simp; omega) | skip
end Go.Pw
