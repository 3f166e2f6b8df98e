/- A part of the proof. -/
import Derived.Test.YtlmkpaimjpdhiaaDoorPgCorrectA
set_option linter.all false
section
open Go Go.Pw Go.Proofs
namespace Go.Pw
set_option linter.unusedSimpArgs false
set_option linter.unusedVariables false
set_option maxRecDepth 100000
set_option maxHeartbeats 3200000
/-- Positions as numbers. -/
def ni (l : List Nat) : List Int := l.map fun n : Nat => (n : Int)
theorem ni_len (l : List Nat) : (ni l).length = l.length := by simp [ni]
theorem ni_get (l : List Nat) (i : Nat) : (ni l)[i]?.getD 0 = ((l[i]?.getD 0 : Nat) : Int) := by
  unfold ni; rw [List.getElem?_map]; cases l[i]? <;> rfl
theorem ni_snoc (l : List Nat) (n : Nat) : ni l ++ [(n : Int)] = ni (l ++ [n]) := by simp [ni]
theorem ni_app (l k : List Nat) : ni l ++ ni k = ni (l ++ k) := by simp [ni]
theorem ni_empty (l : List Nat) : (ni l).isEmpty = l.isEmpty := by cases l <;> rfl
attribute [go_sem] ni_len ni_get ni_snoc ni_app ni_empty
attribute [local congr] cg_pw cg_seqI cg_seqE cg_stepI cg_ev cg_evBin cg_condB cg_condV cg_thenQ cg_blockQ cg_onSome cg_onCells cg_onRow cg_onRow2 cg_onMtx cg_frmV cg_fraV cg_frcV cg_frcO cg_frcX cg_fraO cg_owmV cg_ghosts cg_ghost cg_evCall cg_part cg_rng cg_guardV cg_frzV cg_frpV cg_ownV cg_resK cg_res1
attribute [local irreducible] IntKind.wrap bitsOp Option.getD and or

theorem ref05_AreMarks_ret (nl : Bool) (xs : List Int) (m : Int) (hm : -1000000 ≤ m ∧ m ≤ 1000000) : Ret E0 F_ref05_AreMarks [.list nl (ints xs), .int .i64 m] (.bool (marksB xs m)) := by
  refine ret_of_pw dec_ref05_AreMarks mixed (by simp) fun hwf => ?_
  simp only [wf_int, wf_bool, wf_ints, wf_list, wf_agg, wf_ptr, wf_fn, wf_tup, wf_all_cons, wf_all_nil, wf_all_map, inK_i64, maxLen_eq, List.length_map, ints_len, true_and, and_true] at hwf
  rw [enter_eq]; unfold pc_ref05_AreMarks
  (try (simp -implicitDefEqProofs only [go_sem])); repeat' first | with_reducible exact True.intro | with_reducible refine And.intro ?_ ?_ | with_reducible intro _ | (((with_reducible refine vc_b ?_ ?_) <;> intro _) <;> try (simp -implicitDefEqProofs only [go_sem])) | simp (disch := omega) only [wrapI, wrapU, shl1, shl1', shl1'', shrN, shrN', and_one] | ((with_reducible refine isEx ?_); refine ⟨_, rfl, ?_, ?_⟩)
  refine pw_loopS (α := Nat) (l0 := ?l1) (m0 := ?m1) (fun x => [(5, .d (.int .i64 (x : Int)))]) (fun x => []) (fun x => x ≤ xs.length ∧ ∀ j, j < x → mkB xs m j = true) (fun x => xs.length - x) 0 ?h01 ?he1 ?he21 ?hI1 ?step1
  case h01 => (simp -implicitDefEqProofs only [go_sem]; rfl)
  case he1 => rfl
  case he21 => rfl
  case' step1 => (rintro i hI; try dsimp only at hI)
  case' hI1 => try dsimp only
  · exact ⟨by omega, fun j hj => absurd hj (by omega)⟩
  · obtain ⟨h1, h2⟩ := hI
    have hwm : IntKind.i64.wrap (m - 1) = m - 1 := wrapI _ (by omega)
    by_cases h : i < xs.length
    · have h' : (i : Int) < (xs.length : Int) := by omega
      have hw : IntKind.i64.wrap ((i : Int) + 1) = ((i + 1 : Nat) : Int) := by rw [wrapI _ (by omega)]; omega
      have c1 := ref05_within_ret (xs[i]?.getD 0) 0 (m - 1)
      cases hb : mkB xs m i with
      | true =>
        have hb2 := hb
        unfold mkB at hb2
        simp only [decide_eq_true_eq] at hb2
        obtain ⟨k1, k2, k3⟩ := hb2
        rw [decide_eq_true (by omega)] at c1
        by_cases h0 : 0 < i
        · have h0' : (0 : Int) < (i : Int) := by omega
          have k4 := k3 h0
          have q3 : ¬ xs[i]?.getD 0 ≤ xs[i - 1]?.getD 0 := by omega
          have hw2 : IntKind.i64.wrap ((i : Int) - 1) = ((i - 1 : Nat) : Int) := by rw [wrapI _ (by omega)]; omega
          (try (simp -implicitDefEqProofs only [go_sem, h', hw, hw2, hwm, h0', q3])); repeat' first | with_reducible exact True.intro | with_reducible refine And.intro ?_ ?_ | with_reducible intro _ | (((with_reducible refine isCall ?_); first | refine call_b (c1) rfl ?_ ?_ | refine call_d (c1) rfl ?_ | refine call_sb (c1) rfl ?_ ?_ | refine call_s (c1) rfl rfl ?_) <;> try (simp -implicitDefEqProofs only [go_sem, h', hw, hw2, hwm, h0', q3])) | (((with_reducible refine vc_b ?_ ?_) <;> intro _) <;> try (simp -implicitDefEqProofs only [go_sem, h', hw, hw2, hwm, h0', q3])) | simp (disch := omega) only [wrapI, wrapU, shl1, shl1', shl1'', shrN, shrN', and_one] | ((with_reducible refine isEx ?_); refine ⟨_, rfl, ?_, ?_⟩)
          all_goals first | omega | (simp; done) | (simp; omega) | skip
          all_goals first
            | (rename_i j hj
               rcases Nat.lt_succ_iff_lt_or_eq.1 hj with hj | rfl
               · exact h2 j hj
               · exact hb)
            | (simp at *; done) | (simp at *; omega) | skip
        · have h0' : ¬ (0 : Int) < (i : Int) := by omega
          (try (simp -implicitDefEqProofs only [go_sem, h', hw, hwm, h0'])); repeat' first | with_reducible exact True.intro | with_reducible refine And.intro ?_ ?_ | with_reducible intro _ | (((with_reducible refine isCall ?_); first | refine call_b (c1) rfl ?_ ?_ | refine call_d (c1) rfl ?_ | refine call_sb (c1) rfl ?_ ?_ | refine call_s (c1) rfl rfl ?_) <;> try (simp -implicitDefEqProofs only [go_sem, h', hw, hwm, h0'])) | (((with_reducible refine vc_b ?_ ?_) <;> intro _) <;> try (simp -implicitDefEqProofs only [go_sem, h', hw, hwm, h0'])) | simp (disch := omega) only [wrapI, wrapU, shl1, shl1', shl1'', shrN, shrN', and_one] | ((with_reducible refine isEx ?_); refine ⟨_, rfl, ?_, ?_⟩)
          all_goals first | omega | (simp; done) | (simp; omega) | skip
          all_goals first
            | (rename_i j hj
               rcases Nat.lt_succ_iff_lt_or_eq.1 hj with hj | rfl
               · exact h2 j hj
               · exact hb)
            | (simp at *; done) | (simp at *; omega) | skip
      | false =>
        have hs := marks_no h hb
        unfold mkB at hb
        simp only [decide_eq_false_iff_not] at hb
        by_cases q1 : 0 ≤ xs[i]?.getD 0 ∧ xs[i]?.getD 0 ≤ m - 1
        · rw [decide_eq_true q1] at c1
          have h0 : 0 < i := by
            by_cases h0 : 0 < i
            · exact h0
            · exact absurd ⟨by omega, by omega, fun h => absurd h h0⟩ hb
          have hw2 : IntKind.i64.wrap ((i : Int) - 1) = ((i - 1 : Nat) : Int) := by rw [wrapI _ (by omega)]; omega
          have h0' : (0 : Int) < (i : Int) := by omega
          have q3 : xs[i]?.getD 0 ≤ xs[i - 1]?.getD 0 := by
            by_cases q3 : xs[i]?.getD 0 ≤ xs[i - 1]?.getD 0
            · exact q3
            · exact absurd ⟨by omega, by omega, fun h => by omega⟩ hb
          (try (simp -implicitDefEqProofs only [go_sem, h', hw, hw2, hwm, h0', q3, hs])); repeat' first | with_reducible exact True.intro | with_reducible refine And.intro ?_ ?_ | with_reducible intro _ | (((with_reducible refine isCall ?_); first | refine call_b (c1) rfl ?_ ?_ | refine call_d (c1) rfl ?_ | refine call_sb (c1) rfl ?_ ?_ | refine call_s (c1) rfl rfl ?_) <;> try (simp -implicitDefEqProofs only [go_sem, h', hw, hw2, hwm, h0', q3, hs])) | (((with_reducible refine vc_b ?_ ?_) <;> intro _) <;> try (simp -implicitDefEqProofs only [go_sem, h', hw, hw2, hwm, h0', q3, hs])) | simp (disch := omega) only [wrapI, wrapU, shl1, shl1', shl1'', shrN, shrN', and_one] | ((with_reducible refine isEx ?_); refine ⟨_, rfl, ?_, ?_⟩)
          all_goals first | omega | (simp; done) | (simp; omega) | skip
          all_goals first | (simp at *; done) | (simp at *; omega) | skip
        · rw [decide_eq_false q1] at c1
          (try (simp -implicitDefEqProofs only [go_sem, h', hw, hwm, hs])); repeat' first | with_reducible exact True.intro | with_reducible refine And.intro ?_ ?_ | with_reducible intro _ | (((with_reducible refine isCall ?_); first | refine call_b (c1) rfl ?_ ?_ | refine call_d (c1) rfl ?_ | refine call_sb (c1) rfl ?_ ?_ | refine call_s (c1) rfl rfl ?_) <;> try (simp -implicitDefEqProofs only [go_sem, h', hw, hwm, hs])) | (((with_reducible refine vc_b ?_ ?_) <;> intro _) <;> try (simp -implicitDefEqProofs only [go_sem, h', hw, hwm, hs])) | simp (disch := omega) only [wrapI, wrapU, shl1, shl1', shl1'', shrN, shrN', and_one] | ((with_reducible refine isEx ?_); refine ⟨_, rfl, ?_, ?_⟩)
          all_goals first | omega | (simp; done) | (simp; omega) | skip
    · have h' : ¬ (i : Int) < (xs.length : Int) := by omega
      have hs : marksB xs m = true := marks_yes fun j hj => h2 j (by omega)
      (try (simp -implicitDefEqProofs only [go_sem, h', hs])); repeat' first | with_reducible exact True.intro | with_reducible refine And.intro ?_ ?_ | with_reducible intro _ | (((with_reducible refine vc_b ?_ ?_) <;> intro _) <;> try (simp -implicitDefEqProofs only [go_sem, h', hs])) | simp (disch := omega) only [wrapI, wrapU, shl1, shl1', shl1'', shrN, shrN', and_one] | ((with_reducible refine isEx ?_); refine ⟨_, rfl, ?_, ?_⟩)
      all_goals first | omega | (simp; done) | (simp; omega) | skip

theorem ref05_in_ret (nl : Bool) (xs : List Int) (n : Int) : Ret E0 F_ref05_in [.list nl (ints xs), .int .i64 n] (.bool (inB xs n)) := by
  refine ret_of_pw dec_ref05_in mixed (by simp) fun hwf => ?_
  simp only [wf_int, wf_bool, wf_ints, wf_list, wf_agg, wf_ptr, wf_fn, wf_tup, wf_all_cons, wf_all_nil, wf_all_map, inK_i64, maxLen_eq, List.length_map, ints_len, true_and, and_true] at hwf
  rw [enter_eq]; unfold pc_ref05_in
  (try (simp -implicitDefEqProofs only [go_sem])); repeat' first | with_reducible exact True.intro | with_reducible refine And.intro ?_ ?_ | with_reducible intro _ | (((with_reducible refine vc_b ?_ ?_) <;> intro _) <;> try (simp -implicitDefEqProofs only [go_sem])) | simp (disch := omega) only [wrapI, wrapU, shl1, shl1', shl1'', shrN, shrN', and_one] | ((with_reducible refine isEx ?_); refine ⟨_, rfl, ?_, ?_⟩)
  refine pw_loopS (α := Nat) (l0 := ?l2) (m0 := ?m2) (fun x => [(5, .d (.int .i64 (x : Int)))]) (fun x => []) (fun x => x ≤ xs.length ∧ ∀ j, j < x → xs[j]?.getD 0 ≠ n) (fun x => xs.length - x) 0 ?h02 ?he2 ?he22 ?hI2 ?step2
  case h02 => (simp -implicitDefEqProofs only [go_sem]; rfl)
  case he2 => rfl
  case he22 => rfl
  case' step2 => (rintro i hI; try dsimp only at hI)
  case' hI2 => try dsimp only
  · exact ⟨by omega, fun j hj => absurd hj (by omega)⟩
  · obtain ⟨h1, h2⟩ := hI
    by_cases h : i < xs.length
    · have h' : (i : Int) < (xs.length : Int) := by omega
      have hw : IntKind.i64.wrap ((i : Int) + 1) = ((i + 1 : Nat) : Int) := by rw [wrapI _ (by omega)]; omega
      by_cases hb : xs[i]?.getD 0 = n
      · have hs := inB_yes h hb
        (try (simp -implicitDefEqProofs only [go_sem, h', hw, hb, hs])); repeat' first | with_reducible exact True.intro | with_reducible refine And.intro ?_ ?_ | with_reducible intro _ | (((with_reducible refine vc_b ?_ ?_) <;> intro _) <;> try (simp -implicitDefEqProofs only [go_sem, h', hw, hb, hs])) | simp (disch := omega) only [wrapI, wrapU, shl1, shl1', shl1'', shrN, shrN', and_one] | ((with_reducible refine isEx ?_); refine ⟨_, rfl, ?_, ?_⟩)
        all_goals first | omega | (simp; done) | (simp; omega) | skip
      · (try (simp -implicitDefEqProofs only [go_sem, h', hw, hb])); repeat' first | with_reducible exact True.intro | with_reducible refine And.intro ?_ ?_ | with_reducible intro _ | (((with_reducible refine vc_b ?_ ?_) <;> intro _) <;> try (simp -implicitDefEqProofs only [go_sem, h', hw, hb])) | simp (disch := omega) only [wrapI, wrapU, shl1, shl1', shl1'', shrN, shrN', and_one] | ((with_reducible refine isEx ?_); refine ⟨_, rfl, ?_, ?_⟩)
        all_goals first | omega | (simp; done) | (simp; omega) | skip
        all_goals first
          | (rename_i j hj
             rcases Nat.lt_succ_iff_lt_or_eq.1 hj with hj | rfl
             · exact h2 j hj
             · exact hb)
          | skip
    · have h' : ¬ (i : Int) < (xs.length : Int) := by omega
      have hs : inB xs n = false := inB_no fun j hj => h2 j (by omega)
      (try (simp -implicitDefEqProofs only [go_sem, h', hs])); repeat' first | with_reducible exact True.intro | with_reducible refine And.intro ?_ ?_ | with_reducible intro _ | (((with_reducible refine vc_b ?_ ?_) <;> intro _) <;> try (simp -implicitDefEqProofs only [go_sem, h', hs])) | simp (disch := omega) only [wrapI, wrapU, shl1, shl1', shl1'', shrN, shrN', and_one] | ((with_reducible refine isEx ?_); refine ⟨_, rfl, ?_, ?_⟩)
      all_goals first | omega | (simp; done) | (simp; omega) | skip

theorem Index_int_ret (nl : Bool) (xs : List Int) (n : Int) : ∃ r : Int, (decide (0 ≤ r) = inB xs n) ∧ Ret E0 F_slices_Index_int_int [.list nl (ints xs), .int .i64 n] (.int .i64 r) := by
  obtain ⟨r, hr⟩ : ∃ r : Int, r = match xs.findIdx? (fun x => decide (n = x)) with | some i => (i : Int) | none => -1 := ⟨_, rfl⟩
  refine ⟨r, ?_, ?_⟩
  · rw [hr]
    cases hf : xs.findIdx? (fun x => decide (n = x)) with
    | none =>
      rw [List.findIdx?_eq_none_iff] at hf
      rw [inB_no fun i hi h => ?_]
      · rfl
      · have := hf (xs[i]?.getD 0) (by rw [List.getElem?_eq_getElem hi]; simp)
        simp [h] at this
    | some i =>
      rw [List.findIdx?_eq_some_iff_getElem] at hf
      have := hf.2.1
      have hx : n = xs[i]'hf.1 := by simpa using this
      rw [inB_yes hf.1 (by rw [List.getElem?_eq_getElem hf.1, Option.getD_some]; exact hx.symm)]
      simp
  · refine ret_of_pw dec_slices_Index_int_int mixed (by simp) fun hwf => ?_
    simp only [wf_int, wf_bool, wf_ints, wf_list, wf_agg, wf_ptr, wf_fn, wf_tup, wf_all_cons, wf_all_nil, wf_all_map, inK_i64, maxLen_eq, List.length_map, ints_len, true_and, and_true] at hwf
    rw [enter_eq]; unfold pc_slices_Index_int_int
    (try (simp -implicitDefEqProofs only [go_sem])); repeat' first | with_reducible exact True.intro | with_reducible refine And.intro ?_ ?_ | with_reducible intro _ | (((with_reducible refine vc_b ?_ ?_) <;> intro _) <;> try (simp -implicitDefEqProofs only [go_sem])) | simp (disch := omega) only [wrapI, wrapU, shl1, shl1', shl1'', shrN, shrN', and_one] | ((with_reducible refine isEx ?_); refine ⟨_, rfl, ?_, ?_⟩)
    refine pw_loopS (α := Nat) (l0 := ?l3) (m0 := ?m3) (fun x => [(8, .d (.int .i64 (x : Int)))]) (fun x => []) (fun x => x ≤ xs.length ∧ ∀ j, j < x → xs[j]?.getD 0 ≠ n) (fun x => xs.length - x) 0 ?h03 ?he3 ?he23 ?hI3 ?step3
    case h03 => (simp -implicitDefEqProofs only [go_sem]; rfl)
    case he3 => rfl
    case he23 => rfl
    case' step3 => (rintro i hI; try dsimp only at hI)
    case' hI3 => try dsimp only
    · exact ⟨by omega, fun j hj => absurd hj (by omega)⟩
    · obtain ⟨h1, h2⟩ := hI
      by_cases h : i < xs.length
      · have h' : (i : Int) < (xs.length : Int) := by omega
        have hw : IntKind.i64.wrap ((i : Int) + 1) = ((i + 1 : Nat) : Int) := by rw [wrapI _ (by omega)]; omega
        by_cases hb : n = xs[i]?.getD 0
        · have hi : r = (i : Int) := by
            rw [hr]
            have : xs.findIdx? (fun x => decide (n = x)) = some i := by
              rw [List.findIdx?_eq_some_iff_getElem]
              refine ⟨h, ?_, fun j hj => ?_⟩
              · rw [List.getElem?_eq_getElem h] at hb; simpa using hb
              · have := h2 j hj
                rw [List.getElem?_eq_getElem (by omega), Option.getD_some] at this
                simpa using fun e => this e.symm
            rw [this]
          rw [hi]
          have hb1 := hb
          (try (simp -implicitDefEqProofs only [go_sem, h', hw, ← hb])); repeat' first | with_reducible exact True.intro | with_reducible refine And.intro ?_ ?_ | with_reducible intro _ | (((with_reducible refine vc_b ?_ ?_) <;> intro _) <;> try (simp -implicitDefEqProofs only [go_sem, h', hw, ← hb])) | simp (disch := omega) only [wrapI, wrapU, shl1, shl1', shl1'', shrN, shrN', and_one] | ((with_reducible refine isEx ?_); refine ⟨_, rfl, ?_, ?_⟩)
          all_goals first | omega | (simp; done) | (simp; omega) | skip
        · (try (simp -implicitDefEqProofs only [go_sem, h', hw, hb])); repeat' first | with_reducible exact True.intro | with_reducible refine And.intro ?_ ?_ | with_reducible intro _ | (((with_reducible refine vc_b ?_ ?_) <;> intro _) <;> try (simp -implicitDefEqProofs only [go_sem, h', hw, hb])) | simp (disch := omega) only [wrapI, wrapU, shl1, shl1', shl1'', shrN, shrN', and_one] | ((with_reducible refine isEx ?_); refine ⟨_, rfl, ?_, ?_⟩)
          all_goals first | omega | (simp; done) | (simp; omega) | skip
          all_goals first
            | (rename_i j hj
               rcases Nat.lt_succ_iff_lt_or_eq.1 hj with hj | rfl
               · exact h2 j hj
               · exact fun e => hb e.symm)
            | skip
      · have h' : ¬ (i : Int) < (xs.length : Int) := by omega
        have hi : r = -1 := by
          rw [hr]
          have : xs.findIdx? (fun x => decide (n = x)) = none := by
            rw [List.findIdx?_eq_none_iff]
            intro x hx
            obtain ⟨j, hj, rfl⟩ := List.getElem_of_mem hx
            have := h2 j (by omega)
            rw [List.getElem?_eq_getElem hj, Option.getD_some] at this
            simpa using fun e => this e.symm
          rw [this]
        rw [hi]
        (try (simp -implicitDefEqProofs only [go_sem, h'])); repeat' first | with_reducible exact True.intro | with_reducible refine And.intro ?_ ?_ | with_reducible intro _ | (((with_reducible refine vc_b ?_ ?_) <;> intro _) <;> try (simp -implicitDefEqProofs only [go_sem, h'])) | simp (disch := omega) only [wrapI, wrapU, shl1, shl1', shl1'', shrN, shrN', and_one] | ((with_reducible refine isEx ?_); refine ⟨_, rfl, ?_, ?_⟩)
        all_goals first | omega | (simp; done) | (simp; omega) | skip

theorem Contains_int_ret (nl : Bool) (xs : List Int) (n : Int) : Ret E0 F_slices_Contains_int_int [.list nl (ints xs), .int .i64 n] (.bool (inB xs n)) := by
  refine ret_of_pw dec_slices_Contains_int_int mixed (by simp) fun hwf => ?_
  obtain ⟨r, hr, c1⟩ := Index_int_ret nl xs n
  rw [enter_eq]; unfold pc_slices_Contains_int_int
  rw [← hr]
  by_cases h : 0 ≤ r
  · (try (simp -implicitDefEqProofs only [go_sem, h])); repeat' first | with_reducible exact True.intro | with_reducible refine And.intro ?_ ?_ | with_reducible intro _ | (((with_reducible refine isCall ?_); first | refine call_b (c1) rfl ?_ ?_ | refine call_d (c1) rfl ?_ | refine call_sb (c1) rfl ?_ ?_ | refine call_s (c1) rfl rfl ?_) <;> try (simp -implicitDefEqProofs only [go_sem, h])) | (((with_reducible refine vc_b ?_ ?_) <;> intro _) <;> try (simp -implicitDefEqProofs only [go_sem, h])) | simp (disch := omega) only [wrapI, wrapU, shl1, shl1', shl1'', shrN, shrN', and_one] 
    all_goals first | rfl | (simp at *; done) | (simp [h])
  · (try (simp -implicitDefEqProofs only [go_sem, h])); repeat' first | with_reducible exact True.intro | with_reducible refine And.intro ?_ ?_ | with_reducible intro _ | (((with_reducible refine isCall ?_); first | refine call_b (c1) rfl ?_ ?_ | refine call_d (c1) rfl ?_ | refine call_sb (c1) rfl ?_ ?_ | refine call_s (c1) rfl rfl ?_) <;> try (simp -implicitDefEqProofs only [go_sem, h])) | (((with_reducible refine vc_b ?_ ?_) <;> intro _) <;> try (simp -implicitDefEqProofs only [go_sem, h])) | simp (disch := omega) only [wrapI, wrapU, shl1, shl1', shl1'', shrN, shrN', and_one] 
    all_goals first | rfl | (simp at *; done) | (simp [h])
end Go.Pw
end
section
open Go Go.Pw Go.Proofs
namespace Go.Pw
set_option linter.unusedSimpArgs false
set_option linter.unusedVariables false
set_option maxRecDepth 100000
set_option maxHeartbeats 3200000
theorem take_succ_iv (w : List F) (i : Nat) (h : i < w.length) : w.take i ++ [w[i]?.getD 0] = w.take (i + 1) := by
  rw [List.take_succ, List.getElem?_eq_getElem h]; rfl
theorem emp_take {α : Type} (w : List α) : (w.take w.length).isEmpty = w.isEmpty := by rw [List.take_length]
theorem emp_snoc {α : Type} (w : List α) (x : α) : (w ++ [x]).isEmpty = false := by cases w <;> rfl
attribute [local congr] cg_pw cg_seqI cg_seqE cg_stepI cg_ev cg_evBin cg_condB cg_condV cg_thenQ cg_blockQ cg_onSome cg_onCells cg_onRow cg_onRow2 cg_onMtx cg_frmV cg_fraV cg_frcV cg_frcO cg_frcX cg_fraO cg_owmV cg_ghosts cg_ghost cg_evCall cg_part cg_rng cg_guardV cg_frzV cg_frpV cg_ownV cg_resK cg_res1
attribute [local irreducible] IntKind.wrap bitsOp Option.getD and or

theorem Clone_sym_own (nl : Bool) (xs : List F) (hl : xs.length ≤ 1000) (hne : 0 < xs.length) (hnl : nl = false) : CallM E0 F_slices_Clone_correct_symbol_correct_symbol [] [.d (.list nl (us xs))] [(7, 1, .row 89 1 false (us xs))] (.own 7 1) := by
  subst hnl
  refine callM_of_pw dec_slices_Clone_correct_symbol_correct_symbol mixed (by simp) (by simp [okV0, nodupB, lim]) (by simp [hasN]) fun hwf hwo => ?_
  rw [enterM_eq]; unfold pc_slices_Clone_correct_symbol_correct_symbol
  have hn : ¬ xs = [] := by intro h; rw [h] at hne; simp at hne
  (try (simp -implicitDefEqProofs only [go_sem, hn])); repeat' first | with_reducible exact True.intro | with_reducible refine And.intro ?_ ?_ | with_reducible intro _ | (((with_reducible refine vc_b ?_ ?_) <;> intro _) <;> try (simp -implicitDefEqProofs only [go_sem, hn])) | simp (disch := omega) only [wrapI, wrapU, shl1, shl1', shl1'', shrN, shrN', and_one] 
  all_goals first | omega | rfl

theorem symbols_1_ret (a : F) : Ret E0 F_correct_symbols_1 [.int .i64 (a.val : Int)] (.int .u8 (a.val : Int)) := by
  refine ret_of_pw dec_correct_symbols_1 mixed (by simp) fun hwf => ?_
  rw [enter_eq]; unfold pc_correct_symbols_1
  (try (simp -implicitDefEqProofs only [go_sem, wrap8])); repeat' first | with_reducible exact True.intro | with_reducible refine And.intro ?_ ?_ | with_reducible intro _ | (((with_reducible refine vc_b ?_ ?_) <;> intro _) <;> try (simp -implicitDefEqProofs only [go_sem, wrap8])) | simp (disch := omega) only [wrapI, wrapU, shl1, shl1', shl1'', shrN, shrN', and_one] 
  all_goals rfl
theorem numbers_1_ret (a : F) : Ret E0 F_correct_numbers_1 [.int .u8 (a.val : Int)] (.int .i64 (a.val : Int)) := by
  refine ret_of_pw dec_correct_numbers_1 mixed (by simp) fun hwf => ?_
  rw [enter_eq]; unfold pc_correct_numbers_1
  (try (simp -implicitDefEqProofs only [go_sem, wrap64])); repeat' first | with_reducible exact True.intro | with_reducible refine And.intro ?_ ?_ | with_reducible intro _ | (((with_reducible refine vc_b ?_ ?_) <;> intro _) <;> try (simp -implicitDefEqProofs only [go_sem, wrap64])) | simp (disch := omega) only [wrapI, wrapU, shl1, shl1', shl1'', shrN, shrN', and_one] 
  all_goals rfl

theorem convert_is_ret (nl : Bool) (w : List F) (hl : w.length ≤ 1000000) : Ret E0 F_correct_convert_int_correct_symbol [.list nl (ints (iv w)), .fn F_correct_symbols_1 []] (.list w.isEmpty (us w)) := by
  refine ret_of_pw dec_correct_convert_int_correct_symbol mixed (by simp) fun hwf => ?_
  rw [enter_eq]; unfold pc_correct_convert_int_correct_symbol
  (try (simp -implicitDefEqProofs only [go_sem])); repeat' first | with_reducible exact True.intro | with_reducible refine And.intro ?_ ?_ | with_reducible intro _ | (((with_reducible refine vc_b ?_ ?_) <;> intro _) <;> try (simp -implicitDefEqProofs only [go_sem])) | simp (disch := omega) only [wrapI, wrapU, shl1, shl1', shl1'', shrN, shrN', and_one] | ((with_reducible refine isEx3 ?_); refine ⟨(_, _, _), rfl, ?_, ?_⟩)
  refine pw_loopS (α := Nat × Bool × (List F)) (l0 := ?l1) (m0 := ?m1) (fun x => [(10, .d (.int .i64 (x.1 : Int)))]) (fun x => [(19, .row 89 1 x.2.1 (us x.2.2))]) (fun x => x.1 ≤ w.length ∧ x.2.2 = w.take x.1 ∧ x.2.1 = x.2.2.isEmpty) (fun x => w.length - x.1) (0, true, []) ?h01 ?he1 ?he21 ?hI1 ?step1
  case h01 => (simp -implicitDefEqProofs only [go_sem]; rfl)
  case he1 => rfl
  case he21 => rfl
  case' step1 => (rintro ⟨i, b, l⟩ hI; try dsimp only at hI)
  case' hI1 => try dsimp only
  · exact ⟨by omega, rfl, rfl⟩
  · obtain ⟨h1, h2, h3⟩ := hI
    subst h2 h3
    by_cases h : i < w.length
    · have h' : (i : Int) < (w.length : Int) := by omega
      have hw : IntKind.i64.wrap ((i : Int) + 1) = ((i + 1 : Nat) : Int) := by rw [wrapI _ (by omega)]; omega
      have c1 := symbols_1_ret (w[i]?.getD 0)
      have hs := take_succ_iv w i h
      (try (simp -implicitDefEqProofs only [go_sem, h', hw, body_symbols_1, hs])); repeat' first | with_reducible exact True.intro | with_reducible refine And.intro ?_ ?_ | with_reducible intro _ | (((with_reducible refine isCall ?_); first | refine call_b (c1) rfl ?_ ?_ | refine call_d (c1) rfl ?_ | refine call_sb (c1) rfl ?_ ?_ | refine call_s (c1) rfl rfl ?_) <;> try (simp -implicitDefEqProofs only [go_sem, h', hw, body_symbols_1, hs])) | (((with_reducible refine vc_b ?_ ?_) <;> intro _) <;> try (simp -implicitDefEqProofs only [go_sem, h', hw, body_symbols_1, hs])) | simp (disch := omega) only [wrapI, wrapU, shl1, shl1', shl1'', shrN, shrN', and_one] | ((with_reducible refine isEx3 ?_); refine ⟨(_, _, _), rfl, ?_, ?_⟩)
      all_goals first | omega | (simp; done) | (simp; omega) | skip
      all_goals first | omega | (rw [← hs]; exact (emp_snoc _ _).symm) | (simp at *; done) | (simp at *; omega) | skip
    · have h' : ¬ (i : Int) < (w.length : Int) := by omega
      have hk : i = w.length := by omega
      subst hk
      (try (simp -implicitDefEqProofs only [go_sem, h', emp_take])); repeat' first | with_reducible exact True.intro | with_reducible refine And.intro ?_ ?_ | with_reducible intro _ | (((with_reducible refine vc_b ?_ ?_) <;> intro _) <;> try (simp -implicitDefEqProofs only [go_sem, h', emp_take])) | simp (disch := omega) only [wrapI, wrapU, shl1, shl1', shl1'', shrN, shrN', and_one] | ((with_reducible refine isEx3 ?_); refine ⟨(_, _, _), rfl, ?_, ?_⟩)
      all_goals first | omega | (simp; done) | (simp; omega) | skip
      all_goals first | rfl | skip

theorem convert_si_ret (nl : Bool) (w : List F) (hl : w.length ≤ 1000000) : Ret E0 F_correct_convert_correct_symbol_int [.list nl (us w), .fn F_correct_numbers_1 []] (.list w.isEmpty (ints (iv w))) := by
  refine ret_of_pw dec_correct_convert_correct_symbol_int mixed (by simp) fun hwf => ?_
  rw [enter_eq]; unfold pc_correct_convert_correct_symbol_int
  (try (simp -implicitDefEqProofs only [go_sem])); repeat' first | with_reducible exact True.intro | with_reducible refine And.intro ?_ ?_ | with_reducible intro _ | (((with_reducible refine vc_b ?_ ?_) <;> intro _) <;> try (simp -implicitDefEqProofs only [go_sem])) | simp (disch := omega) only [wrapI, wrapU, shl1, shl1', shl1'', shrN, shrN', and_one] | ((with_reducible refine isEx3 ?_); refine ⟨(_, _, _), rfl, ?_, ?_⟩)
  refine pw_loopS (α := Nat × Bool × (List F)) (l0 := ?l2) (m0 := ?m2) (fun x => [(10, .d (.int .i64 (x.1 : Int)))]) (fun x => [(19, .row 3 1 x.2.1 (ints (iv x.2.2)))]) (fun x => x.1 ≤ w.length ∧ x.2.2 = w.take x.1 ∧ x.2.1 = x.2.2.isEmpty) (fun x => w.length - x.1) (0, true, []) ?h02 ?he2 ?he22 ?hI2 ?step2
  case h02 => (simp -implicitDefEqProofs only [go_sem]; rfl)
  case he2 => rfl
  case he22 => rfl
  case' step2 => (rintro ⟨i, b, l⟩ hI; try dsimp only at hI)
  case' hI2 => try dsimp only
  · exact ⟨by omega, rfl, rfl⟩
  · obtain ⟨h1, h2, h3⟩ := hI
    subst h2 h3
    by_cases h : i < w.length
    · have h' : (i : Int) < (w.length : Int) := by omega
      have hw : IntKind.i64.wrap ((i : Int) + 1) = ((i + 1 : Nat) : Int) := by rw [wrapI _ (by omega)]; omega
      have c1 := numbers_1_ret (w[i]?.getD 0)
      have hs := take_succ_iv w i h
      (try (simp -implicitDefEqProofs only [go_sem, h', hw, body_numbers_1, hs])); repeat' first | with_reducible exact True.intro | with_reducible refine And.intro ?_ ?_ | with_reducible intro _ | (((with_reducible refine isCall ?_); first | refine call_b (c1) rfl ?_ ?_ | refine call_d (c1) rfl ?_ | refine call_sb (c1) rfl ?_ ?_ | refine call_s (c1) rfl rfl ?_) <;> try (simp -implicitDefEqProofs only [go_sem, h', hw, body_numbers_1, hs])) | (((with_reducible refine vc_b ?_ ?_) <;> intro _) <;> try (simp -implicitDefEqProofs only [go_sem, h', hw, body_numbers_1, hs])) | simp (disch := omega) only [wrapI, wrapU, shl1, shl1', shl1'', shrN, shrN', and_one] | ((with_reducible refine isEx3 ?_); refine ⟨(_, _, _), rfl, ?_, ?_⟩)
      all_goals first | omega | (simp; done) | (simp; omega) | skip
      all_goals first | omega | (rw [← hs]; exact (emp_snoc _ _).symm) | (simp at *; done) | (simp at *; omega) | skip
    · have h' : ¬ (i : Int) < (w.length : Int) := by omega
      have hk : i = w.length := by omega
      subst hk
      (try (simp -implicitDefEqProofs only [go_sem, h', emp_take])); repeat' first | with_reducible exact True.intro | with_reducible refine And.intro ?_ ?_ | with_reducible intro _ | (((with_reducible refine vc_b ?_ ?_) <;> intro _) <;> try (simp -implicitDefEqProofs only [go_sem, h', emp_take])) | simp (disch := omega) only [wrapI, wrapU, shl1, shl1', shl1'', shrN, shrN', and_one] | ((with_reducible refine isEx3 ?_); refine ⟨(_, _, _), rfl, ?_, ?_⟩)
      all_goals first | omega | (simp; done) | (simp; omega) | skip
      all_goals first | rfl | skip

theorem symbols_ret (nl : Bool) (w : List F) (hl : w.length ≤ 1000000) : Ret E0 F_correct_symbols [.list nl (ints (iv w))] (.list w.isEmpty (us w)) := by
  refine ret_of_pw dec_correct_symbols mixed (by simp) fun hwf => ?_
  rw [enter_eq]; unfold pc_correct_symbols
  have c1 := convert_is_ret nl w hl
  (try (simp -implicitDefEqProofs only [go_sem])); repeat' first | with_reducible exact True.intro | with_reducible refine And.intro ?_ ?_ | with_reducible intro _ | (((with_reducible refine isCall ?_); first | refine call_b (c1) rfl ?_ ?_ | refine call_d (c1) rfl ?_ | refine call_sb (c1) rfl ?_ ?_ | refine call_s (c1) rfl rfl ?_) <;> try (simp -implicitDefEqProofs only [go_sem])) | (((with_reducible refine vc_b ?_ ?_) <;> intro _) <;> try (simp -implicitDefEqProofs only [go_sem])) | simp (disch := omega) only [wrapI, wrapU, shl1, shl1', shl1'', shrN, shrN', and_one] 
  all_goals rfl
theorem numbers_ret (nl : Bool) (w : List F) (hl : w.length ≤ 1000000) : Ret E0 F_correct_numbers [.list nl (us w)] (.list w.isEmpty (ints (iv w))) := by
  refine ret_of_pw dec_correct_numbers mixed (by simp) fun hwf => ?_
  rw [enter_eq]; unfold pc_correct_numbers
  have c1 := convert_si_ret nl w hl
  (try (simp -implicitDefEqProofs only [go_sem])); repeat' first | with_reducible exact True.intro | with_reducible refine And.intro ?_ ?_ | with_reducible intro _ | (((with_reducible refine isCall ?_); first | refine call_b (c1) rfl ?_ ?_ | refine call_d (c1) rfl ?_ | refine call_sb (c1) rfl ?_ ?_ | refine call_s (c1) rfl rfl ?_) <;> try (simp -implicitDefEqProofs only [go_sem])) | (((with_reducible refine vc_b ?_ ?_) <;> intro _) <;> try (simp -implicitDefEqProofs only [go_sem])) | simp (disch := omega) only [wrapI, wrapU, shl1, shl1', shl1'', shrN, shrN', and_one] 
  all_goals rfl
end Go.Pw
end
