/- A part of the proof. -/
import Derived.Test.YtlnppoaghpbpoaaServoM
set_option linter.all false
open Go Go.Pw Go.Proofs
namespace Go.Pw
set_option linter.unusedSimpArgs false
set_option linter.unusedVariables false
set_option maxRecDepth 100000
set_option maxHeartbeats 1600000

def exServo : GServo := ⟨4, 4, 2, 1, 0, false, [0, 1]⟩
def exWedges : List Pair := [(1, 0), (1, 1), (3, -1)]
theorem ex_where : exServo.ahead exWedges 0 = ([(6, 8)], 0) := by decide +kernel
theorem ex_gate : exServo.gate exWedges 2 5 = (2, 0) := by decide +kernel
theorem ex_track : trackI 3 = 2 := by decide +kernel

attribute [local congr] cg_pw cg_seqI cg_seqE cg_stepI cg_ev cg_evBin cg_condB cg_condV cg_thenQ cg_blockQ cg_onSome cg_onCells cg_onRow cg_onMap cg_onOpt cg_ghosts cg_ghost cg_evCall cg_part cg_rng cg_guardV cg_frzV cg_frpV cg_ownV cg_owcV cg_occV cg_occX cg_resK cg_res1
attribute [local irreducible] IntKind.wrap bitsOp Option.getD and or

theorem keyEq_pair (p q : Pair) : keyEq (pairD p) (pairD q) = decide (p = q) := by
  obtain ⟨a, b⟩ := p; obtain ⟨a', b'⟩ := q
  simp [keyEq, pairD, D.cells, allEq, primEq, Prod.ext_iff]

theorem keyEq_pair2 (p q : Pair) : keyEq (.agg [.int .i64 p.1, .int .i64 p.2]) (.agg [.int .i64 q.1, .int .i64 q.2]) = decide (p = q) := keyEq_pair p q
theorem law02_sameSpans_ret (n m : Bool) (a b : List Pair) : Ret E0 F_law02_sameSpans [.list n (pairsD a), .list m (pairsD b)] (.bool (decide (a = b))) := by
  refine ret_of_pw dec_law02_sameSpans mixed (by simp) fun hwf => ?_
  simp only [wf_int, wf_bool, wf_ints, wf_list, wf_agg, wf_ptr, wf_fn, wf_tup, wf_all_cons, wf_all_nil, wf_all_map, inK_i64, maxLen_eq, List.length_map, ints_len, true_and, and_true, pairsD_len] at hwf
  rw [enter_eq]; unfold pc_law02_sameSpans
  by_cases hl : a.length = b.length
  · (try (simp -implicitDefEqProofs only [go_sem, pairsD_len, hl])); repeat' first | with_reducible exact True.intro | with_reducible refine And.intro ?_ ?_ | with_reducible intro _ | (((with_reducible refine vc_b ?_ ?_) <;> intro _) <;> try (simp -implicitDefEqProofs only [go_sem, pairsD_len, hl])) | simp (disch := omega) only [wrapI, wrapU, shl1, shl1', shl1'', shrN, shrN', and_one] | ((with_reducible refine isEx ?_); refine ⟨_, rfl, ?_, ?_⟩)
    all_goals first | omega | (simp; done) | (simp; omega) | skip
    refine pw_loopS (α := Int) (l0 := ?l1) (m0 := ?m1) (fun x => [(5, .d (.int .i64 x))]) (fun x => []) (fun x => 0 ≤ x ∧ x ≤ a.length ∧ ∀ j : Nat, (j : Int) < x → a[j]?.getD default = b[j]?.getD default) (fun x => (a.length - x).toNat) ?a1_0 ?h01 ?he1 ?he21 ?hI1 ?step1
    case h01 => (simp -implicitDefEqProofs only [go_sem, pairsD_len, hl]; rfl)
    case he1 => rfl
    case he21 => rfl
    case' step1 => (rintro i hI; try dsimp only at hI)
    case' hI1 => try dsimp only
    · exact ⟨by omega, by omega, fun j hj => by omega⟩
    · obtain ⟨h1, h2, h3⟩ := hI
      by_cases hi : i < a.length
      · by_cases he : a[i.toNat]?.getD default = b[i.toNat]?.getD default
        · have hstep : ∀ j : Nat, (j : Int) < i + 1 → a[j]?.getD default = b[j]?.getD default := fun j hj => by
            rcases (show (j : Int) < i ∨ j = i.toNat by omega) with h | h
            · exact h3 j h
            · rw [h]; exact he
          (try (simp -implicitDefEqProofs only [go_sem, pairsD_len, onSome_pairs, pairsD_unif, pairD_eq, keyEq_pair2, he, hl, decide_true, decide_false])); repeat' first | with_reducible exact True.intro | with_reducible refine And.intro ?_ ?_ | with_reducible intro _ | (((with_reducible refine vc_b ?_ ?_) <;> intro _) <;> try (simp -implicitDefEqProofs only [go_sem, pairsD_len, onSome_pairs, pairsD_unif, pairD_eq, keyEq_pair2, he, hl, decide_true, decide_false])) | simp (disch := omega) only [wrapI, wrapU, shl1, shl1', shl1'', shrN, shrN', and_one] | ((with_reducible refine isEx ?_); refine ⟨_, rfl, ?_, ?_⟩)
          all_goals first | omega | (simp; done) | (simp; omega) | skip
          all_goals (apply hstep; assumption)
        · have hne : decide (a = b) = false := by simp only [decide_eq_false_iff_not]; rintro rfl; exact he rfl
          rw [hne]
          (try (simp -implicitDefEqProofs only [go_sem, pairsD_len, onSome_pairs, pairsD_unif, pairD_eq, keyEq_pair2, he, hl, decide_true, decide_false])); repeat' first | with_reducible exact True.intro | with_reducible refine And.intro ?_ ?_ | with_reducible intro _ | (((with_reducible refine vc_b ?_ ?_) <;> intro _) <;> try (simp -implicitDefEqProofs only [go_sem, pairsD_len, onSome_pairs, pairsD_unif, pairD_eq, keyEq_pair2, he, hl, decide_true, decide_false])) | simp (disch := omega) only [wrapI, wrapU, shl1, shl1', shl1'', shrN, shrN', and_one] | ((with_reducible refine isEx ?_); refine ⟨_, rfl, ?_, ?_⟩)
          all_goals first | omega | (simp; done) | (simp; omega) | skip
      · have heq : a = b := by
          refine List.ext_getElem hl fun j h4 h5 => ?_
          have := h3 j (by omega)
          rwa [List.getElem?_eq_getElem h4, List.getElem?_eq_getElem h5, Option.getD_some, Option.getD_some] at this
        rw [show decide (a = b) = true by simpa using heq]
        (try (simp -implicitDefEqProofs only [go_sem, pairsD_len, hl])); repeat' first | with_reducible exact True.intro | with_reducible refine And.intro ?_ ?_ | with_reducible intro _ | (((with_reducible refine vc_b ?_ ?_) <;> intro _) <;> try (simp -implicitDefEqProofs only [go_sem, pairsD_len, hl])) | simp (disch := omega) only [wrapI, wrapU, shl1, shl1', shl1'', shrN, shrN', and_one] | ((with_reducible refine isEx ?_); refine ⟨_, rfl, ?_, ?_⟩)
        all_goals first | omega | (simp; done) | (simp; omega) | skip
  · have hne : decide (a = b) = false := by simp only [decide_eq_false_iff_not]; rintro rfl; exact hl rfl
    rw [hne]
    (try (simp -implicitDefEqProofs only [go_sem, pairsD_len])); repeat' first | with_reducible exact True.intro | with_reducible refine And.intro ?_ ?_ | with_reducible intro _ | (((with_reducible refine vc_b ?_ ?_) <;> intro _) <;> try (simp -implicitDefEqProofs only [go_sem, pairsD_len])) | simp (disch := omega) only [wrapI, wrapU, shl1, shl1', shl1'', shrN, shrN', and_one] | ((with_reducible refine isEx ?_); refine ⟨_, rfl, ?_, ?_⟩)
    all_goals first | omega | (simp; done) | (simp; omega) | skip

theorem law02_sameInts_ret (n m : Bool) (a b : List Int) : Ret E0 F_law02_sameInts [.list n (ints a), .list m (ints b)] (.bool (decide (a = b))) := by
  refine ret_of_pw dec_law02_sameInts mixed (by simp) fun hwf => ?_
  simp only [wf_int, wf_bool, wf_ints, wf_list, wf_agg, wf_ptr, wf_fn, wf_tup, wf_all_cons, wf_all_nil, wf_all_map, inK_i64, maxLen_eq, List.length_map, ints_len, true_and, and_true] at hwf
  rw [enter_eq]; unfold pc_law02_sameInts
  by_cases hl : a.length = b.length
  · (try (simp -implicitDefEqProofs only [go_sem, hl])); repeat' first | with_reducible exact True.intro | with_reducible refine And.intro ?_ ?_ | with_reducible intro _ | (((with_reducible refine vc_b ?_ ?_) <;> intro _) <;> try (simp -implicitDefEqProofs only [go_sem, hl])) | simp (disch := omega) only [wrapI, wrapU, shl1, shl1', shl1'', shrN, shrN', and_one] | ((with_reducible refine isEx ?_); refine ⟨_, rfl, ?_, ?_⟩)
    all_goals first | omega | (simp; done) | (simp; omega) | skip
    refine pw_loopS (α := Int) (l0 := ?l2) (m0 := ?m2) (fun x => [(5, .d (.int .i64 x))]) (fun x => []) (fun x => 0 ≤ x ∧ x ≤ a.length ∧ ∀ j : Nat, (j : Int) < x → a[j]?.getD 0 = b[j]?.getD 0) (fun x => (a.length - x).toNat) ?a2_0 ?h02 ?he2 ?he22 ?hI2 ?step2
    case h02 => (simp -implicitDefEqProofs only [go_sem, hl]; rfl)
    case he2 => rfl
    case he22 => rfl
    case' step2 => (rintro i hI; try dsimp only at hI)
    case' hI2 => try dsimp only
    · exact ⟨by omega, by omega, fun j hj => by omega⟩
    · obtain ⟨h1, h2, h3⟩ := hI
      by_cases hi : i < a.length
      · by_cases he : a[i.toNat]?.getD 0 = b[i.toNat]?.getD 0
        · have hstep : ∀ j : Nat, (j : Int) < i + 1 → a[j]?.getD 0 = b[j]?.getD 0 := fun j hj => by
            rcases (show (j : Int) < i ∨ j = i.toNat by omega) with h | h
            · exact h3 j h
            · rw [h]; exact he
          (try (simp -implicitDefEqProofs only [go_sem, he, hl])); repeat' first | with_reducible exact True.intro | with_reducible refine And.intro ?_ ?_ | with_reducible intro _ | (((with_reducible refine vc_b ?_ ?_) <;> intro _) <;> try (simp -implicitDefEqProofs only [go_sem, he, hl])) | simp (disch := omega) only [wrapI, wrapU, shl1, shl1', shl1'', shrN, shrN', and_one] | ((with_reducible refine isEx ?_); refine ⟨_, rfl, ?_, ?_⟩)
          all_goals first | omega | (simp; done) | (simp; omega) | skip
          all_goals (apply hstep; assumption)
        · have hne : decide (a = b) = false := by simp only [decide_eq_false_iff_not]; rintro rfl; exact he rfl
          rw [hne]
          (try (simp -implicitDefEqProofs only [go_sem, he, hl])); repeat' first | with_reducible exact True.intro | with_reducible refine And.intro ?_ ?_ | with_reducible intro _ | (((with_reducible refine vc_b ?_ ?_) <;> intro _) <;> try (simp -implicitDefEqProofs only [go_sem, he, hl])) | simp (disch := omega) only [wrapI, wrapU, shl1, shl1', shl1'', shrN, shrN', and_one] | ((with_reducible refine isEx ?_); refine ⟨_, rfl, ?_, ?_⟩)
          all_goals first | omega | (simp; done) | (simp; omega) | skip
      · have heq : a = b := ext0 hl fun j hj => h3 j (by omega)
        rw [show decide (a = b) = true by simpa using heq]
        (try (simp -implicitDefEqProofs only [go_sem, hl])); repeat' first | with_reducible exact True.intro | with_reducible refine And.intro ?_ ?_ | with_reducible intro _ | (((with_reducible refine vc_b ?_ ?_) <;> intro _) <;> try (simp -implicitDefEqProofs only [go_sem, hl])) | simp (disch := omega) only [wrapI, wrapU, shl1, shl1', shl1'', shrN, shrN', and_one] | ((with_reducible refine isEx ?_); refine ⟨_, rfl, ?_, ?_⟩)
        all_goals first | omega | (simp; done) | (simp; omega) | skip
  · have hne : decide (a = b) = false := by simp only [decide_eq_false_iff_not]; rintro rfl; exact hl rfl
    rw [hne]
    (try (simp -implicitDefEqProofs only [go_sem])); repeat' first | with_reducible exact True.intro | with_reducible refine And.intro ?_ ?_ | with_reducible intro _ | (((with_reducible refine vc_b ?_ ?_) <;> intro _) <;> try (simp -implicitDefEqProofs only [go_sem])) | simp (disch := omega) only [wrapI, wrapU, shl1, shl1', shl1'', shrN, shrN', and_one] | ((with_reducible refine isEx ?_); refine ⟨_, rfl, ?_, ?_⟩)
    all_goals first | omega | (simp; done) | (simp; omega) | skip

theorem law02_Example_ret : Ret E0 F_law02_Example [] (.tup [servoD exServo, .list false (pairsD exWedges)]) := by
  refine ret_of_pw dec_law02_Example mixed (by simp) fun hwf => ?_
  rw [enter_eq]; unfold pc_law02_Example
  (try (simp -implicitDefEqProofs only [go_sem])); repeat' first | with_reducible exact True.intro | with_reducible refine And.intro ?_ ?_ | with_reducible intro _ | (((with_reducible refine vc_b ?_ ?_) <;> intro _) <;> try (simp -implicitDefEqProofs only [go_sem])) | simp (disch := omega) only [wrapI, wrapU, shl1, shl1', shl1'', shrN, shrN', and_one] 
  all_goals first | rfl | skip

theorem law02_works_ret : Ret E0 F_law02_works [] (.bool true) := by
  refine ret_of_pw dec_law02_works mixed (by simp) fun hwf => ?_
  have c0 := law02_Example_ret
  have c1 := servo_Where_ret exServo false exWedges
  have c2 := servo_Gate_ret exServo false exWedges 2 5
  have c3 := servo_Track_ret 3
  have c4 := law02_sameSpans_ret false false [(6, 8)] [(6, 8)]
  rw [ex_where] at c1
  rw [ex_gate] at c2
  rw [show inR 3 0 127 = true from rfl, if_pos rfl, if_pos rfl, ex_track] at c3
  rw [show decide (([(6, 8)] : List Pair) = [(6, 8)]) = true from rfl] at c4
  generalize exWedges = W at *
  have hs : servoD exServo = .agg [.int .i64 4, .int .i64 4, .int .i64 2, .int .i64 1, .int .i64 0, .list false (ints [0, 1])] := rfl
  rw [hs] at c0 c1 c2
  dsimp only [pairsD_nil, List.isEmpty] at c1
  change Ret E0 _ _ (.tup [.list false [.agg [.int .i64 6, .int .i64 8]], .int .i64 0]) at c1
  change Ret E0 _ [.list false [.agg [.int .i64 6, .int .i64 8]], .list false [.agg [.int .i64 6, .int .i64 8]]] _ at c4
  rw [enter_eq]; unfold pc_law02_works
  (try (simp -implicitDefEqProofs only [go_sem])); repeat' first | with_reducible exact True.intro | with_reducible refine And.intro ?_ ?_ | with_reducible intro _ | (((with_reducible refine isCall ?_); first | refine call_b (c0) rfl ?_ ?_ | refine call_d (c0) rfl ?_ | refine call_sb (c0) rfl ?_ ?_ | refine call_s (c0) rfl rfl ?_ | refine call_b (c1) rfl ?_ ?_ | refine call_d (c1) rfl ?_ | refine call_sb (c1) rfl ?_ ?_ | refine call_s (c1) rfl rfl ?_ | refine call_b (c2) rfl ?_ ?_ | refine call_d (c2) rfl ?_ | refine call_sb (c2) rfl ?_ ?_ | refine call_s (c2) rfl rfl ?_ | refine call_b (c3) rfl ?_ ?_ | refine call_d (c3) rfl ?_ | refine call_sb (c3) rfl ?_ ?_ | refine call_s (c3) rfl rfl ?_ | refine call_b (c4) rfl ?_ ?_ | refine call_d (c4) rfl ?_ | refine call_sb (c4) rfl ?_ ?_ | refine call_s (c4) rfl rfl ?_) <;> try (simp -implicitDefEqProofs only [go_sem])) | (((with_reducible refine vc_b ?_ ?_) <;> intro _) <;> try (simp -implicitDefEqProofs only [go_sem])) | simp (disch := omega) only [wrapI, wrapU, shl1, shl1', shl1'', shrN, shrN', and_one] 
  all_goals first | omega | (simp; done) | (simp; omega) | skip

theorem ServoGrays_ret (n c : Int) : Ret E0 F_law02_ServoGrays [.int .i64 n, .int .i64 c] (.bool true) := by
  refine ret_of_pw dec_law02_ServoGrays mixed (by simp) fun hwf => ?_
  have c1 := servo_Gray_ret n
  have c2 := ref02_Gray_ret n
  have c3 := servo_Track_ret c
  have c4 := ref02_Track_ret c
  rw [enter_eq]; unfold pc_law02_ServoGrays
  generalize (if inR n 0 127 then grayI n else 0) = a at *
  generalize (if inR n 0 127 then (0 : Int) else 1) = b at *
  generalize (if inR c 0 127 then trackI c else 0) = d at *
  generalize (if inR c 0 127 then (0 : Int) else 1) = e at *
  (try (simp -implicitDefEqProofs only [go_sem])); repeat' first | with_reducible exact True.intro | with_reducible refine And.intro ?_ ?_ | with_reducible intro _ | (((with_reducible refine isCall ?_); first | refine call_b (c1) rfl ?_ ?_ | refine call_d (c1) rfl ?_ | refine call_sb (c1) rfl ?_ ?_ | refine call_s (c1) rfl rfl ?_ | refine call_b (c2) rfl ?_ ?_ | refine call_d (c2) rfl ?_ | refine call_sb (c2) rfl ?_ ?_ | refine call_s (c2) rfl rfl ?_ | refine call_b (c3) rfl ?_ ?_ | refine call_d (c3) rfl ?_ | refine call_sb (c3) rfl ?_ ?_ | refine call_s (c3) rfl rfl ?_ | refine call_b (c4) rfl ?_ ?_ | refine call_d (c4) rfl ?_ | refine call_sb (c4) rfl ?_ ?_ | refine call_s (c4) rfl rfl ?_ | refine call_b (law02_works_ret) rfl ?_ ?_ | refine call_d (law02_works_ret) rfl ?_ | refine call_sb (law02_works_ret) rfl ?_ ?_ | refine call_s (law02_works_ret) rfl rfl ?_) <;> try (simp -implicitDefEqProofs only [go_sem])) | (((with_reducible refine vc_b ?_ ?_) <;> intro _) <;> try (simp -implicitDefEqProofs only [go_sem])) | simp (disch := omega) only [wrapI, wrapU, shl1, shl1', shl1'', shrN, shrN', and_one] 
  all_goals first | omega | (simp; done) | (simp; omega) | skip
end Go.Pw
