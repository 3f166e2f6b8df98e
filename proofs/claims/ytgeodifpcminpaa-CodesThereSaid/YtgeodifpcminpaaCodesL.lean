/- The codes: CodesThere. -/
import Derived.Test.YtgeodifpcminpaaCodesK
set_option linter.all false
open Go Go.Pw Go.Proofs
namespace Go.Pw
set_option linter.unusedSimpArgs false
set_option linter.unusedVariables false
set_option maxRecDepth 100000
set_option maxHeartbeats 800000
attribute [local congr] cg_pw cg_seqI cg_seqE cg_stepI cg_ev cg_evBin cg_condB cg_condV cg_thenQ cg_blockQ cg_onSome cg_onCells cg_onRow cg_onMap cg_onOpt cg_ghosts cg_ghost cg_evCall cg_part cg_rng cg_guardV cg_frzV cg_frpV cg_ownV cg_resK cg_res1
attribute [local irreducible] IntKind.wrap bitsOp Option.getD and or

theorem CodesThere_ret (s : Int) (n1 n2 : Bool) (l m : List Int) : Ret E0 4 [.int .i64 s, .list n1 (ints l), .list n2 (ints m)] (.bool true) := by
  refine ret_of_pw dec_law04_CodesThere mixed (by simp) fun hwf => ?_
  simp only [wf_int, wf_bool, wf_ints, wf_list, wf_agg, wf_ptr, wf_fn, wf_tup, wf_all_cons, wf_all_nil, wf_all_map, inK_i64, maxLen_eq, List.length_map, ints_len, true_and, and_true] at hwf
  rw [enter_eq]; unfold pc_law04_CodesThere
  by_cases hg : (1 ≤ s ∧ s ≤ 127 ∧ l.length ≤ 128 ∧ m.length = l.length) ∧ areBits l = true ∧ areBits m = true
  · obtain ⟨⟨h1, h2, h3, h4⟩, hl, hm⟩ := hg
    have hr : inR s 1 127 = true := by simp only [inR, decide_eq_true_eq]; omega
    have hA := scramL_length s l
    have hB := scramL_length s m
    have o1 : scramOk s l = true := by simp [scramOk, hl, h3, hr]
    have o2 : scramOk s m = true := by simp [scramOk, hm, h4, h3, hr]
    have o3 : scramOk s (scramL s l) = true := by simp [scramOk, scramL_bits, hA, h3, hr]
    have c1 := codes_Scramble_ret s n1 l
    have c2 := codes_Scramble_ret s n2 m
    have c3 := codes_Scramble_ret s (scramL s l).isEmpty (scramL s l)
    have cs := law04_sameInts_ret l.isEmpty n1 l l
    rw [show decide (l = l) = true by simp] at cs
    have hap := scramL_apart s l m hl hm h4.symm
    have a1 := ref04_AreBits_ret n1 l
    have a2 := ref04_AreBits_ret n2 m
    rw [hl] at a1
    rw [hm] at a2
    rw [scram_ok o1] at c1
    rw [scram_ok o2] at c2
    rw [scram_ok o3, scramL_twice s l hl] at c3
    generalize scramL s l = A at *
    generalize scramL s m = B at *
    dsimp only at c1 c2 c3
    (try (simp -implicitDefEqProofs only [go_sem, Nat.reduceAdd, Nat.reduceSub, Nat.reduceMul, Nat.reduceEqDiff, Nat.reduceBEq, Nat.reduceLeDiff, Nat.reduceLT, Int.reduceToNat, Int.reduceLE, Int.reduceLT, Int.reduceNeg, reduceIte, reduceCtorEq, Int.reduceEq, Int.reduceAdd, Int.reduceSub, Int.reduceMul])); repeat' first | with_reducible exact True.intro | with_reducible refine And.intro ?_ ?_ | with_reducible intro _ | (((with_reducible refine isCall ?_); first | refine call_b (a1) rfl ?_ ?_ | refine call_d (a1) rfl ?_ | refine call_sb (a1) rfl ?_ ?_ | refine call_s (a1) rfl rfl ?_ | refine call_b (a2) rfl ?_ ?_ | refine call_d (a2) rfl ?_ | refine call_sb (a2) rfl ?_ ?_ | refine call_s (a2) rfl rfl ?_ | refine call_b (law04_works_ret) rfl ?_ ?_ | refine call_d (law04_works_ret) rfl ?_ | refine call_sb (law04_works_ret) rfl ?_ ?_ | refine call_s (law04_works_ret) rfl rfl ?_ | refine call_b (c1) rfl ?_ ?_ | refine call_d (c1) rfl ?_ | refine call_sb (c1) rfl ?_ ?_ | refine call_s (c1) rfl rfl ?_ | refine call_b (c2) rfl ?_ ?_ | refine call_d (c2) rfl ?_ | refine call_sb (c2) rfl ?_ ?_ | refine call_s (c2) rfl rfl ?_ | refine call_b (c3) rfl ?_ ?_ | refine call_d (c3) rfl ?_ | refine call_sb (c3) rfl ?_ ?_ | refine call_s (c3) rfl rfl ?_ | refine call_b (cs) rfl ?_ ?_ | refine call_d (cs) rfl ?_ | refine call_sb (cs) rfl ?_ ?_ | refine call_s (cs) rfl rfl ?_) <;> try (simp -implicitDefEqProofs only [go_sem, Nat.reduceAdd, Nat.reduceSub, Nat.reduceMul, Nat.reduceEqDiff, Nat.reduceBEq, Nat.reduceLeDiff, Nat.reduceLT, Int.reduceToNat, Int.reduceLE, Int.reduceLT, Int.reduceNeg, reduceIte, reduceCtorEq, Int.reduceEq, Int.reduceAdd, Int.reduceSub, Int.reduceMul])) | (((with_reducible refine vc_b ?_ ?_) <;> intro _) <;> try (simp -implicitDefEqProofs only [go_sem, Nat.reduceAdd, Nat.reduceSub, Nat.reduceMul, Nat.reduceEqDiff, Nat.reduceBEq, Nat.reduceLeDiff, Nat.reduceLT, Int.reduceToNat, Int.reduceLE, Int.reduceLT, Int.reduceNeg, reduceIte, reduceCtorEq, Int.reduceEq, Int.reduceAdd, Int.reduceSub, Int.reduceMul])) | simp (disch := omega) only [wrapI, wrapU, shl1, shl1', shl1'', shrN, shrN', and_one] | ((with_reducible refine isEx8 ?_); refine ⟨(_, _, _, _, _, _, _, _), rfl, ?_, ?_⟩) | ((with_reducible refine isEx7 ?_); refine ⟨(_, _, _, _, _, _, _), rfl, ?_, ?_⟩) | ((with_reducible refine isEx6 ?_); refine ⟨(_, _, _, _, _, _), rfl, ?_, ?_⟩) | ((with_reducible refine isEx5 ?_); refine ⟨(_, _, _, _, _), rfl, ?_, ?_⟩) | ((with_reducible refine isEx4 ?_); refine ⟨(_, _, _, _), rfl, ?_, ?_⟩) | ((with_reducible refine isEx3 ?_); refine ⟨(_, _, _), rfl, ?_, ?_⟩) | ((with_reducible refine isEx2 ?_); refine ⟨(_, _), rfl, ?_, ?_⟩) | ((with_reducible refine isEx ?_); refine ⟨_, rfl, ?_, ?_⟩)
    all_goals first | omega | (simp; done) | (simp; omega) | skip
    refine pw_loopS (α := Int) (l0 := ?l1) (m0 := ?m1) (fun x => [(13, .d (.int .i64 x))]) (fun x => []) (fun x => 0 ≤ x ∧ x ≤ l.length) (fun x => (l.length - x).toNat) ?a1_0 ?h01 ?he1 ?he21 ?hI1 ?step1
    case h01 => (simp -implicitDefEqProofs only [go_sem, Nat.reduceAdd, Nat.reduceSub, Nat.reduceMul, Nat.reduceEqDiff, Nat.reduceBEq, Nat.reduceLeDiff, Nat.reduceLT, Int.reduceToNat, Int.reduceLE, Int.reduceLT, Int.reduceNeg, reduceIte, reduceCtorEq, Int.reduceEq, Int.reduceAdd, Int.reduceSub, Int.reduceMul]; rfl)
    case he1 => rfl
    case he21 => rfl
    case' step1 => (rintro i hI; try dsimp only at hI)
    case' hI1 => try dsimp only
    · omega
    · by_cases hi : i < l.length
      · have hp := hap i.toNat
        (try (simp -implicitDefEqProofs only [go_sem, Nat.reduceAdd, Nat.reduceSub, Nat.reduceMul, Nat.reduceEqDiff, Nat.reduceBEq, Nat.reduceLeDiff, Nat.reduceLT, Int.reduceToNat, Int.reduceLE, Int.reduceLT, Int.reduceNeg, reduceIte, reduceCtorEq, Int.reduceEq, Int.reduceAdd, Int.reduceSub, Int.reduceMul])); repeat' first | with_reducible exact True.intro | with_reducible refine And.intro ?_ ?_ | with_reducible intro _ | (((with_reducible refine isCall ?_); first | refine call_b (law04_works_ret) rfl ?_ ?_ | refine call_d (law04_works_ret) rfl ?_ | refine call_sb (law04_works_ret) rfl ?_ ?_ | refine call_s (law04_works_ret) rfl rfl ?_) <;> try (simp -implicitDefEqProofs only [go_sem, Nat.reduceAdd, Nat.reduceSub, Nat.reduceMul, Nat.reduceEqDiff, Nat.reduceBEq, Nat.reduceLeDiff, Nat.reduceLT, Int.reduceToNat, Int.reduceLE, Int.reduceLT, Int.reduceNeg, reduceIte, reduceCtorEq, Int.reduceEq, Int.reduceAdd, Int.reduceSub, Int.reduceMul])) | (((with_reducible refine vc_b ?_ ?_) <;> intro _) <;> try (simp -implicitDefEqProofs only [go_sem, Nat.reduceAdd, Nat.reduceSub, Nat.reduceMul, Nat.reduceEqDiff, Nat.reduceBEq, Nat.reduceLeDiff, Nat.reduceLT, Int.reduceToNat, Int.reduceLE, Int.reduceLT, Int.reduceNeg, reduceIte, reduceCtorEq, Int.reduceEq, Int.reduceAdd, Int.reduceSub, Int.reduceMul])) | simp (disch := omega) only [wrapI, wrapU, shl1, shl1', shl1'', shrN, shrN', and_one] | ((with_reducible refine isEx8 ?_); refine ⟨(_, _, _, _, _, _, _, _), rfl, ?_, ?_⟩) | ((with_reducible refine isEx7 ?_); refine ⟨(_, _, _, _, _, _, _), rfl, ?_, ?_⟩) | ((with_reducible refine isEx6 ?_); refine ⟨(_, _, _, _, _, _), rfl, ?_, ?_⟩) | ((with_reducible refine isEx5 ?_); refine ⟨(_, _, _, _, _), rfl, ?_, ?_⟩) | ((with_reducible refine isEx4 ?_); refine ⟨(_, _, _, _), rfl, ?_, ?_⟩) | ((with_reducible refine isEx3 ?_); refine ⟨(_, _, _), rfl, ?_, ?_⟩) | ((with_reducible refine isEx2 ?_); refine ⟨(_, _), rfl, ?_, ?_⟩) | ((with_reducible refine isEx ?_); refine ⟨_, rfl, ?_, ?_⟩)
        all_goals first | omega | (simp; done) | (simp; omega) | skip
      · (try (simp -implicitDefEqProofs only [go_sem, Nat.reduceAdd, Nat.reduceSub, Nat.reduceMul, Nat.reduceEqDiff, Nat.reduceBEq, Nat.reduceLeDiff, Nat.reduceLT, Int.reduceToNat, Int.reduceLE, Int.reduceLT, Int.reduceNeg, reduceIte, reduceCtorEq, Int.reduceEq, Int.reduceAdd, Int.reduceSub, Int.reduceMul])); repeat' first | with_reducible exact True.intro | with_reducible refine And.intro ?_ ?_ | with_reducible intro _ | (((with_reducible refine isCall ?_); first | refine call_b (law04_works_ret) rfl ?_ ?_ | refine call_d (law04_works_ret) rfl ?_ | refine call_sb (law04_works_ret) rfl ?_ ?_ | refine call_s (law04_works_ret) rfl rfl ?_) <;> try (simp -implicitDefEqProofs only [go_sem, Nat.reduceAdd, Nat.reduceSub, Nat.reduceMul, Nat.reduceEqDiff, Nat.reduceBEq, Nat.reduceLeDiff, Nat.reduceLT, Int.reduceToNat, Int.reduceLE, Int.reduceLT, Int.reduceNeg, reduceIte, reduceCtorEq, Int.reduceEq, Int.reduceAdd, Int.reduceSub, Int.reduceMul])) | (((with_reducible refine vc_b ?_ ?_) <;> intro _) <;> try (simp -implicitDefEqProofs only [go_sem, Nat.reduceAdd, Nat.reduceSub, Nat.reduceMul, Nat.reduceEqDiff, Nat.reduceBEq, Nat.reduceLeDiff, Nat.reduceLT, Int.reduceToNat, Int.reduceLE, Int.reduceLT, Int.reduceNeg, reduceIte, reduceCtorEq, Int.reduceEq, Int.reduceAdd, Int.reduceSub, Int.reduceMul])) | simp (disch := omega) only [wrapI, wrapU, shl1, shl1', shl1'', shrN, shrN', and_one] | ((with_reducible refine isEx8 ?_); refine ⟨(_, _, _, _, _, _, _, _), rfl, ?_, ?_⟩) | ((with_reducible refine isEx7 ?_); refine ⟨(_, _, _, _, _, _, _), rfl, ?_, ?_⟩) | ((with_reducible refine isEx6 ?_); refine ⟨(_, _, _, _, _, _), rfl, ?_, ?_⟩) | ((with_reducible refine isEx5 ?_); refine ⟨(_, _, _, _, _), rfl, ?_, ?_⟩) | ((with_reducible refine isEx4 ?_); refine ⟨(_, _, _, _), rfl, ?_, ?_⟩) | ((with_reducible refine isEx3 ?_); refine ⟨(_, _, _), rfl, ?_, ?_⟩) | ((with_reducible refine isEx2 ?_); refine ⟨(_, _), rfl, ?_, ?_⟩) | ((with_reducible refine isEx ?_); refine ⟨_, rfl, ?_, ?_⟩)
        all_goals first | omega | (simp; done) | (simp; omega) | skip
  · (try (simp -implicitDefEqProofs only [go_sem, Nat.reduceAdd, Nat.reduceSub, Nat.reduceMul, Nat.reduceEqDiff, Nat.reduceBEq, Nat.reduceLeDiff, Nat.reduceLT, Int.reduceToNat, Int.reduceLE, Int.reduceLT, Int.reduceNeg, reduceIte, reduceCtorEq, Int.reduceEq, Int.reduceAdd, Int.reduceSub, Int.reduceMul])); repeat' first | with_reducible exact True.intro | with_reducible refine And.intro ?_ ?_ | with_reducible intro _ | (((with_reducible refine isCall ?_); first | refine call_b (law04_works_ret) rfl ?_ ?_ | refine call_d (law04_works_ret) rfl ?_ | refine call_sb (law04_works_ret) rfl ?_ ?_ | refine call_s (law04_works_ret) rfl rfl ?_ | refine call_b (ref04_AreBits_ret _ _) rfl ?_ ?_ | refine call_d (ref04_AreBits_ret _ _) rfl ?_ | refine call_sb (ref04_AreBits_ret _ _) rfl ?_ ?_ | refine call_s (ref04_AreBits_ret _ _) rfl rfl ?_) <;> try (simp -implicitDefEqProofs only [go_sem, Nat.reduceAdd, Nat.reduceSub, Nat.reduceMul, Nat.reduceEqDiff, Nat.reduceBEq, Nat.reduceLeDiff, Nat.reduceLT, Int.reduceToNat, Int.reduceLE, Int.reduceLT, Int.reduceNeg, reduceIte, reduceCtorEq, Int.reduceEq, Int.reduceAdd, Int.reduceSub, Int.reduceMul])) | (((with_reducible refine vc_b ?_ ?_) <;> intro _) <;> try (simp -implicitDefEqProofs only [go_sem, Nat.reduceAdd, Nat.reduceSub, Nat.reduceMul, Nat.reduceEqDiff, Nat.reduceBEq, Nat.reduceLeDiff, Nat.reduceLT, Int.reduceToNat, Int.reduceLE, Int.reduceLT, Int.reduceNeg, reduceIte, reduceCtorEq, Int.reduceEq, Int.reduceAdd, Int.reduceSub, Int.reduceMul])) | simp (disch := omega) only [wrapI, wrapU, shl1, shl1', shl1'', shrN, shrN', and_one] | ((with_reducible refine isEx8 ?_); refine ⟨(_, _, _, _, _, _, _, _), rfl, ?_, ?_⟩) | ((with_reducible refine isEx7 ?_); refine ⟨(_, _, _, _, _, _, _), rfl, ?_, ?_⟩) | ((with_reducible refine isEx6 ?_); refine ⟨(_, _, _, _, _, _), rfl, ?_, ?_⟩) | ((with_reducible refine isEx5 ?_); refine ⟨(_, _, _, _, _), rfl, ?_, ?_⟩) | ((with_reducible refine isEx4 ?_); refine ⟨(_, _, _, _), rfl, ?_, ?_⟩) | ((with_reducible refine isEx3 ?_); refine ⟨(_, _, _), rfl, ?_, ?_⟩) | ((with_reducible refine isEx2 ?_); refine ⟨(_, _), rfl, ?_, ?_⟩) | ((with_reducible refine isEx ?_); refine ⟨_, rfl, ?_, ?_⟩)
    all_goals first | omega | (simp; done) | (simp; omega) | skip
    exact absurd ⟨⟨by omega, by omega, by omega, by omega⟩, by assumption, by assumption⟩ hg

theorem typed_intsV {x : D} (h : TypedV (.list (.int .i64)) x) : ∃ nl l, x = .list nl (ints l) := by
  obtain ⟨h, hx⟩ := h
  obtain ⟨nl, l, hn⟩ := typed_ints h
  rw [hn] at hx
  exact ⟨nl, l, hx⟩
end Go.Pw
