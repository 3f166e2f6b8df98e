/- The codes: CodesRead. -/
import Derived.Test.YtgeodifpcminpaaCodesU
import Derived.Test.YtgeodifpcminpaaCodesF
import Derived.Test.YtgeodifpcminpaaCodesR
import Derived.Test.YtgeodifpcminpaaCodesL
set_option linter.all false
open Go Go.Pw Go.Proofs
namespace Go.Pw
set_option linter.unusedSimpArgs false
set_option linter.unusedVariables false
set_option maxRecDepth 100000
set_option maxHeartbeats 1600000
attribute [local congr] cg_pw cg_seqI cg_seqE cg_stepI cg_ev cg_evBin cg_condB cg_condV cg_thenQ cg_blockQ cg_onSome cg_onCells cg_onRow cg_onMap cg_onOpt cg_ghosts cg_ghost cg_evCall cg_part cg_rng cg_guardV cg_frzV cg_frpV cg_ownV cg_owcV cg_occV cg_occX cg_resK cg_res1
attribute [local irreducible] IntKind.wrap bitsOp Option.getD and or

theorem CodesRead_ret (c : GCode) (s : Int) (nl : Bool) (data : List Int) : Ret E0 F_law04_CodesRead [codeD c, .int .i64 s, .list nl (ints data)] (.bool true) := by
  refine ret_of_pw dec_law04_CodesRead mixed (by simp) fun hwf => ?_
  simp only [wf_int, wf_bool, wf_ints, wf_list, wf_agg, wf_ptr, wf_fn, wf_tup, wf_all_cons, wf_all_nil, wf_all_map, inK_i64, maxLen_eq, List.length_map, ints_len, true_and, and_true, codeD_eq, codeC_eq, rowsD_eq] at hwf
  rw [enter_eq]; unfold pc_law04_CodesRead
  cases hv : (!c.far && (c.ok && c.isState s)) with
  | false =>
    (try (simp -implicitDefEqProofs only [go_sem, Nat.reduceAdd, Nat.reduceSub, Nat.reduceMul, Nat.reduceEqDiff, Nat.reduceBEq, Nat.reduceLeDiff, Nat.reduceLT, Int.reduceToNat, Int.reduceLE, Int.reduceLT, Int.reduceNeg, reduceIte, reduceCtorEq, Int.reduceEq, Int.reduceAdd, Int.reduceSub, Int.reduceMul, codeD_eq, codeC_eq])); repeat' first | with_reducible exact True.intro | with_reducible refine And.intro ?_ ?_ | with_reducible intro _ | (((with_reducible refine isCall ?_); first | refine call_b (law04_valid_ret c s) rfl ?_ ?_ | refine call_d (law04_valid_ret c s) rfl ?_ | refine call_sb (law04_valid_ret c s) rfl ?_ ?_ | refine call_s (law04_valid_ret c s) rfl rfl ?_ | refine call_b (law04_works_ret) rfl ?_ ?_ | refine call_d (law04_works_ret) rfl ?_ | refine call_sb (law04_works_ret) rfl ?_ ?_ | refine call_s (law04_works_ret) rfl rfl ?_) <;> try (simp -implicitDefEqProofs only [go_sem, Nat.reduceAdd, Nat.reduceSub, Nat.reduceMul, Nat.reduceEqDiff, Nat.reduceBEq, Nat.reduceLeDiff, Nat.reduceLT, Int.reduceToNat, Int.reduceLE, Int.reduceLT, Int.reduceNeg, reduceIte, reduceCtorEq, Int.reduceEq, Int.reduceAdd, Int.reduceSub, Int.reduceMul, codeD_eq, codeC_eq])) | (((with_reducible refine vc_b ?_ ?_) <;> intro _) <;> try (simp -implicitDefEqProofs only [go_sem, Nat.reduceAdd, Nat.reduceSub, Nat.reduceMul, Nat.reduceEqDiff, Nat.reduceBEq, Nat.reduceLeDiff, Nat.reduceLT, Int.reduceToNat, Int.reduceLE, Int.reduceLT, Int.reduceNeg, reduceIte, reduceCtorEq, Int.reduceEq, Int.reduceAdd, Int.reduceSub, Int.reduceMul, codeD_eq, codeC_eq])) | simp (disch := omega) only [wrapI, wrapU, shl1, shl1', shl1'', shrN, shrN', and_one] | ((with_reducible refine isEx8 ?_); refine ⟨(_, _, _, _, _, _, _, _), rfl, ?_, ?_⟩) | ((with_reducible refine isEx7 ?_); refine ⟨(_, _, _, _, _, _, _), rfl, ?_, ?_⟩) | ((with_reducible refine isEx6 ?_); refine ⟨(_, _, _, _, _, _), rfl, ?_, ?_⟩) | ((with_reducible refine isEx5 ?_); refine ⟨(_, _, _, _, _), rfl, ?_, ?_⟩) | ((with_reducible refine isEx4 ?_); refine ⟨(_, _, _, _), rfl, ?_, ?_⟩) | ((with_reducible refine isEx3 ?_); refine ⟨(_, _, _), rfl, ?_, ?_⟩) | ((with_reducible refine isEx2 ?_); refine ⟨(_, _), rfl, ?_, ?_⟩) | ((with_reducible refine isEx ?_); refine ⟨_, rfl, ?_, ?_⟩)
    all_goals first | omega | simp_all
  | true =>
    have hok : c.ok = true := by cases h : c.ok <;> simp_all
    have hst : c.isState s = true := by cases h : c.isState s <;> simp_all
    have hd := GCode.ok_head hok
    have cid := fun nl => ref04_IsData_ret c nl data (by omega)
    cases hdt : c.isData data with
    | false =>
      (try (simp -implicitDefEqProofs only [go_sem, Nat.reduceAdd, Nat.reduceSub, Nat.reduceMul, Nat.reduceEqDiff, Nat.reduceBEq, Nat.reduceLeDiff, Nat.reduceLT, Int.reduceToNat, Int.reduceLE, Int.reduceLT, Int.reduceNeg, reduceIte, reduceCtorEq, Int.reduceEq, Int.reduceAdd, Int.reduceSub, Int.reduceMul, codeD_eq, codeC_eq])); repeat' first | with_reducible exact True.intro | with_reducible refine And.intro ?_ ?_ | with_reducible intro _ | (((with_reducible refine isCall ?_); first | refine call_b (law04_valid_ret c s) rfl ?_ ?_ | refine call_d (law04_valid_ret c s) rfl ?_ | refine call_sb (law04_valid_ret c s) rfl ?_ ?_ | refine call_s (law04_valid_ret c s) rfl rfl ?_ | refine call_b (cid _) rfl ?_ ?_ | refine call_d (cid _) rfl ?_ | refine call_sb (cid _) rfl ?_ ?_ | refine call_s (cid _) rfl rfl ?_ | refine call_b (law04_works_ret) rfl ?_ ?_ | refine call_d (law04_works_ret) rfl ?_ | refine call_sb (law04_works_ret) rfl ?_ ?_ | refine call_s (law04_works_ret) rfl rfl ?_) <;> try (simp -implicitDefEqProofs only [go_sem, Nat.reduceAdd, Nat.reduceSub, Nat.reduceMul, Nat.reduceEqDiff, Nat.reduceBEq, Nat.reduceLeDiff, Nat.reduceLT, Int.reduceToNat, Int.reduceLE, Int.reduceLT, Int.reduceNeg, reduceIte, reduceCtorEq, Int.reduceEq, Int.reduceAdd, Int.reduceSub, Int.reduceMul, codeD_eq, codeC_eq])) | (((with_reducible refine vc_b ?_ ?_) <;> intro _) <;> try (simp -implicitDefEqProofs only [go_sem, Nat.reduceAdd, Nat.reduceSub, Nat.reduceMul, Nat.reduceEqDiff, Nat.reduceBEq, Nat.reduceLeDiff, Nat.reduceLT, Int.reduceToNat, Int.reduceLE, Int.reduceLT, Int.reduceNeg, reduceIte, reduceCtorEq, Int.reduceEq, Int.reduceAdd, Int.reduceSub, Int.reduceMul, codeD_eq, codeC_eq])) | simp (disch := omega) only [wrapI, wrapU, shl1, shl1', shl1'', shrN, shrN', and_one] | ((with_reducible refine isEx8 ?_); refine ⟨(_, _, _, _, _, _, _, _), rfl, ?_, ?_⟩) | ((with_reducible refine isEx7 ?_); refine ⟨(_, _, _, _, _, _, _), rfl, ?_, ?_⟩) | ((with_reducible refine isEx6 ?_); refine ⟨(_, _, _, _, _, _), rfl, ?_, ?_⟩) | ((with_reducible refine isEx5 ?_); refine ⟨(_, _, _, _, _), rfl, ?_, ?_⟩) | ((with_reducible refine isEx4 ?_); refine ⟨(_, _, _, _), rfl, ?_, ?_⟩) | ((with_reducible refine isEx3 ?_); refine ⟨(_, _, _), rfl, ?_, ?_⟩) | ((with_reducible refine isEx2 ?_); refine ⟨(_, _), rfl, ?_, ?_⟩) | ((with_reducible refine isEx ?_); refine ⟨_, rfl, ?_, ?_⟩)
      all_goals first | omega | simp_all
    | true =>
    have h24 : data.length ≤ 24 := by simp [GCode.isData] at hdt; omega
    have hword : ∀ w, w ∈ data → c.isWord w = true := by simp only [GCode.isData, Bool.and_eq_true, List.all_eq_true] at hdt; exact hdt.2
    have henc : c.encode s data = ((c.stream s data).1, (c.stream s data).2, 0) := by simp [GCode.encode, hok, hst, hdt]
    obtain ⟨l, hl1, hl2, hl3, hl4⟩ := decM_stream c hok (s := s) hword
    have hldt : c.isData l = true := by
      simp only [GCode.isData, Bool.and_eq_true, List.all_eq_true, decide_eq_true_eq]; exact ⟨by omega, hl3⟩
    have henc2 : c.encode s l = ((c.stream s data).1, (c.stream s l).2, 0) := by rw [← hl4]; simp [GCode.encode, hok, hst, hldt]
    have hlen := stream_len c data s
    have hli := stream_len_int c data s (by omega)
    have hP := prod_bound (a := c.out) (b := data.length) (by omega) h24
    have hdec : c.decR s (c.stream s data).1 = (some l, 0) := by
      have hb := stream_bits c data s
      have h2 : decide ((((c.stream s data).1.length : Nat) : Int).tmod c.out = 0) = true := by
        rw [hli, decide_eq_true_eq, Int.tmod_eq_emod_of_nonneg hP.1]; exact Int.mul_emod_right _ _
      have h3 : decide ((((c.stream s data).1.length : Nat) : Int) ≤ c.out * 24) = true := by
        rw [hli, decide_eq_true_eq]; exact Int.mul_le_mul_of_nonneg_left (by omega) (by omega)
      have h4 : (c.stream s data).1.length / c.out.toNat = data.length := by rw [hlen]; exact Nat.mul_div_cancel _ (by omega)
      simp [GCode.decR, hok, hst, hb, h2, h3, h4, hl1]
    have hsame := read_same c hok
    have hord := order_err c hok
    have hlev := order_lev c hok
    have ce := codes_Encode_ret c s nl data
    have ce2 := codes_Encode_ret c s false l
    have cdc := codes_Decode_ret c s (c.stream s data).1.isEmpty (c.stream s data).1
    have cor := codes_Order_ret c
    have csn := fun n1 n2 => law04_sameInts_ret n1 n2 (c.stream s data).1 (c.stream s data).1
    rw [henc] at ce
    rw [henc2] at ce2
    rw [hdec] at cdc
    dsimp only at ce ce2 cdc
    rw [optL_some] at cdc
    simp only [decide_true] at csn
    have hsm : c.order.2 = 0 → ∀ i : Nat, (i : Int) < data.length - (c.order.1 - 1) → l[i]?.getD 0 = data[i]?.getD 0 := fun he i hi => hsame he l data s hst hl2 hl4 hl3 hword i (by omega)
    generalize (c.stream s data).1 = B at *
    generalize (c.stream s data).2 = S1 at *
    generalize (c.stream s l).2 = S2 at *
    have ho1 := order_bound c hok
    generalize c.order = O at *
    obtain ⟨n, e⟩ := O
    dsimp only at cor hord hlev hsm ho1
    clear hwf hv hldt hlen hli hP hdec hsame hl1 hl3 hl4 henc henc2 hword
    rcases hord with rfl | rfl
    · have hn1 := (hlev rfl).1
      have hs2 := hsm rfl
      clear hlev hsm
      (try (simp -implicitDefEqProofs only [go_sem, Nat.reduceAdd, Nat.reduceSub, Nat.reduceMul, Nat.reduceEqDiff, Nat.reduceBEq, Nat.reduceLeDiff, Nat.reduceLT, Int.reduceToNat, Int.reduceLE, Int.reduceLT, Int.reduceNeg, reduceIte, reduceCtorEq, Int.reduceEq, Int.reduceAdd, Int.reduceSub, Int.reduceMul, codeD_eq, codeC_eq])); repeat' first | with_reducible exact True.intro | with_reducible refine And.intro ?_ ?_ | with_reducible intro _ | (((with_reducible refine isCall ?_); first | refine call_b (law04_valid_ret c s) rfl ?_ ?_ | refine call_d (law04_valid_ret c s) rfl ?_ | refine call_sb (law04_valid_ret c s) rfl ?_ ?_ | refine call_s (law04_valid_ret c s) rfl rfl ?_ | refine call_b (cid _) rfl ?_ ?_ | refine call_d (cid _) rfl ?_ | refine call_sb (cid _) rfl ?_ ?_ | refine call_s (cid _) rfl rfl ?_ | refine call_b (law04_works_ret) rfl ?_ ?_ | refine call_d (law04_works_ret) rfl ?_ | refine call_sb (law04_works_ret) rfl ?_ ?_ | refine call_s (law04_works_ret) rfl rfl ?_ | refine call_b (cor) rfl ?_ ?_ | refine call_d (cor) rfl ?_ | refine call_sb (cor) rfl ?_ ?_ | refine call_s (cor) rfl rfl ?_ | refine call_b (ce) rfl ?_ ?_ | refine call_d (ce) rfl ?_ | refine call_sb (ce) rfl ?_ ?_ | refine call_s (ce) rfl rfl ?_ | refine call_b (cdc) rfl ?_ ?_ | refine call_d (cdc) rfl ?_ | refine call_sb (cdc) rfl ?_ ?_ | refine call_s (cdc) rfl rfl ?_ | refine call_b (ce2) rfl ?_ ?_ | refine call_d (ce2) rfl ?_ | refine call_sb (ce2) rfl ?_ ?_ | refine call_s (ce2) rfl rfl ?_ | refine call_b (csn _ _) rfl ?_ ?_ | refine call_d (csn _ _) rfl ?_ | refine call_sb (csn _ _) rfl ?_ ?_ | refine call_s (csn _ _) rfl rfl ?_) <;> try (simp -implicitDefEqProofs only [go_sem, Nat.reduceAdd, Nat.reduceSub, Nat.reduceMul, Nat.reduceEqDiff, Nat.reduceBEq, Nat.reduceLeDiff, Nat.reduceLT, Int.reduceToNat, Int.reduceLE, Int.reduceLT, Int.reduceNeg, reduceIte, reduceCtorEq, Int.reduceEq, Int.reduceAdd, Int.reduceSub, Int.reduceMul, codeD_eq, codeC_eq])) | (((with_reducible refine vc_b ?_ ?_) <;> intro _) <;> try (simp -implicitDefEqProofs only [go_sem, Nat.reduceAdd, Nat.reduceSub, Nat.reduceMul, Nat.reduceEqDiff, Nat.reduceBEq, Nat.reduceLeDiff, Nat.reduceLT, Int.reduceToNat, Int.reduceLE, Int.reduceLT, Int.reduceNeg, reduceIte, reduceCtorEq, Int.reduceEq, Int.reduceAdd, Int.reduceSub, Int.reduceMul, codeD_eq, codeC_eq])) | simp (disch := omega) only [wrapI, wrapU, shl1, shl1', shl1'', shrN, shrN', and_one] | ((with_reducible refine isEx8 ?_); refine ⟨(_, _, _, _, _, _, _, _), rfl, ?_, ?_⟩) | ((with_reducible refine isEx7 ?_); refine ⟨(_, _, _, _, _, _, _), rfl, ?_, ?_⟩) | ((with_reducible refine isEx6 ?_); refine ⟨(_, _, _, _, _, _), rfl, ?_, ?_⟩) | ((with_reducible refine isEx5 ?_); refine ⟨(_, _, _, _, _), rfl, ?_, ?_⟩) | ((with_reducible refine isEx4 ?_); refine ⟨(_, _, _, _), rfl, ?_, ?_⟩) | ((with_reducible refine isEx3 ?_); refine ⟨(_, _, _), rfl, ?_, ?_⟩) | ((with_reducible refine isEx2 ?_); refine ⟨(_, _), rfl, ?_, ?_⟩) | ((with_reducible refine isEx ?_); refine ⟨_, rfl, ?_, ?_⟩)
      all_goals first | omega | (simp; done) | (simp; omega) | skip
      all_goals try (exfalso; simp_all; done)
      refine pw_loopS (α := Int) (l0 := ?l1) (m0 := ?m1) (fun x => [(17, .d (.int .i64 x))]) (fun x => []) (fun x => 0 ≤ x ∧ x ≤ data.length + 1000) (fun x => (data.length + 1000 - x).toNat) ?a1_0 ?h01 ?he1 ?he21 ?hI1 ?step1
      case h01 => (simp -implicitDefEqProofs only [go_sem, Nat.reduceAdd, Nat.reduceSub, Nat.reduceMul, Nat.reduceEqDiff, Nat.reduceBEq, Nat.reduceLeDiff, Nat.reduceLT, Int.reduceToNat, Int.reduceLE, Int.reduceLT, Int.reduceNeg, reduceIte, reduceCtorEq, Int.reduceEq, Int.reduceAdd, Int.reduceSub, Int.reduceMul]; rfl)
      case he1 => rfl
      case he21 => rfl
      case' step1 => (rintro i hI; try dsimp only at hI)
      case' hI1 => try dsimp only
      · omega
      · obtain ⟨hi0, hi1⟩ := hI
        have hw1 : IntKind.i64.wrap (n - 1) = n - 1 := wrapI _ (by omega)
        have hw2 : IntKind.i64.wrap (data.length - (n - 1)) = data.length - (n - 1) := wrapI _ (by omega)
        by_cases hi : i < data.length - (n - 1)
        · have hx := hs2 i.toNat (by omega)
          (try (simp -implicitDefEqProofs only [go_sem, Nat.reduceAdd, Nat.reduceSub, Nat.reduceMul, Nat.reduceEqDiff, Nat.reduceBEq, Nat.reduceLeDiff, Nat.reduceLT, Int.reduceToNat, Int.reduceLE, Int.reduceLT, Int.reduceNeg, reduceIte, reduceCtorEq, Int.reduceEq, Int.reduceAdd, Int.reduceSub, Int.reduceMul, hw1, hw2])); repeat' first | with_reducible exact True.intro | with_reducible refine And.intro ?_ ?_ | with_reducible intro _ | (((with_reducible refine vc_b ?_ ?_) <;> intro _) <;> try (simp -implicitDefEqProofs only [go_sem, Nat.reduceAdd, Nat.reduceSub, Nat.reduceMul, Nat.reduceEqDiff, Nat.reduceBEq, Nat.reduceLeDiff, Nat.reduceLT, Int.reduceToNat, Int.reduceLE, Int.reduceLT, Int.reduceNeg, reduceIte, reduceCtorEq, Int.reduceEq, Int.reduceAdd, Int.reduceSub, Int.reduceMul, hw1, hw2])) | simp (disch := omega) only [wrapI, wrapU, shl1, shl1', shl1'', shrN, shrN', and_one] | ((with_reducible refine isEx8 ?_); refine ⟨(_, _, _, _, _, _, _, _), rfl, ?_, ?_⟩) | ((with_reducible refine isEx7 ?_); refine ⟨(_, _, _, _, _, _, _), rfl, ?_, ?_⟩) | ((with_reducible refine isEx6 ?_); refine ⟨(_, _, _, _, _, _), rfl, ?_, ?_⟩) | ((with_reducible refine isEx5 ?_); refine ⟨(_, _, _, _, _), rfl, ?_, ?_⟩) | ((with_reducible refine isEx4 ?_); refine ⟨(_, _, _, _), rfl, ?_, ?_⟩) | ((with_reducible refine isEx3 ?_); refine ⟨(_, _, _), rfl, ?_, ?_⟩) | ((with_reducible refine isEx2 ?_); refine ⟨(_, _), rfl, ?_, ?_⟩) | ((with_reducible refine isEx ?_); refine ⟨_, rfl, ?_, ?_⟩)
          all_goals first | omega | (simp; done) | (simp; omega) | skip
        · (try (simp -implicitDefEqProofs only [go_sem, Nat.reduceAdd, Nat.reduceSub, Nat.reduceMul, Nat.reduceEqDiff, Nat.reduceBEq, Nat.reduceLeDiff, Nat.reduceLT, Int.reduceToNat, Int.reduceLE, Int.reduceLT, Int.reduceNeg, reduceIte, reduceCtorEq, Int.reduceEq, Int.reduceAdd, Int.reduceSub, Int.reduceMul, hw1, hw2])); repeat' first | with_reducible exact True.intro | with_reducible refine And.intro ?_ ?_ | with_reducible intro _ | (((with_reducible refine isCall ?_); first | refine call_b (law04_works_ret) rfl ?_ ?_ | refine call_d (law04_works_ret) rfl ?_ | refine call_sb (law04_works_ret) rfl ?_ ?_ | refine call_s (law04_works_ret) rfl rfl ?_) <;> try (simp -implicitDefEqProofs only [go_sem, Nat.reduceAdd, Nat.reduceSub, Nat.reduceMul, Nat.reduceEqDiff, Nat.reduceBEq, Nat.reduceLeDiff, Nat.reduceLT, Int.reduceToNat, Int.reduceLE, Int.reduceLT, Int.reduceNeg, reduceIte, reduceCtorEq, Int.reduceEq, Int.reduceAdd, Int.reduceSub, Int.reduceMul, hw1, hw2])) | (((with_reducible refine vc_b ?_ ?_) <;> intro _) <;> try (simp -implicitDefEqProofs only [go_sem, Nat.reduceAdd, Nat.reduceSub, Nat.reduceMul, Nat.reduceEqDiff, Nat.reduceBEq, Nat.reduceLeDiff, Nat.reduceLT, Int.reduceToNat, Int.reduceLE, Int.reduceLT, Int.reduceNeg, reduceIte, reduceCtorEq, Int.reduceEq, Int.reduceAdd, Int.reduceSub, Int.reduceMul, hw1, hw2])) | simp (disch := omega) only [wrapI, wrapU, shl1, shl1', shl1'', shrN, shrN', and_one] | ((with_reducible refine isEx8 ?_); refine ⟨(_, _, _, _, _, _, _, _), rfl, ?_, ?_⟩) | ((with_reducible refine isEx7 ?_); refine ⟨(_, _, _, _, _, _, _), rfl, ?_, ?_⟩) | ((with_reducible refine isEx6 ?_); refine ⟨(_, _, _, _, _, _), rfl, ?_, ?_⟩) | ((with_reducible refine isEx5 ?_); refine ⟨(_, _, _, _, _), rfl, ?_, ?_⟩) | ((with_reducible refine isEx4 ?_); refine ⟨(_, _, _, _), rfl, ?_, ?_⟩) | ((with_reducible refine isEx3 ?_); refine ⟨(_, _, _), rfl, ?_, ?_⟩) | ((with_reducible refine isEx2 ?_); refine ⟨(_, _), rfl, ?_, ?_⟩) | ((with_reducible refine isEx ?_); refine ⟨_, rfl, ?_, ?_⟩)
          all_goals first | omega | (simp; done) | (simp; omega) | skip
    · clear hlev hsm
      (try (simp -implicitDefEqProofs only [go_sem, Nat.reduceAdd, Nat.reduceSub, Nat.reduceMul, Nat.reduceEqDiff, Nat.reduceBEq, Nat.reduceLeDiff, Nat.reduceLT, Int.reduceToNat, Int.reduceLE, Int.reduceLT, Int.reduceNeg, reduceIte, reduceCtorEq, Int.reduceEq, Int.reduceAdd, Int.reduceSub, Int.reduceMul, codeD_eq, codeC_eq])); repeat' first | with_reducible exact True.intro | with_reducible refine And.intro ?_ ?_ | with_reducible intro _ | (((with_reducible refine isCall ?_); first | refine call_b (law04_valid_ret c s) rfl ?_ ?_ | refine call_d (law04_valid_ret c s) rfl ?_ | refine call_sb (law04_valid_ret c s) rfl ?_ ?_ | refine call_s (law04_valid_ret c s) rfl rfl ?_ | refine call_b (cid _) rfl ?_ ?_ | refine call_d (cid _) rfl ?_ | refine call_sb (cid _) rfl ?_ ?_ | refine call_s (cid _) rfl rfl ?_ | refine call_b (law04_works_ret) rfl ?_ ?_ | refine call_d (law04_works_ret) rfl ?_ | refine call_sb (law04_works_ret) rfl ?_ ?_ | refine call_s (law04_works_ret) rfl rfl ?_ | refine call_b (cor) rfl ?_ ?_ | refine call_d (cor) rfl ?_ | refine call_sb (cor) rfl ?_ ?_ | refine call_s (cor) rfl rfl ?_ | refine call_b (ce) rfl ?_ ?_ | refine call_d (ce) rfl ?_ | refine call_sb (ce) rfl ?_ ?_ | refine call_s (ce) rfl rfl ?_ | refine call_b (cdc) rfl ?_ ?_ | refine call_d (cdc) rfl ?_ | refine call_sb (cdc) rfl ?_ ?_ | refine call_s (cdc) rfl rfl ?_ | refine call_b (ce2) rfl ?_ ?_ | refine call_d (ce2) rfl ?_ | refine call_sb (ce2) rfl ?_ ?_ | refine call_s (ce2) rfl rfl ?_ | refine call_b (csn _ _) rfl ?_ ?_ | refine call_d (csn _ _) rfl ?_ | refine call_sb (csn _ _) rfl ?_ ?_ | refine call_s (csn _ _) rfl rfl ?_) <;> try (simp -implicitDefEqProofs only [go_sem, Nat.reduceAdd, Nat.reduceSub, Nat.reduceMul, Nat.reduceEqDiff, Nat.reduceBEq, Nat.reduceLeDiff, Nat.reduceLT, Int.reduceToNat, Int.reduceLE, Int.reduceLT, Int.reduceNeg, reduceIte, reduceCtorEq, Int.reduceEq, Int.reduceAdd, Int.reduceSub, Int.reduceMul, codeD_eq, codeC_eq])) | (((with_reducible refine vc_b ?_ ?_) <;> intro _) <;> try (simp -implicitDefEqProofs only [go_sem, Nat.reduceAdd, Nat.reduceSub, Nat.reduceMul, Nat.reduceEqDiff, Nat.reduceBEq, Nat.reduceLeDiff, Nat.reduceLT, Int.reduceToNat, Int.reduceLE, Int.reduceLT, Int.reduceNeg, reduceIte, reduceCtorEq, Int.reduceEq, Int.reduceAdd, Int.reduceSub, Int.reduceMul, codeD_eq, codeC_eq])) | simp (disch := omega) only [wrapI, wrapU, shl1, shl1', shl1'', shrN, shrN', and_one] | ((with_reducible refine isEx8 ?_); refine ⟨(_, _, _, _, _, _, _, _), rfl, ?_, ?_⟩) | ((with_reducible refine isEx7 ?_); refine ⟨(_, _, _, _, _, _, _), rfl, ?_, ?_⟩) | ((with_reducible refine isEx6 ?_); refine ⟨(_, _, _, _, _, _), rfl, ?_, ?_⟩) | ((with_reducible refine isEx5 ?_); refine ⟨(_, _, _, _, _), rfl, ?_, ?_⟩) | ((with_reducible refine isEx4 ?_); refine ⟨(_, _, _, _), rfl, ?_, ?_⟩) | ((with_reducible refine isEx3 ?_); refine ⟨(_, _, _), rfl, ?_, ?_⟩) | ((with_reducible refine isEx2 ?_); refine ⟨(_, _), rfl, ?_, ?_⟩) | ((with_reducible refine isEx ?_); refine ⟨_, rfl, ?_, ?_⟩)
      all_goals first | omega | (simp; done) | (simp; omega) | skip
      all_goals try (exfalso; simp_all; done)
end Go.Pw
