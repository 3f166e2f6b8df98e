/- The codes: CodesFound. -/
import Derived.Test.YtgeodifpcminpaaCodesQ
set_option linter.all false
open Go Go.Pw Go.Proofs
namespace Go.Pw
set_option linter.unusedSimpArgs false
set_option linter.unusedVariables false
set_option maxRecDepth 100000
set_option maxHeartbeats 1600000
attribute [local congr] cg_pw cg_seqI cg_seqE cg_stepI cg_ev cg_evBin cg_condB cg_condV cg_thenQ cg_blockQ cg_onSome cg_onCells cg_onRow cg_onMap cg_onOpt cg_ghosts cg_ghost cg_evCall cg_part cg_rng cg_guardV cg_frzV cg_frpV cg_ownV cg_owcV cg_occV cg_occX cg_resK cg_res1
attribute [local irreducible] IntKind.wrap bitsOp Option.getD and or

theorem findF_one {mark bits : List Int} {e : Int} (h : dist mark bits ≤ e) : findF mark bits e 1 0 = [0] := by
  simp [findF, h]
theorem findF_nil {mark bits : List Int} {e : Int} : ∀ (n : Nat) (i : Int), 0 ≤ i → (∀ a : Nat, i ≤ a → (a : Int) < i + n → e < dist mark (bits.drop a)) → findF mark bits e n i = []
  | 0, _, _, _ => rfl
  | n + 1, i, h0, h => by
    have h1 := h i.toNat (by omega) (by omega)
    simp only [findF]
    rw [if_neg (by omega)]
    exact findF_nil n (i + 1) (by omega) fun a ha hb => h a (by omega) (by omega)

theorem CodesFound_ret (c : GCode) (s er : Int) (n1 n2 n3 : Bool) (data mark spots : List Int) :
    Ret E0 F_law04_CodesFound [codeD c, .agg [.int .i64 s, .int .i64 er, .list n1 (ints data), .list n2 (ints mark), .list n3 (ints spots)]] (.bool true) := by
  refine ret_of_pw dec_law04_CodesFound mixed (by simp) fun hwf => ?_
  simp only [wf_int, wf_bool, wf_ints, wf_list, wf_agg, wf_ptr, wf_fn, wf_tup, wf_all_cons, wf_all_nil, wf_all_map, inK_i64, maxLen_eq, List.length_map, ints_len, true_and, and_true, codeD_eq, codeC_eq, rowsD_eq] at hwf
  rw [enter_eq]; unfold pc_law04_CodesFound
  cases hv : (!c.far && (c.ok && c.isState s)) with
  | false =>
    (try (simp -implicitDefEqProofs only [go_sem, Nat.reduceAdd, Nat.reduceSub, Nat.reduceMul, Nat.reduceEqDiff, Nat.reduceBEq, Nat.reduceLeDiff, Nat.reduceLT, Int.reduceToNat, Int.reduceLE, Int.reduceLT, Int.reduceNeg, reduceIte, reduceCtorEq, Int.reduceEq, Int.reduceAdd, Int.reduceSub, Int.reduceMul, codeD_eq, codeC_eq])); repeat' first | with_reducible exact True.intro | with_reducible refine And.intro ?_ ?_ | with_reducible intro _ | (((with_reducible refine isCall ?_); first | refine call_b (law04_valid_ret c s) rfl ?_ ?_ | refine call_d (law04_valid_ret c s) rfl ?_ | refine call_sb (law04_valid_ret c s) rfl ?_ ?_ | refine call_s (law04_valid_ret c s) rfl rfl ?_ | refine call_b (law04_works_ret) rfl ?_ ?_ | refine call_d (law04_works_ret) rfl ?_ | refine call_sb (law04_works_ret) rfl ?_ ?_ | refine call_s (law04_works_ret) rfl rfl ?_) <;> try (simp -implicitDefEqProofs only [go_sem, Nat.reduceAdd, Nat.reduceSub, Nat.reduceMul, Nat.reduceEqDiff, Nat.reduceBEq, Nat.reduceLeDiff, Nat.reduceLT, Int.reduceToNat, Int.reduceLE, Int.reduceLT, Int.reduceNeg, reduceIte, reduceCtorEq, Int.reduceEq, Int.reduceAdd, Int.reduceSub, Int.reduceMul, codeD_eq, codeC_eq])) | (((with_reducible refine vc_b ?_ ?_) <;> intro _) <;> try (simp -implicitDefEqProofs only [go_sem, Nat.reduceAdd, Nat.reduceSub, Nat.reduceMul, Nat.reduceEqDiff, Nat.reduceBEq, Nat.reduceLeDiff, Nat.reduceLT, Int.reduceToNat, Int.reduceLE, Int.reduceLT, Int.reduceNeg, reduceIte, reduceCtorEq, Int.reduceEq, Int.reduceAdd, Int.reduceSub, Int.reduceMul, codeD_eq, codeC_eq])) | simp (disch := omega) only [wrapI, wrapU, shl1, shl1', shl1'', shrN, shrN', and_one] | ((with_reducible refine isEx8 ?_); refine ⟨(_, _, _, _, _, _, _, _), rfl, ?_, ?_⟩) | ((with_reducible refine isEx7 ?_); refine ⟨(_, _, _, _, _, _, _), rfl, ?_, ?_⟩) | ((with_reducible refine isEx6 ?_); refine ⟨(_, _, _, _, _, _), rfl, ?_, ?_⟩) | ((with_reducible refine isEx5 ?_); refine ⟨(_, _, _, _, _), rfl, ?_, ?_⟩) | ((with_reducible refine isEx4 ?_); refine ⟨(_, _, _, _), rfl, ?_, ?_⟩) | ((with_reducible refine isEx3 ?_); refine ⟨(_, _, _), rfl, ?_, ?_⟩) | ((with_reducible refine isEx2 ?_); refine ⟨(_, _), rfl, ?_, ?_⟩) | ((with_reducible refine isEx ?_); refine ⟨_, rfl, ?_, ?_⟩)
    all_goals first | omega | simp_all
  | true =>
    have hok : c.ok = true := by cases h : c.ok <;> simp_all
    have hst : c.isState s = true := by cases h : c.isState s <;> simp_all
    have hd := GCode.ok_head hok
    have cid := fun nl => ref04_IsData_ret c nl data (by omega)
    cases hdt : c.isData data with
    | false =>
      (try (simp -implicitDefEqProofs only [go_sem, Nat.reduceAdd, Nat.reduceSub, Nat.reduceMul, Nat.reduceEqDiff, Nat.reduceBEq, Nat.reduceLeDiff, Nat.reduceLT, Int.reduceToNat, Int.reduceLE, Int.reduceLT, Int.reduceNeg, reduceIte, reduceCtorEq, Int.reduceEq, Int.reduceAdd, Int.reduceSub, Int.reduceMul, codeD_eq, codeC_eq])); repeat' first | with_reducible exact True.intro | with_reducible refine And.intro ?_ ?_ | with_reducible intro _ | (((with_reducible refine isCall ?_); first | refine call_b (law04_valid_ret c s) rfl ?_ ?_ | refine call_d (law04_valid_ret c s) rfl ?_ | refine call_sb (law04_valid_ret c s) rfl ?_ ?_ | refine call_s (law04_valid_ret c s) rfl rfl ?_ | refine call_b (cid _) rfl ?_ ?_ | refine call_d (cid _) rfl ?_ | refine call_sb (cid _) rfl ?_ ?_ | refine call_s (cid _) rfl rfl ?_ | refine call_b (law04_works_ret) rfl ?_ ?_ | refine call_d (law04_works_ret) rfl ?_ | refine call_sb (law04_works_ret) rfl ?_ ?_ | refine call_s (law04_works_ret) rfl rfl ?_) <;> try (simp -implicitDefEqProofs only [go_sem, Nat.reduceAdd, Nat.reduceSub, Nat.reduceMul, Nat.reduceEqDiff, Nat.reduceBEq, Nat.reduceLeDiff, Nat.reduceLT, Int.reduceToNat, Int.reduceLE, Int.reduceLT, Int.reduceNeg, reduceIte, reduceCtorEq, Int.reduceEq, Int.reduceAdd, Int.reduceSub, Int.reduceMul, codeD_eq, codeC_eq])) | (((with_reducible refine vc_b ?_ ?_) <;> intro _) <;> try (simp -implicitDefEqProofs only [go_sem, Nat.reduceAdd, Nat.reduceSub, Nat.reduceMul, Nat.reduceEqDiff, Nat.reduceBEq, Nat.reduceLeDiff, Nat.reduceLT, Int.reduceToNat, Int.reduceLE, Int.reduceLT, Int.reduceNeg, reduceIte, reduceCtorEq, Int.reduceEq, Int.reduceAdd, Int.reduceSub, Int.reduceMul, codeD_eq, codeC_eq])) | simp (disch := omega) only [wrapI, wrapU, shl1, shl1', shl1'', shrN, shrN', and_one] | ((with_reducible refine isEx8 ?_); refine ⟨(_, _, _, _, _, _, _, _), rfl, ?_, ?_⟩) | ((with_reducible refine isEx7 ?_); refine ⟨(_, _, _, _, _, _, _), rfl, ?_, ?_⟩) | ((with_reducible refine isEx6 ?_); refine ⟨(_, _, _, _, _, _), rfl, ?_, ?_⟩) | ((with_reducible refine isEx5 ?_); refine ⟨(_, _, _, _, _), rfl, ?_, ?_⟩) | ((with_reducible refine isEx4 ?_); refine ⟨(_, _, _, _), rfl, ?_, ?_⟩) | ((with_reducible refine isEx3 ?_); refine ⟨(_, _, _), rfl, ?_, ?_⟩) | ((with_reducible refine isEx2 ?_); refine ⟨(_, _), rfl, ?_, ?_⟩) | ((with_reducible refine isEx ?_); refine ⟨_, rfl, ?_, ?_⟩)
      all_goals first | omega | simp_all
    | true =>
    have h24 : data.length ≤ 24 := by simp [GCode.isData] at hdt; omega
    have hP := prod_bound (a := c.out) (b := data.length) (by omega) h24
    have hwr : IntKind.i64.wrap (c.out * data.length) = c.out * data.length := wrapI _ (by omega)
    by_cases hg : isMarkB mark = true ∧ (0 ≤ er ∧ er ≤ 16 ∧ spots.length ≤ er ∧ c.out * data.length ≤ 128)
    · obtain ⟨hmk, he0, he1, hm0, h128⟩ := hg
      have hmb : areBits mark = true := by simp only [isMarkB, Bool.and_eq_true] at hmk; exact hmk.2
      have hml : 1 ≤ mark.length ∧ mark.length ≤ 16 := by simp [isMarkB, inR] at hmk; omega
      have hword : ∀ w, w ∈ data → c.isWord w = true := by simp only [GCode.isData, Bool.and_eq_true, List.all_eq_true] at hdt; exact hdt.2
      have henc : c.encode s data = ((c.stream s data).1, (c.stream s data).2, 0) := by simp [GCode.encode, hok, hst, hdt]
      have ce := codes_Encode_ret c s n1 data
      rw [henc] at ce
      have hapr : c.apartR mark = (c.apart mark, 0) := by simp [GCode.apartR, hok, hmk]
      have ca := codes_Apart_ret c n2 mark
      rw [hapr] at ca
      have hB128 := stream_len_int c data s (by omega)
      have hbb := stream_bits c data s
      have hlow : ∀ a : Nat, a + mark.length ≤ (c.stream s data).1.length → c.apart mark ≤ dist mark ((c.stream s data).1.drop a) := fun a ha => apart_dist c hok hml.2 hst hword a ha hml.1
      have hhi := apart_high c hok hml.2
      have hlo := apart_pos c mark
      dsimp only at ce ca
      generalize (c.stream s data).1 = B at *
      generalize (c.stream s data).2 = S' at *
      generalize c.apart mark = N at *
      have cs1 := law04_stained_ret n2 n3 mark spots hmb (by omega)
      have cs2 := fun nl => law04_stained_ret nl n3 B spots hbb (by omega)
      have k1 := stain_bits hmb spots mark hmb
      have k2 := stain_bits hbb spots B hbb
      have l1 := stainF_len mark spots mark
      have l2 := stainF_len B spots B
      have d1 := (dist_stain mark mark 0 spots mark).2
      simp only [List.drop_zero, dist_self] at d1
      have d2 : ∀ a : Nat, dist mark (B.drop a) - spots.length ≤ dist mark ((stainF B B spots).drop a) := fun a => (dist_stain B mark a spots B).1
      have hwe : IntKind.i64.wrap (2 * er) = 2 * er := wrapI _ (by omega)
      generalize stainF mark mark spots = M1 at *
      generalize stainF B B spots = B1 at *
      have cf1 := codes_Find_ret n2 false mark M1 er
      have cf2 := codes_Find_ret n2 false mark B1 er
      rw [findR_ok hmk (by omega) k1 ⟨he0, he1⟩, show M1.length + 1 - mark.length = 1 by omega, findF_one (by omega)] at cf1
      have hfin : 2 * er < N → findR mark B1 er = ([], 0) := fun hN => by
        rw [findR_ok hmk (by omega) k2 ⟨he0, he1⟩, findF_nil _ 0 (by omega) fun a ha hb => by
          have e1 := d2 a
          have e2 := hlow a (by omega)
          omega]
      dsimp only at cf1
      clear hlow d2 hwf hword henc hapr hdt hbb hmb k1 k2
      by_cases hN : 2 * er < N
      · rw [hfin hN] at cf2
        dsimp only at cf2
        (try (simp -implicitDefEqProofs only [go_sem, Nat.reduceAdd, Nat.reduceSub, Nat.reduceMul, Nat.reduceEqDiff, Nat.reduceBEq, Nat.reduceLeDiff, Nat.reduceLT, Int.reduceToNat, Int.reduceLE, Int.reduceLT, Int.reduceNeg, reduceIte, reduceCtorEq, Int.reduceEq, Int.reduceAdd, Int.reduceSub, Int.reduceMul, codeD_eq, codeC_eq, hwr, hwe])); repeat' first | with_reducible exact True.intro | with_reducible refine And.intro ?_ ?_ | with_reducible intro _ | (((with_reducible refine isCall ?_); first | refine call_b (law04_valid_ret c s) rfl ?_ ?_ | refine call_d (law04_valid_ret c s) rfl ?_ | refine call_sb (law04_valid_ret c s) rfl ?_ ?_ | refine call_s (law04_valid_ret c s) rfl rfl ?_ | refine call_b (cid _) rfl ?_ ?_ | refine call_d (cid _) rfl ?_ | refine call_sb (cid _) rfl ?_ ?_ | refine call_s (cid _) rfl rfl ?_ | refine call_b (ref04_IsMark_ret n2 mark) rfl ?_ ?_ | refine call_d (ref04_IsMark_ret n2 mark) rfl ?_ | refine call_sb (ref04_IsMark_ret n2 mark) rfl ?_ ?_ | refine call_s (ref04_IsMark_ret n2 mark) rfl rfl ?_ | refine call_b (law04_works_ret) rfl ?_ ?_ | refine call_d (law04_works_ret) rfl ?_ | refine call_sb (law04_works_ret) rfl ?_ ?_ | refine call_s (law04_works_ret) rfl rfl ?_ | refine call_b (ca) rfl ?_ ?_ | refine call_d (ca) rfl ?_ | refine call_sb (ca) rfl ?_ ?_ | refine call_s (ca) rfl rfl ?_ | refine call_b (ce) rfl ?_ ?_ | refine call_d (ce) rfl ?_ | refine call_sb (ce) rfl ?_ ?_ | refine call_s (ce) rfl rfl ?_ | refine call_b (cs1) rfl ?_ ?_ | refine call_d (cs1) rfl ?_ | refine call_sb (cs1) rfl ?_ ?_ | refine call_s (cs1) rfl rfl ?_ | refine call_b (cs2 _) rfl ?_ ?_ | refine call_d (cs2 _) rfl ?_ | refine call_sb (cs2 _) rfl ?_ ?_ | refine call_s (cs2 _) rfl rfl ?_ | refine call_b (cf1) rfl ?_ ?_ | refine call_d (cf1) rfl ?_ | refine call_sb (cf1) rfl ?_ ?_ | refine call_s (cf1) rfl rfl ?_ | refine call_b (cf2) rfl ?_ ?_ | refine call_d (cf2) rfl ?_ | refine call_sb (cf2) rfl ?_ ?_ | refine call_s (cf2) rfl rfl ?_) <;> try (simp -implicitDefEqProofs only [go_sem, Nat.reduceAdd, Nat.reduceSub, Nat.reduceMul, Nat.reduceEqDiff, Nat.reduceBEq, Nat.reduceLeDiff, Nat.reduceLT, Int.reduceToNat, Int.reduceLE, Int.reduceLT, Int.reduceNeg, reduceIte, reduceCtorEq, Int.reduceEq, Int.reduceAdd, Int.reduceSub, Int.reduceMul, codeD_eq, codeC_eq, hwr, hwe])) | (((with_reducible refine vc_b ?_ ?_) <;> intro _) <;> try (simp -implicitDefEqProofs only [go_sem, Nat.reduceAdd, Nat.reduceSub, Nat.reduceMul, Nat.reduceEqDiff, Nat.reduceBEq, Nat.reduceLeDiff, Nat.reduceLT, Int.reduceToNat, Int.reduceLE, Int.reduceLT, Int.reduceNeg, reduceIte, reduceCtorEq, Int.reduceEq, Int.reduceAdd, Int.reduceSub, Int.reduceMul, codeD_eq, codeC_eq, hwr, hwe])) | simp (disch := omega) only [wrapI, wrapU, shl1, shl1', shl1'', shrN, shrN', and_one] | ((with_reducible refine isEx8 ?_); refine ⟨(_, _, _, _, _, _, _, _), rfl, ?_, ?_⟩) | ((with_reducible refine isEx7 ?_); refine ⟨(_, _, _, _, _, _, _), rfl, ?_, ?_⟩) | ((with_reducible refine isEx6 ?_); refine ⟨(_, _, _, _, _, _), rfl, ?_, ?_⟩) | ((with_reducible refine isEx5 ?_); refine ⟨(_, _, _, _, _), rfl, ?_, ?_⟩) | ((with_reducible refine isEx4 ?_); refine ⟨(_, _, _, _), rfl, ?_, ?_⟩) | ((with_reducible refine isEx3 ?_); refine ⟨(_, _, _), rfl, ?_, ?_⟩) | ((with_reducible refine isEx2 ?_); refine ⟨(_, _), rfl, ?_, ?_⟩) | ((with_reducible refine isEx ?_); refine ⟨_, rfl, ?_, ?_⟩)
        all_goals first | omega | (simp; done) | (simp; omega) | skip
        all_goals (exfalso; simp_all; done)
      · (try (simp -implicitDefEqProofs only [go_sem, Nat.reduceAdd, Nat.reduceSub, Nat.reduceMul, Nat.reduceEqDiff, Nat.reduceBEq, Nat.reduceLeDiff, Nat.reduceLT, Int.reduceToNat, Int.reduceLE, Int.reduceLT, Int.reduceNeg, reduceIte, reduceCtorEq, Int.reduceEq, Int.reduceAdd, Int.reduceSub, Int.reduceMul, codeD_eq, codeC_eq, hwr, hwe])); repeat' first | with_reducible exact True.intro | with_reducible refine And.intro ?_ ?_ | with_reducible intro _ | (((with_reducible refine isCall ?_); first | refine call_b (law04_valid_ret c s) rfl ?_ ?_ | refine call_d (law04_valid_ret c s) rfl ?_ | refine call_sb (law04_valid_ret c s) rfl ?_ ?_ | refine call_s (law04_valid_ret c s) rfl rfl ?_ | refine call_b (cid _) rfl ?_ ?_ | refine call_d (cid _) rfl ?_ | refine call_sb (cid _) rfl ?_ ?_ | refine call_s (cid _) rfl rfl ?_ | refine call_b (ref04_IsMark_ret n2 mark) rfl ?_ ?_ | refine call_d (ref04_IsMark_ret n2 mark) rfl ?_ | refine call_sb (ref04_IsMark_ret n2 mark) rfl ?_ ?_ | refine call_s (ref04_IsMark_ret n2 mark) rfl rfl ?_ | refine call_b (law04_works_ret) rfl ?_ ?_ | refine call_d (law04_works_ret) rfl ?_ | refine call_sb (law04_works_ret) rfl ?_ ?_ | refine call_s (law04_works_ret) rfl rfl ?_ | refine call_b (ca) rfl ?_ ?_ | refine call_d (ca) rfl ?_ | refine call_sb (ca) rfl ?_ ?_ | refine call_s (ca) rfl rfl ?_ | refine call_b (ce) rfl ?_ ?_ | refine call_d (ce) rfl ?_ | refine call_sb (ce) rfl ?_ ?_ | refine call_s (ce) rfl rfl ?_ | refine call_b (cs1) rfl ?_ ?_ | refine call_d (cs1) rfl ?_ | refine call_sb (cs1) rfl ?_ ?_ | refine call_s (cs1) rfl rfl ?_ | refine call_b (cs2 _) rfl ?_ ?_ | refine call_d (cs2 _) rfl ?_ | refine call_sb (cs2 _) rfl ?_ ?_ | refine call_s (cs2 _) rfl rfl ?_ | refine call_b (cf1) rfl ?_ ?_ | refine call_d (cf1) rfl ?_ | refine call_sb (cf1) rfl ?_ ?_ | refine call_s (cf1) rfl rfl ?_ | refine call_b (cf2) rfl ?_ ?_ | refine call_d (cf2) rfl ?_ | refine call_sb (cf2) rfl ?_ ?_ | refine call_s (cf2) rfl rfl ?_) <;> try (simp -implicitDefEqProofs only [go_sem, Nat.reduceAdd, Nat.reduceSub, Nat.reduceMul, Nat.reduceEqDiff, Nat.reduceBEq, Nat.reduceLeDiff, Nat.reduceLT, Int.reduceToNat, Int.reduceLE, Int.reduceLT, Int.reduceNeg, reduceIte, reduceCtorEq, Int.reduceEq, Int.reduceAdd, Int.reduceSub, Int.reduceMul, codeD_eq, codeC_eq, hwr, hwe])) | (((with_reducible refine vc_b ?_ ?_) <;> intro _) <;> try (simp -implicitDefEqProofs only [go_sem, Nat.reduceAdd, Nat.reduceSub, Nat.reduceMul, Nat.reduceEqDiff, Nat.reduceBEq, Nat.reduceLeDiff, Nat.reduceLT, Int.reduceToNat, Int.reduceLE, Int.reduceLT, Int.reduceNeg, reduceIte, reduceCtorEq, Int.reduceEq, Int.reduceAdd, Int.reduceSub, Int.reduceMul, codeD_eq, codeC_eq, hwr, hwe])) | simp (disch := omega) only [wrapI, wrapU, shl1, shl1', shl1'', shrN, shrN', and_one] | ((with_reducible refine isEx8 ?_); refine ⟨(_, _, _, _, _, _, _, _), rfl, ?_, ?_⟩) | ((with_reducible refine isEx7 ?_); refine ⟨(_, _, _, _, _, _, _), rfl, ?_, ?_⟩) | ((with_reducible refine isEx6 ?_); refine ⟨(_, _, _, _, _, _), rfl, ?_, ?_⟩) | ((with_reducible refine isEx5 ?_); refine ⟨(_, _, _, _, _), rfl, ?_, ?_⟩) | ((with_reducible refine isEx4 ?_); refine ⟨(_, _, _, _), rfl, ?_, ?_⟩) | ((with_reducible refine isEx3 ?_); refine ⟨(_, _, _), rfl, ?_, ?_⟩) | ((with_reducible refine isEx2 ?_); refine ⟨(_, _), rfl, ?_, ?_⟩) | ((with_reducible refine isEx ?_); refine ⟨_, rfl, ?_, ?_⟩)
        all_goals first | omega | (simp; done) | (simp; omega) | skip
        all_goals (exfalso; simp_all; done)
    · (try (simp -implicitDefEqProofs only [go_sem, Nat.reduceAdd, Nat.reduceSub, Nat.reduceMul, Nat.reduceEqDiff, Nat.reduceBEq, Nat.reduceLeDiff, Nat.reduceLT, Int.reduceToNat, Int.reduceLE, Int.reduceLT, Int.reduceNeg, reduceIte, reduceCtorEq, Int.reduceEq, Int.reduceAdd, Int.reduceSub, Int.reduceMul, codeD_eq, codeC_eq, hwr])); repeat' first | with_reducible exact True.intro | with_reducible refine And.intro ?_ ?_ | with_reducible intro _ | (((with_reducible refine isCall ?_); first | refine call_b (law04_valid_ret c s) rfl ?_ ?_ | refine call_d (law04_valid_ret c s) rfl ?_ | refine call_sb (law04_valid_ret c s) rfl ?_ ?_ | refine call_s (law04_valid_ret c s) rfl rfl ?_ | refine call_b (cid _) rfl ?_ ?_ | refine call_d (cid _) rfl ?_ | refine call_sb (cid _) rfl ?_ ?_ | refine call_s (cid _) rfl rfl ?_ | refine call_b (ref04_IsMark_ret n2 mark) rfl ?_ ?_ | refine call_d (ref04_IsMark_ret n2 mark) rfl ?_ | refine call_sb (ref04_IsMark_ret n2 mark) rfl ?_ ?_ | refine call_s (ref04_IsMark_ret n2 mark) rfl rfl ?_ | refine call_b (law04_works_ret) rfl ?_ ?_ | refine call_d (law04_works_ret) rfl ?_ | refine call_sb (law04_works_ret) rfl ?_ ?_ | refine call_s (law04_works_ret) rfl rfl ?_) <;> try (simp -implicitDefEqProofs only [go_sem, Nat.reduceAdd, Nat.reduceSub, Nat.reduceMul, Nat.reduceEqDiff, Nat.reduceBEq, Nat.reduceLeDiff, Nat.reduceLT, Int.reduceToNat, Int.reduceLE, Int.reduceLT, Int.reduceNeg, reduceIte, reduceCtorEq, Int.reduceEq, Int.reduceAdd, Int.reduceSub, Int.reduceMul, codeD_eq, codeC_eq, hwr])) | (((with_reducible refine vc_b ?_ ?_) <;> intro _) <;> try (simp -implicitDefEqProofs only [go_sem, Nat.reduceAdd, Nat.reduceSub, Nat.reduceMul, Nat.reduceEqDiff, Nat.reduceBEq, Nat.reduceLeDiff, Nat.reduceLT, Int.reduceToNat, Int.reduceLE, Int.reduceLT, Int.reduceNeg, reduceIte, reduceCtorEq, Int.reduceEq, Int.reduceAdd, Int.reduceSub, Int.reduceMul, codeD_eq, codeC_eq, hwr])) | simp (disch := omega) only [wrapI, wrapU, shl1, shl1', shl1'', shrN, shrN', and_one] | ((with_reducible refine isEx8 ?_); refine ⟨(_, _, _, _, _, _, _, _), rfl, ?_, ?_⟩) | ((with_reducible refine isEx7 ?_); refine ⟨(_, _, _, _, _, _, _), rfl, ?_, ?_⟩) | ((with_reducible refine isEx6 ?_); refine ⟨(_, _, _, _, _, _), rfl, ?_, ?_⟩) | ((with_reducible refine isEx5 ?_); refine ⟨(_, _, _, _, _), rfl, ?_, ?_⟩) | ((with_reducible refine isEx4 ?_); refine ⟨(_, _, _, _), rfl, ?_, ?_⟩) | ((with_reducible refine isEx3 ?_); refine ⟨(_, _, _), rfl, ?_, ?_⟩) | ((with_reducible refine isEx2 ?_); refine ⟨(_, _), rfl, ?_, ?_⟩) | ((with_reducible refine isEx ?_); refine ⟨_, rfl, ?_, ?_⟩)
      all_goals first | omega | (simp_all; done) | skip
      all_goals (exfalso; exact hg ⟨by assumption, by omega, by omega, by omega, by omega⟩)

def staT : Ty := .str [.int .i64, .int .i64, .list (.int .i64), .list (.int .i64), .list (.int .i64)]
theorem typed_sta {x : D} (h : TypedV staT x) : ∃ s e n1 l n2 m n3 k, x = .agg [.int .i64 s, .int .i64 e, .list n1 (ints l), .list n2 (ints m), .list n3 (ints k)] := by
  obtain ⟨h, hx⟩ := h
  obtain ⟨a1, r1, e1, t1, h⟩ := typed_cons h
  obtain ⟨a2, r2, e2, t2, h⟩ := typed_cons h
  obtain ⟨a3, r3, e3, t3, h⟩ := typed_cons h
  obtain ⟨a4, r4, e4, t4, h⟩ := typed_cons h
  obtain ⟨a5, r5, e5, t5, h⟩ := typed_cons h
  have e6 := typed_nil h
  obtain ⟨s, rfl⟩ := typed_int t1
  obtain ⟨e, rfl⟩ := typed_int t2
  obtain ⟨n1, l, rfl⟩ := typed_ints t3
  obtain ⟨n2, m, rfl⟩ := typed_ints t4
  obtain ⟨n3, k, rfl⟩ := typed_ints t5
  refine ⟨s, e, n1, l, n2, m, n3, k, ?_⟩
  rw [hx, e1, e2, e3, e4, e5, e6]; rfl
end Go.Pw
