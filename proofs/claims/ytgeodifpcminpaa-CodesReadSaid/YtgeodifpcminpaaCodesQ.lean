/- The codes: CodesNear and CodesFound. -/
import Derived.Test.YtgeodifpcminpaaCodesO
set_option linter.all false
open Go Go.Pw Go.Proofs
namespace Go.Pw
set_option linter.unusedSimpArgs false
set_option linter.unusedVariables false
set_option maxRecDepth 100000
set_option maxHeartbeats 1600000
attribute [local congr] cg_pw cg_seqI cg_seqE cg_stepI cg_ev cg_evBin cg_condB cg_condV cg_thenQ cg_blockQ cg_onSome cg_onCells cg_onRow cg_onMap cg_onOpt cg_ghosts cg_ghost cg_evCall cg_part cg_rng cg_guardV cg_frzV cg_frpV cg_ownV cg_owcV cg_occV cg_occX cg_resK cg_res1
attribute [local irreducible] IntKind.wrap bitsOp Option.getD and or

theorem stream_bits (c : GCode) : ∀ (l : List Int) (s : Int), areBits (c.stream s l).1 = true
  | [], s => rfl
  | w :: l, s => by
    have h1 := stream_bits c l (c.nxt s w)
    have h2 := bitsOf_bits c.out.toNat (c.wrd s w)
    simp only [areBits] at h1 h2
    simp only [GCode.stream, areBits, List.all_append, h1, h2, Bool.and_self]

theorem findR_ok {mark bits : List Int} {e : Int} (h1 : isMarkB mark = true) (h2 : bits.length ≤ 128) (h3 : areBits bits = true) (h4 : 0 ≤ e ∧ e ≤ 16) : findR mark bits e = (findF mark bits e (bits.length + 1 - mark.length) 0, 0) := by
  simp [findR, h1, h2, h3, inR, h4.1, h4.2]

theorem findF_le {mark bits : List Int} {e : Int} : ∀ (n : Nat) (i : Int), (findF mark bits e n i).length ≤ n
  | 0, i => by simp [findF]
  | n + 1, i => by
    have := findF_le (mark := mark) (bits := bits) (e := e) n (i + 1)
    simp only [findF]
    split <;> simp <;> omega
theorem prod_bound {a : Int} {b : Nat} (ha : 1 ≤ a ∧ a ≤ 5) (hb : b ≤ 24) : 0 ≤ a * b ∧ a * b ≤ 120 := by
  obtain ⟨h1, h2⟩ := ha
  refine ⟨Int.mul_nonneg (by omega) (by omega), ?_⟩
  have := Int.mul_le_mul h2 (show (b : Int) ≤ 24 by omega) (by omega) (by omega)
  omega
theorem stream_len_int (c : GCode) (l : List Int) (s : Int) (h : 0 ≤ c.out) : ((c.stream s l).1.length : Int) = c.out * l.length := by
  rw [stream_len, Int.natCast_mul, Int.mul_comm]; congr 1; omega

theorem CodesNear_ret (c : GCode) (s er : Int) (n1 n2 n3 : Bool) (data mark spots : List Int) (more : Int) :
    Ret E0 F_law04_CodesNear [codeD c, .agg [.int .i64 s, .int .i64 er, .list n1 (ints data), .list n2 (ints mark), .list n3 (ints spots)], .int .i64 more] (.bool true) := by
  refine ret_of_pw dec_law04_CodesNear mixed (by simp) fun hwf => ?_
  simp only [wf_int, wf_bool, wf_ints, wf_list, wf_agg, wf_ptr, wf_fn, wf_tup, wf_all_cons, wf_all_nil, wf_all_map, inK_i64, maxLen_eq, List.length_map, ints_len, true_and, and_true, codeD_eq, codeC_eq, rowsD_eq] at hwf
  rw [enter_eq]; unfold pc_law04_CodesNear
  cases hv : (!c.far && (c.ok && c.isState s)) with
  | false =>
    (try (simp -implicitDefEqProofs only [go_sem, Nat.reduceAdd, Nat.reduceSub, Nat.reduceMul, Nat.reduceEqDiff, Nat.reduceBEq, Nat.reduceLeDiff, Nat.reduceLT, Int.reduceToNat, Int.reduceLE, Int.reduceLT, Int.reduceNeg, reduceIte, reduceCtorEq, Int.reduceEq, Int.reduceAdd, Int.reduceSub, Int.reduceMul, codeD_eq, codeC_eq])); repeat' first | with_reducible exact True.intro | with_reducible refine And.intro ?_ ?_ | with_reducible intro _ | (((with_reducible refine isCall ?_); first | refine call_b (law04_valid_ret c s) rfl ?_ ?_ | refine call_d (law04_valid_ret c s) rfl ?_ | refine call_sb (law04_valid_ret c s) rfl ?_ ?_ | refine call_s (law04_valid_ret c s) rfl rfl ?_ | refine call_b (law04_works_ret) rfl ?_ ?_ | refine call_d (law04_works_ret) rfl ?_ | refine call_sb (law04_works_ret) rfl ?_ ?_ | refine call_s (law04_works_ret) rfl rfl ?_) <;> try (simp -implicitDefEqProofs only [go_sem, Nat.reduceAdd, Nat.reduceSub, Nat.reduceMul, Nat.reduceEqDiff, Nat.reduceBEq, Nat.reduceLeDiff, Nat.reduceLT, Int.reduceToNat, Int.reduceLE, Int.reduceLT, Int.reduceNeg, reduceIte, reduceCtorEq, Int.reduceEq, Int.reduceAdd, Int.reduceSub, Int.reduceMul, codeD_eq, codeC_eq])) | (((with_reducible refine vc_b ?_ ?_) <;> intro _) <;> try (simp -implicitDefEqProofs only [go_sem, Nat.reduceAdd, Nat.reduceSub, Nat.reduceMul, Nat.reduceEqDiff, Nat.reduceBEq, Nat.reduceLeDiff, Nat.reduceLT, Int.reduceToNat, Int.reduceLE, Int.reduceLT, Int.reduceNeg, reduceIte, reduceCtorEq, Int.reduceEq, Int.reduceAdd, Int.reduceSub, Int.reduceMul, codeD_eq, codeC_eq])) | simp (disch := omega) only [wrapI, wrapU, shl1, shl1', shl1'', shrN, shrN', and_one] | ((with_reducible refine isEx8 ?_); refine ⟨(_, _, _, _, _, _, _, _), rfl, ?_, ?_⟩) | ((with_reducible refine isEx7 ?_); refine ⟨(_, _, _, _, _, _, _), rfl, ?_, ?_⟩) | ((with_reducible refine isEx6 ?_); refine ⟨(_, _, _, _, _, _), rfl, ?_, ?_⟩) | ((with_reducible refine isEx5 ?_); refine ⟨(_, _, _, _, _), rfl, ?_, ?_⟩) | ((with_reducible refine isEx4 ?_); refine ⟨(_, _, _, _), rfl, ?_, ?_⟩) | ((with_reducible refine isEx3 ?_); refine ⟨(_, _, _), rfl, ?_, ?_⟩) | ((with_reducible refine isEx2 ?_); refine ⟨(_, _), rfl, ?_, ?_⟩) | ((with_reducible refine isEx ?_); refine ⟨_, rfl, ?_, ?_⟩)
    all_goals first | omega | simp_all
  | true =>
    have hok : c.ok = true := by cases h : c.ok <;> simp_all
    have hst : c.isState s = true := by cases h : c.isState s <;> simp_all
    have hd := GCode.ok_head hok
    have cid := fun nl => ref04_IsData_ret c nl data (by omega)
    cases hdt : c.isData data with
    | false =>
      (try (simp -implicitDefEqProofs only [go_sem, Nat.reduceAdd, Nat.reduceSub, Nat.reduceMul, Nat.reduceEqDiff, Nat.reduceBEq, Nat.reduceLeDiff, Nat.reduceLT, Int.reduceToNat, Int.reduceLE, Int.reduceLT, Int.reduceNeg, reduceIte, reduceCtorEq, Int.reduceEq, Int.reduceAdd, Int.reduceSub, Int.reduceMul, codeD_eq, codeC_eq])); repeat' first | with_reducible exact True.intro | with_reducible refine And.intro ?_ ?_ | with_reducible intro _ | (((with_reducible refine isCall ?_); first | refine call_b (law04_valid_ret c s) rfl ?_ ?_ | refine call_d (law04_valid_ret c s) rfl ?_ | refine call_sb (law04_valid_ret c s) rfl ?_ ?_ | refine call_s (law04_valid_ret c s) rfl rfl ?_ | refine call_b (cid _) rfl ?_ ?_ | refine call_d (cid _) rfl ?_ | refine call_sb (cid _) rfl ?_ ?_ | refine call_s (cid _) rfl rfl ?_ | refine call_b (law04_works_ret) rfl ?_ ?_ | refine call_d (law04_works_ret) rfl ?_ | refine call_sb (law04_works_ret) rfl ?_ ?_ | refine call_s (law04_works_ret) rfl rfl ?_) <;> try (simp -implicitDefEqProofs only [go_sem, Nat.reduceAdd, Nat.reduceSub, Nat.reduceMul, Nat.reduceEqDiff, Nat.reduceBEq, Nat.reduceLeDiff, Nat.reduceLT, Int.reduceToNat, Int.reduceLE, Int.reduceLT, Int.reduceNeg, reduceIte, reduceCtorEq, Int.reduceEq, Int.reduceAdd, Int.reduceSub, Int.reduceMul, codeD_eq, codeC_eq])) | (((with_reducible refine vc_b ?_ ?_) <;> intro _) <;> try (simp -implicitDefEqProofs only [go_sem, Nat.reduceAdd, Nat.reduceSub, Nat.reduceMul, Nat.reduceEqDiff, Nat.reduceBEq, Nat.reduceLeDiff, Nat.reduceLT, Int.reduceToNat, Int.reduceLE, Int.reduceLT, Int.reduceNeg, reduceIte, reduceCtorEq, Int.reduceEq, Int.reduceAdd, Int.reduceSub, Int.reduceMul, codeD_eq, codeC_eq])) | simp (disch := omega) only [wrapI, wrapU, shl1, shl1', shl1'', shrN, shrN', and_one] | ((with_reducible refine isEx8 ?_); refine ⟨(_, _, _, _, _, _, _, _), rfl, ?_, ?_⟩) | ((with_reducible refine isEx7 ?_); refine ⟨(_, _, _, _, _, _, _), rfl, ?_, ?_⟩) | ((with_reducible refine isEx6 ?_); refine ⟨(_, _, _, _, _, _), rfl, ?_, ?_⟩) | ((with_reducible refine isEx5 ?_); refine ⟨(_, _, _, _, _), rfl, ?_, ?_⟩) | ((with_reducible refine isEx4 ?_); refine ⟨(_, _, _, _), rfl, ?_, ?_⟩) | ((with_reducible refine isEx3 ?_); refine ⟨(_, _, _), rfl, ?_, ?_⟩) | ((with_reducible refine isEx2 ?_); refine ⟨(_, _), rfl, ?_, ?_⟩) | ((with_reducible refine isEx ?_); refine ⟨_, rfl, ?_, ?_⟩)
      all_goals first | omega | simp_all
    | true =>
    have h24 : data.length ≤ 24 := by simp [GCode.isData] at hdt; omega
    have hP := prod_bound (a := c.out) (b := data.length) (by omega) h24
    have hwr : IntKind.i64.wrap (c.out * data.length) = c.out * data.length := wrapI _ (by omega)
    by_cases hg : isMarkB mark = true ∧ (0 ≤ er ∧ er ≤ 16 ∧ 0 ≤ more ∧ more ≤ 16 ∧ c.out * data.length ≤ 128)
    · obtain ⟨hmk, he0, he1, hm0, hm1, h128⟩ := hg
      have hmb : areBits mark = true := by simp only [isMarkB, Bool.and_eq_true] at hmk; exact hmk.2
      have hml : 1 ≤ mark.length ∧ mark.length ≤ 16 := by simp [isMarkB, inR] at hmk; omega
      have hword : ∀ w, w ∈ data → c.isWord w = true := by simp only [GCode.isData, Bool.and_eq_true, List.all_eq_true] at hdt; exact hdt.2
      have henc : c.encode s data = ((c.stream s data).1, (c.stream s data).2, 0) := by simp [GCode.encode, hok, hst, hdt]
      have ce := codes_Encode_ret c s n1 data
      rw [henc] at ce
      have hapr : c.apartR mark = (c.apart mark, 0) := by simp [GCode.apartR, hok, hmk]
      have ca := codes_Apart_ret c n2 mark
      rw [hapr] at ca
      have hB128 := stream_len_int c data s (by omega)
      have hbb := stream_bits c data s
      have hlow : ∀ a : Nat, a + mark.length ≤ (c.stream s data).1.length → c.apart mark ≤ dist mark ((c.stream s data).1.drop a) := fun a ha => apart_dist c hok hml.2 hst hword a ha hml.1
      have hhi := apart_high c hok hml.2
      have hlo := apart_pos c mark
      dsimp only at ce ca
      generalize (c.stream s data).1 = B at *
      generalize (c.stream s data).2 = S' at *
      generalize c.apart mark = N at *
      have cf1 := fun nl => codes_Find_ret n2 nl mark B er
      have cf2 := fun nl => codes_Find_ret n2 nl mark B (min 16 (er + more))
      rw [findR_ok hmk (by omega) hbb ⟨he0, he1⟩] at cf1
      rw [findR_ok hmk (by omega) hbb (e := min 16 (er + more)) ⟨by omega, by omega⟩] at cf2
      have hfl := findF_len (mark := mark) (bits := B) (e := er) (e' := min 16 (er + more)) (by omega) (B.length + 1 - mark.length) 0
      have hf2 := findF_le (mark := mark) (bits := B) (e := min 16 (er + more)) (B.length + 1 - mark.length) 0
      have hfm : ∀ j, j ∈ findF mark B er (B.length + 1 - mark.length) 0 → j ∈ findF mark B (min 16 (er + more)) (B.length + 1 - mark.length) 0 := fun j hj => by
        rw [findF_mem] at hj ⊢; omega
      have cdist := fun n1 n2 (i : Int) (h0 : 0 ≤ i) (h : i + mark.length ≤ B.length) => ref04_Distance_ret n1 n2 mark B i h0 h (by omega) (by omega)
      generalize findF mark B er (B.length + 1 - mark.length) 0 = L1 at *
      generalize findF mark B (min 16 (er + more)) (B.length + 1 - mark.length) 0 = L2 at *
      dsimp only at cf1 cf2
      (try (simp -implicitDefEqProofs only [go_sem, Nat.reduceAdd, Nat.reduceSub, Nat.reduceMul, Nat.reduceEqDiff, Nat.reduceBEq, Nat.reduceLeDiff, Nat.reduceLT, Int.reduceToNat, Int.reduceLE, Int.reduceLT, Int.reduceNeg, reduceIte, reduceCtorEq, Int.reduceEq, Int.reduceAdd, Int.reduceSub, Int.reduceMul, codeD_eq, codeC_eq, hwr])); repeat' first | with_reducible exact True.intro | with_reducible refine And.intro ?_ ?_ | with_reducible intro _ | (((with_reducible refine isCall ?_); first | refine call_b (law04_valid_ret c s) rfl ?_ ?_ | refine call_d (law04_valid_ret c s) rfl ?_ | refine call_sb (law04_valid_ret c s) rfl ?_ ?_ | refine call_s (law04_valid_ret c s) rfl rfl ?_ | refine call_b (cid _) rfl ?_ ?_ | refine call_d (cid _) rfl ?_ | refine call_sb (cid _) rfl ?_ ?_ | refine call_s (cid _) rfl rfl ?_ | refine call_b (ref04_IsMark_ret n2 mark) rfl ?_ ?_ | refine call_d (ref04_IsMark_ret n2 mark) rfl ?_ | refine call_sb (ref04_IsMark_ret n2 mark) rfl ?_ ?_ | refine call_s (ref04_IsMark_ret n2 mark) rfl rfl ?_ | refine call_b (law04_works_ret) rfl ?_ ?_ | refine call_d (law04_works_ret) rfl ?_ | refine call_sb (law04_works_ret) rfl ?_ ?_ | refine call_s (law04_works_ret) rfl rfl ?_ | refine call_b (ca) rfl ?_ ?_ | refine call_d (ca) rfl ?_ | refine call_sb (ca) rfl ?_ ?_ | refine call_s (ca) rfl rfl ?_ | refine call_b (ce) rfl ?_ ?_ | refine call_d (ce) rfl ?_ | refine call_sb (ce) rfl ?_ ?_ | refine call_s (ce) rfl rfl ?_) <;> try (simp -implicitDefEqProofs only [go_sem, Nat.reduceAdd, Nat.reduceSub, Nat.reduceMul, Nat.reduceEqDiff, Nat.reduceBEq, Nat.reduceLeDiff, Nat.reduceLT, Int.reduceToNat, Int.reduceLE, Int.reduceLT, Int.reduceNeg, reduceIte, reduceCtorEq, Int.reduceEq, Int.reduceAdd, Int.reduceSub, Int.reduceMul, codeD_eq, codeC_eq, hwr])) | (((with_reducible refine vc_b ?_ ?_) <;> intro _) <;> try (simp -implicitDefEqProofs only [go_sem, Nat.reduceAdd, Nat.reduceSub, Nat.reduceMul, Nat.reduceEqDiff, Nat.reduceBEq, Nat.reduceLeDiff, Nat.reduceLT, Int.reduceToNat, Int.reduceLE, Int.reduceLT, Int.reduceNeg, reduceIte, reduceCtorEq, Int.reduceEq, Int.reduceAdd, Int.reduceSub, Int.reduceMul, codeD_eq, codeC_eq, hwr])) | simp (disch := omega) only [wrapI, wrapU, shl1, shl1', shl1'', shrN, shrN', and_one] | ((with_reducible refine isEx8 ?_); refine ⟨(_, _, _, _, _, _, _, _), rfl, ?_, ?_⟩) | ((with_reducible refine isEx7 ?_); refine ⟨(_, _, _, _, _, _, _), rfl, ?_, ?_⟩) | ((with_reducible refine isEx6 ?_); refine ⟨(_, _, _, _, _, _), rfl, ?_, ?_⟩) | ((with_reducible refine isEx5 ?_); refine ⟨(_, _, _, _, _), rfl, ?_, ?_⟩) | ((with_reducible refine isEx4 ?_); refine ⟨(_, _, _, _), rfl, ?_, ?_⟩) | ((with_reducible refine isEx3 ?_); refine ⟨(_, _, _), rfl, ?_, ?_⟩) | ((with_reducible refine isEx2 ?_); refine ⟨(_, _), rfl, ?_, ?_⟩) | ((with_reducible refine isEx ?_); refine ⟨_, rfl, ?_, ?_⟩)
      all_goals first | omega | (simp; done) | (simp; omega) | skip
      all_goals try (exfalso; simp_all; done)
      have hBl : B.length ≤ 128 := by omega
      have hem : 0 ≤ er + more ∧ er + more ≤ 32 := by omega
      have hw3 : IntKind.i64.wrap (er + more) = er + more := wrapI _ (by omega)
      have hf3 : L1.length ≤ 200 ∧ L2.length ≤ 200 := by omega
      clear hwf hv hwr hP h24 hdt h128 ce ca cid hword henc hapr hok hst hd hmk hB128 hbb hmb
      refine pw_loopS (α := Int) (l0 := ?l1) (m0 := ?m1) (fun x => [(12, .d (.int .i64 x))]) (fun x => []) (fun x => 0 ≤ x ∧ x ≤ B.length + 1) (fun x => (B.length + 1 - x).toNat) ?a1_0 ?h01 ?he1 ?he21 ?hI1 ?step1
      case h01 => (simp -implicitDefEqProofs only [go_sem, Nat.reduceAdd, Nat.reduceSub, Nat.reduceMul, Nat.reduceEqDiff, Nat.reduceBEq, Nat.reduceLeDiff, Nat.reduceLT, Int.reduceToNat, Int.reduceLE, Int.reduceLT, Int.reduceNeg, reduceIte, reduceCtorEq, Int.reduceEq, Int.reduceAdd, Int.reduceSub, Int.reduceMul]; rfl)
      case he1 => rfl
      case he21 => rfl
      case' step1 => (rintro i hI; try dsimp only at hI)
      case' hI1 => try dsimp only
      · omega
      · have hw2 : IntKind.i64.wrap (i + mark.length) = i + mark.length := wrapI _ (by omega)
        by_cases hi : i + mark.length ≤ B.length
        · have hlw := hlow i.toNat (by omega)
          clear cf1 cf2 hfm hlow
          (try (simp -implicitDefEqProofs only [go_sem, Nat.reduceAdd, Nat.reduceSub, Nat.reduceMul, Nat.reduceEqDiff, Nat.reduceBEq, Nat.reduceLeDiff, Nat.reduceLT, Int.reduceToNat, Int.reduceLE, Int.reduceLT, Int.reduceNeg, reduceIte, reduceCtorEq, Int.reduceEq, Int.reduceAdd, Int.reduceSub, Int.reduceMul, hw2])); repeat' first | with_reducible exact True.intro | with_reducible refine And.intro ?_ ?_ | with_reducible intro _ | (((with_reducible refine isCall ?_); first | refine call_b (cdist _ _ i (by omega) (by omega)) rfl ?_ ?_ | refine call_d (cdist _ _ i (by omega) (by omega)) rfl ?_ | refine call_sb (cdist _ _ i (by omega) (by omega)) rfl ?_ ?_ | refine call_s (cdist _ _ i (by omega) (by omega)) rfl rfl ?_) <;> try (simp -implicitDefEqProofs only [go_sem, Nat.reduceAdd, Nat.reduceSub, Nat.reduceMul, Nat.reduceEqDiff, Nat.reduceBEq, Nat.reduceLeDiff, Nat.reduceLT, Int.reduceToNat, Int.reduceLE, Int.reduceLT, Int.reduceNeg, reduceIte, reduceCtorEq, Int.reduceEq, Int.reduceAdd, Int.reduceSub, Int.reduceMul, hw2])) | (((with_reducible refine vc_b ?_ ?_) <;> intro _) <;> try (simp -implicitDefEqProofs only [go_sem, Nat.reduceAdd, Nat.reduceSub, Nat.reduceMul, Nat.reduceEqDiff, Nat.reduceBEq, Nat.reduceLeDiff, Nat.reduceLT, Int.reduceToNat, Int.reduceLE, Int.reduceLT, Int.reduceNeg, reduceIte, reduceCtorEq, Int.reduceEq, Int.reduceAdd, Int.reduceSub, Int.reduceMul, hw2])) | simp (disch := omega) only [wrapI, wrapU, shl1, shl1', shl1'', shrN, shrN', and_one] | ((with_reducible refine isEx8 ?_); refine ⟨(_, _, _, _, _, _, _, _), rfl, ?_, ?_⟩) | ((with_reducible refine isEx7 ?_); refine ⟨(_, _, _, _, _, _, _), rfl, ?_, ?_⟩) | ((with_reducible refine isEx6 ?_); refine ⟨(_, _, _, _, _, _), rfl, ?_, ?_⟩) | ((with_reducible refine isEx5 ?_); refine ⟨(_, _, _, _, _), rfl, ?_, ?_⟩) | ((with_reducible refine isEx4 ?_); refine ⟨(_, _, _, _), rfl, ?_, ?_⟩) | ((with_reducible refine isEx3 ?_); refine ⟨(_, _, _), rfl, ?_, ?_⟩) | ((with_reducible refine isEx2 ?_); refine ⟨(_, _), rfl, ?_, ?_⟩) | ((with_reducible refine isEx ?_); refine ⟨_, rfl, ?_, ?_⟩)
          all_goals first | omega | (simp; done) | (simp; omega) | skip
        · clear hlow cdist
          (try (simp -implicitDefEqProofs only [go_sem, Nat.reduceAdd, Nat.reduceSub, Nat.reduceMul, Nat.reduceEqDiff, Nat.reduceBEq, Nat.reduceLeDiff, Nat.reduceLT, Int.reduceToNat, Int.reduceLE, Int.reduceLT, Int.reduceNeg, reduceIte, reduceCtorEq, Int.reduceEq, Int.reduceAdd, Int.reduceSub, Int.reduceMul, hw2, hw3])); repeat' first | with_reducible exact True.intro | with_reducible refine And.intro ?_ ?_ | with_reducible intro _ | (((with_reducible refine isCall ?_); first | refine call_b (cf1 _) rfl ?_ ?_ | refine call_d (cf1 _) rfl ?_ | refine call_sb (cf1 _) rfl ?_ ?_ | refine call_s (cf1 _) rfl rfl ?_ | refine call_b (cf2 _) rfl ?_ ?_ | refine call_d (cf2 _) rfl ?_ | refine call_sb (cf2 _) rfl ?_ ?_ | refine call_s (cf2 _) rfl rfl ?_) <;> try (simp -implicitDefEqProofs only [go_sem, Nat.reduceAdd, Nat.reduceSub, Nat.reduceMul, Nat.reduceEqDiff, Nat.reduceBEq, Nat.reduceLeDiff, Nat.reduceLT, Int.reduceToNat, Int.reduceLE, Int.reduceLT, Int.reduceNeg, reduceIte, reduceCtorEq, Int.reduceEq, Int.reduceAdd, Int.reduceSub, Int.reduceMul, hw2, hw3])) | (((with_reducible refine vc_b ?_ ?_) <;> intro _) <;> try (simp -implicitDefEqProofs only [go_sem, Nat.reduceAdd, Nat.reduceSub, Nat.reduceMul, Nat.reduceEqDiff, Nat.reduceBEq, Nat.reduceLeDiff, Nat.reduceLT, Int.reduceToNat, Int.reduceLE, Int.reduceLT, Int.reduceNeg, reduceIte, reduceCtorEq, Int.reduceEq, Int.reduceAdd, Int.reduceSub, Int.reduceMul, hw2, hw3])) | simp (disch := omega) only [wrapI, wrapU, shl1, shl1', shl1'', shrN, shrN', and_one] | ((with_reducible refine isEx8 ?_); refine ⟨(_, _, _, _, _, _, _, _), rfl, ?_, ?_⟩) | ((with_reducible refine isEx7 ?_); refine ⟨(_, _, _, _, _, _, _), rfl, ?_, ?_⟩) | ((with_reducible refine isEx6 ?_); refine ⟨(_, _, _, _, _, _), rfl, ?_, ?_⟩) | ((with_reducible refine isEx5 ?_); refine ⟨(_, _, _, _, _), rfl, ?_, ?_⟩) | ((with_reducible refine isEx4 ?_); refine ⟨(_, _, _, _), rfl, ?_, ?_⟩) | ((with_reducible refine isEx3 ?_); refine ⟨(_, _, _), rfl, ?_, ?_⟩) | ((with_reducible refine isEx2 ?_); refine ⟨(_, _), rfl, ?_, ?_⟩) | ((with_reducible refine isEx ?_); refine ⟨_, rfl, ?_, ?_⟩)
          all_goals first | omega | (simp; done) | (simp; omega) | skip
          clear hw2 hw3 hi hI cf1 cf2 hem he0 he1 hm0 hm1 hlo hhi hml
          refine pw_loopS (α := Int) (l0 := ?l2) (m0 := ?m2) (fun x => [(17, .d (.int .i64 x))]) (fun x => []) (fun x => 0 ≤ x ∧ x ≤ L1.length) (fun x => (L1.length - x).toNat) ?a2_0 ?h02 ?he2 ?he22 ?hI2 ?step2
          case h02 => (simp -implicitDefEqProofs only [go_sem, Nat.reduceAdd, Nat.reduceSub, Nat.reduceMul, Nat.reduceEqDiff, Nat.reduceBEq, Nat.reduceLeDiff, Nat.reduceLT, Int.reduceToNat, Int.reduceLE, Int.reduceLT, Int.reduceNeg, reduceIte, reduceCtorEq, Int.reduceEq, Int.reduceAdd, Int.reduceSub, Int.reduceMul]; rfl)
          case he2 => rfl
          case he22 => rfl
          case' step2 => (rintro i2 hI2; try dsimp only at hI2)
          case' hI2 => try dsimp only
          · omega
          · by_cases hi2 : i2 < L1.length
            · have hmem : (L1[i2.toNat]?.getD 0) ∈ L2 := hfm _ (getD_mem0 (by omega))
              clear hfm
              (try (simp -implicitDefEqProofs only [go_sem, Nat.reduceAdd, Nat.reduceSub, Nat.reduceMul, Nat.reduceEqDiff, Nat.reduceBEq, Nat.reduceLeDiff, Nat.reduceLT, Int.reduceToNat, Int.reduceLE, Int.reduceLT, Int.reduceNeg, reduceIte, reduceCtorEq, Int.reduceEq, Int.reduceAdd, Int.reduceSub, Int.reduceMul])); repeat' first | with_reducible exact True.intro | with_reducible refine And.intro ?_ ?_ | with_reducible intro _ | (((with_reducible refine vc_b ?_ ?_) <;> intro _) <;> try (simp -implicitDefEqProofs only [go_sem, Nat.reduceAdd, Nat.reduceSub, Nat.reduceMul, Nat.reduceEqDiff, Nat.reduceBEq, Nat.reduceLeDiff, Nat.reduceLT, Int.reduceToNat, Int.reduceLE, Int.reduceLT, Int.reduceNeg, reduceIte, reduceCtorEq, Int.reduceEq, Int.reduceAdd, Int.reduceSub, Int.reduceMul])) | simp (disch := omega) only [wrapI, wrapU, shl1, shl1', shl1'', shrN, shrN', and_one] | ((with_reducible refine isEx8 ?_); refine ⟨(_, _, _, _, _, _, _, _), rfl, ?_, ?_⟩) | ((with_reducible refine isEx7 ?_); refine ⟨(_, _, _, _, _, _, _), rfl, ?_, ?_⟩) | ((with_reducible refine isEx6 ?_); refine ⟨(_, _, _, _, _, _), rfl, ?_, ?_⟩) | ((with_reducible refine isEx5 ?_); refine ⟨(_, _, _, _, _), rfl, ?_, ?_⟩) | ((with_reducible refine isEx4 ?_); refine ⟨(_, _, _, _), rfl, ?_, ?_⟩) | ((with_reducible refine isEx3 ?_); refine ⟨(_, _, _), rfl, ?_, ?_⟩) | ((with_reducible refine isEx2 ?_); refine ⟨(_, _), rfl, ?_, ?_⟩) | ((with_reducible refine isEx ?_); refine ⟨_, rfl, ?_, ?_⟩)
              all_goals first | omega | (simp; done) | (simp; omega) | skip
              refine pw_loopS (α := Int × Bool) (l0 := ?l3) (m0 := ?m3) (fun x => [(19, .d (.int .i64 x.1)), (18, .d (.bool x.2))]) (fun x => []) (fun x => 0 ≤ x.1 ∧ x.1 ≤ L2.length ∧ (x.2 = true ↔ ∃ j, j < x.1.toNat ∧ L2[j]?.getD 0 = L1[i2.toNat]?.getD 0)) (fun x => (L2.length - x.1).toNat) (?a3_0, false) ?h03 ?he3 ?he23 ?hI3 ?step3
              case h03 => (simp -implicitDefEqProofs only [go_sem, Nat.reduceAdd, Nat.reduceSub, Nat.reduceMul, Nat.reduceEqDiff, Nat.reduceBEq, Nat.reduceLeDiff, Nat.reduceLT, Int.reduceToNat, Int.reduceLE, Int.reduceLT, Int.reduceNeg, reduceIte, reduceCtorEq, Int.reduceEq, Int.reduceAdd, Int.reduceSub, Int.reduceMul]; rfl)
              case he3 => rfl
              case he23 => rfl
              case' step3 => (rintro ⟨k, b⟩ hI3; try dsimp only at hI3)
              case' hI3 => try dsimp only
              · simp
              · obtain ⟨hk0, hk1, hb⟩ := hI3
                clear hfl hf2 hBl
                by_cases hk : k < L2.length
                · have hn : (∃ j, j < (k + 1).toNat ∧ L2[j]?.getD 0 = L1[i2.toNat]?.getD 0) ↔ ((∃ j, j < k.toNat ∧ L2[j]?.getD 0 = L1[i2.toNat]?.getD 0) ∨ L2[k.toNat]?.getD 0 = L1[i2.toNat]?.getD 0) := by
                    constructor
                    · rintro ⟨j, hj, he⟩
                      by_cases hjk : j = k.toNat
                      · subst hjk; exact .inr he
                      · exact .inl ⟨j, by omega, he⟩
                    · rintro (⟨j, hj, he⟩ | he)
                      · exact ⟨j, by omega, he⟩
                      · exact ⟨k.toNat, by omega, he⟩
                  cases b
                  · (try (simp -implicitDefEqProofs only [go_sem, Nat.reduceAdd, Nat.reduceSub, Nat.reduceMul, Nat.reduceEqDiff, Nat.reduceBEq, Nat.reduceLeDiff, Nat.reduceLT, Int.reduceToNat, Int.reduceLE, Int.reduceLT, Int.reduceNeg, reduceIte, reduceCtorEq, Int.reduceEq, Int.reduceAdd, Int.reduceSub, Int.reduceMul])); repeat' first | with_reducible exact True.intro | with_reducible refine And.intro ?_ ?_ | with_reducible intro _ | (((with_reducible refine vc_b ?_ ?_) <;> intro _) <;> try (simp -implicitDefEqProofs only [go_sem, Nat.reduceAdd, Nat.reduceSub, Nat.reduceMul, Nat.reduceEqDiff, Nat.reduceBEq, Nat.reduceLeDiff, Nat.reduceLT, Int.reduceToNat, Int.reduceLE, Int.reduceLT, Int.reduceNeg, reduceIte, reduceCtorEq, Int.reduceEq, Int.reduceAdd, Int.reduceSub, Int.reduceMul])) | simp (disch := omega) only [wrapI, wrapU, shl1, shl1', shl1'', shrN, shrN', and_one] | ((with_reducible refine isEx8 ?_); refine ⟨(_, _, _, _, _, _, _, _), rfl, ?_, ?_⟩) | ((with_reducible refine isEx7 ?_); refine ⟨(_, _, _, _, _, _, _), rfl, ?_, ?_⟩) | ((with_reducible refine isEx6 ?_); refine ⟨(_, _, _, _, _, _), rfl, ?_, ?_⟩) | ((with_reducible refine isEx5 ?_); refine ⟨(_, _, _, _, _), rfl, ?_, ?_⟩) | ((with_reducible refine isEx4 ?_); refine ⟨(_, _, _, _), rfl, ?_, ?_⟩) | ((with_reducible refine isEx3 ?_); refine ⟨(_, _, _), rfl, ?_, ?_⟩) | ((with_reducible refine isEx2 ?_); refine ⟨(_, _), rfl, ?_, ?_⟩) | ((with_reducible refine isEx ?_); refine ⟨_, rfl, ?_, ?_⟩)
                    all_goals first | omega | (simp; done) | (simp; omega) | skip
                    all_goals first | omega | (rw [hn]; simp_all; done) | (rw [wrapI _ (by omega)]; first | omega | (rw [hn]; simp_all; done))
                  · (try (simp -implicitDefEqProofs only [go_sem, Nat.reduceAdd, Nat.reduceSub, Nat.reduceMul, Nat.reduceEqDiff, Nat.reduceBEq, Nat.reduceLeDiff, Nat.reduceLT, Int.reduceToNat, Int.reduceLE, Int.reduceLT, Int.reduceNeg, reduceIte, reduceCtorEq, Int.reduceEq, Int.reduceAdd, Int.reduceSub, Int.reduceMul])); repeat' first | with_reducible exact True.intro | with_reducible refine And.intro ?_ ?_ | with_reducible intro _ | (((with_reducible refine vc_b ?_ ?_) <;> intro _) <;> try (simp -implicitDefEqProofs only [go_sem, Nat.reduceAdd, Nat.reduceSub, Nat.reduceMul, Nat.reduceEqDiff, Nat.reduceBEq, Nat.reduceLeDiff, Nat.reduceLT, Int.reduceToNat, Int.reduceLE, Int.reduceLT, Int.reduceNeg, reduceIte, reduceCtorEq, Int.reduceEq, Int.reduceAdd, Int.reduceSub, Int.reduceMul])) | simp (disch := omega) only [wrapI, wrapU, shl1, shl1', shl1'', shrN, shrN', and_one] | ((with_reducible refine isEx8 ?_); refine ⟨(_, _, _, _, _, _, _, _), rfl, ?_, ?_⟩) | ((with_reducible refine isEx7 ?_); refine ⟨(_, _, _, _, _, _, _), rfl, ?_, ?_⟩) | ((with_reducible refine isEx6 ?_); refine ⟨(_, _, _, _, _, _), rfl, ?_, ?_⟩) | ((with_reducible refine isEx5 ?_); refine ⟨(_, _, _, _, _), rfl, ?_, ?_⟩) | ((with_reducible refine isEx4 ?_); refine ⟨(_, _, _, _), rfl, ?_, ?_⟩) | ((with_reducible refine isEx3 ?_); refine ⟨(_, _, _), rfl, ?_, ?_⟩) | ((with_reducible refine isEx2 ?_); refine ⟨(_, _), rfl, ?_, ?_⟩) | ((with_reducible refine isEx ?_); refine ⟨_, rfl, ?_, ?_⟩)
                    all_goals first | omega | (simp; done) | (simp; omega) | skip
                    all_goals first | omega | (rw [hn]; simp_all; done) | (rw [wrapI _ (by omega)]; first | omega | (rw [hn]; simp_all; done))
                · have hex : ∃ j, j < k.toNat ∧ L2[j]?.getD 0 = L1[i2.toNat]?.getD 0 := by
                    obtain ⟨j, hj⟩ := List.getElem?_of_mem hmem
                    have hjl := (List.getElem?_eq_some_iff.1 hj).1
                    exact ⟨j, by omega, by rw [hj, Option.getD_some]⟩
                  have hbt : b = true := hb.2 hex
                  subst hbt
                  (try (simp -implicitDefEqProofs only [go_sem, Nat.reduceAdd, Nat.reduceSub, Nat.reduceMul, Nat.reduceEqDiff, Nat.reduceBEq, Nat.reduceLeDiff, Nat.reduceLT, Int.reduceToNat, Int.reduceLE, Int.reduceLT, Int.reduceNeg, reduceIte, reduceCtorEq, Int.reduceEq, Int.reduceAdd, Int.reduceSub, Int.reduceMul])); repeat' first | with_reducible exact True.intro | with_reducible refine And.intro ?_ ?_ | with_reducible intro _ | (((with_reducible refine vc_b ?_ ?_) <;> intro _) <;> try (simp -implicitDefEqProofs only [go_sem, Nat.reduceAdd, Nat.reduceSub, Nat.reduceMul, Nat.reduceEqDiff, Nat.reduceBEq, Nat.reduceLeDiff, Nat.reduceLT, Int.reduceToNat, Int.reduceLE, Int.reduceLT, Int.reduceNeg, reduceIte, reduceCtorEq, Int.reduceEq, Int.reduceAdd, Int.reduceSub, Int.reduceMul])) | simp (disch := omega) only [wrapI, wrapU, shl1, shl1', shl1'', shrN, shrN', and_one] | ((with_reducible refine isEx8 ?_); refine ⟨(_, _, _, _, _, _, _, _), rfl, ?_, ?_⟩) | ((with_reducible refine isEx7 ?_); refine ⟨(_, _, _, _, _, _, _), rfl, ?_, ?_⟩) | ((with_reducible refine isEx6 ?_); refine ⟨(_, _, _, _, _, _), rfl, ?_, ?_⟩) | ((with_reducible refine isEx5 ?_); refine ⟨(_, _, _, _, _), rfl, ?_, ?_⟩) | ((with_reducible refine isEx4 ?_); refine ⟨(_, _, _, _), rfl, ?_, ?_⟩) | ((with_reducible refine isEx3 ?_); refine ⟨(_, _, _), rfl, ?_, ?_⟩) | ((with_reducible refine isEx2 ?_); refine ⟨(_, _), rfl, ?_, ?_⟩) | ((with_reducible refine isEx ?_); refine ⟨_, rfl, ?_, ?_⟩)
                  all_goals first | omega | (simp; done) | (simp; omega) | skip
            · (try (simp -implicitDefEqProofs only [go_sem, Nat.reduceAdd, Nat.reduceSub, Nat.reduceMul, Nat.reduceEqDiff, Nat.reduceBEq, Nat.reduceLeDiff, Nat.reduceLT, Int.reduceToNat, Int.reduceLE, Int.reduceLT, Int.reduceNeg, reduceIte, reduceCtorEq, Int.reduceEq, Int.reduceAdd, Int.reduceSub, Int.reduceMul])); repeat' first | with_reducible exact True.intro | with_reducible refine And.intro ?_ ?_ | with_reducible intro _ | (((with_reducible refine isCall ?_); first | refine call_b (law04_works_ret) rfl ?_ ?_ | refine call_d (law04_works_ret) rfl ?_ | refine call_sb (law04_works_ret) rfl ?_ ?_ | refine call_s (law04_works_ret) rfl rfl ?_) <;> try (simp -implicitDefEqProofs only [go_sem, Nat.reduceAdd, Nat.reduceSub, Nat.reduceMul, Nat.reduceEqDiff, Nat.reduceBEq, Nat.reduceLeDiff, Nat.reduceLT, Int.reduceToNat, Int.reduceLE, Int.reduceLT, Int.reduceNeg, reduceIte, reduceCtorEq, Int.reduceEq, Int.reduceAdd, Int.reduceSub, Int.reduceMul])) | (((with_reducible refine vc_b ?_ ?_) <;> intro _) <;> try (simp -implicitDefEqProofs only [go_sem, Nat.reduceAdd, Nat.reduceSub, Nat.reduceMul, Nat.reduceEqDiff, Nat.reduceBEq, Nat.reduceLeDiff, Nat.reduceLT, Int.reduceToNat, Int.reduceLE, Int.reduceLT, Int.reduceNeg, reduceIte, reduceCtorEq, Int.reduceEq, Int.reduceAdd, Int.reduceSub, Int.reduceMul])) | simp (disch := omega) only [wrapI, wrapU, shl1, shl1', shl1'', shrN, shrN', and_one] | ((with_reducible refine isEx8 ?_); refine ⟨(_, _, _, _, _, _, _, _), rfl, ?_, ?_⟩) | ((with_reducible refine isEx7 ?_); refine ⟨(_, _, _, _, _, _, _), rfl, ?_, ?_⟩) | ((with_reducible refine isEx6 ?_); refine ⟨(_, _, _, _, _, _), rfl, ?_, ?_⟩) | ((with_reducible refine isEx5 ?_); refine ⟨(_, _, _, _, _), rfl, ?_, ?_⟩) | ((with_reducible refine isEx4 ?_); refine ⟨(_, _, _, _), rfl, ?_, ?_⟩) | ((with_reducible refine isEx3 ?_); refine ⟨(_, _, _), rfl, ?_, ?_⟩) | ((with_reducible refine isEx2 ?_); refine ⟨(_, _), rfl, ?_, ?_⟩) | ((with_reducible refine isEx ?_); refine ⟨_, rfl, ?_, ?_⟩)
              all_goals first | omega | (simp; done) | (simp; omega) | skip
    · (try (simp -implicitDefEqProofs only [go_sem, Nat.reduceAdd, Nat.reduceSub, Nat.reduceMul, Nat.reduceEqDiff, Nat.reduceBEq, Nat.reduceLeDiff, Nat.reduceLT, Int.reduceToNat, Int.reduceLE, Int.reduceLT, Int.reduceNeg, reduceIte, reduceCtorEq, Int.reduceEq, Int.reduceAdd, Int.reduceSub, Int.reduceMul, codeD_eq, codeC_eq, hwr])); repeat' first | with_reducible exact True.intro | with_reducible refine And.intro ?_ ?_ | with_reducible intro _ | (((with_reducible refine isCall ?_); first | refine call_b (law04_valid_ret c s) rfl ?_ ?_ | refine call_d (law04_valid_ret c s) rfl ?_ | refine call_sb (law04_valid_ret c s) rfl ?_ ?_ | refine call_s (law04_valid_ret c s) rfl rfl ?_ | refine call_b (cid _) rfl ?_ ?_ | refine call_d (cid _) rfl ?_ | refine call_sb (cid _) rfl ?_ ?_ | refine call_s (cid _) rfl rfl ?_ | refine call_b (ref04_IsMark_ret n2 mark) rfl ?_ ?_ | refine call_d (ref04_IsMark_ret n2 mark) rfl ?_ | refine call_sb (ref04_IsMark_ret n2 mark) rfl ?_ ?_ | refine call_s (ref04_IsMark_ret n2 mark) rfl rfl ?_ | refine call_b (law04_works_ret) rfl ?_ ?_ | refine call_d (law04_works_ret) rfl ?_ | refine call_sb (law04_works_ret) rfl ?_ ?_ | refine call_s (law04_works_ret) rfl rfl ?_) <;> try (simp -implicitDefEqProofs only [go_sem, Nat.reduceAdd, Nat.reduceSub, Nat.reduceMul, Nat.reduceEqDiff, Nat.reduceBEq, Nat.reduceLeDiff, Nat.reduceLT, Int.reduceToNat, Int.reduceLE, Int.reduceLT, Int.reduceNeg, reduceIte, reduceCtorEq, Int.reduceEq, Int.reduceAdd, Int.reduceSub, Int.reduceMul, codeD_eq, codeC_eq, hwr])) | (((with_reducible refine vc_b ?_ ?_) <;> intro _) <;> try (simp -implicitDefEqProofs only [go_sem, Nat.reduceAdd, Nat.reduceSub, Nat.reduceMul, Nat.reduceEqDiff, Nat.reduceBEq, Nat.reduceLeDiff, Nat.reduceLT, Int.reduceToNat, Int.reduceLE, Int.reduceLT, Int.reduceNeg, reduceIte, reduceCtorEq, Int.reduceEq, Int.reduceAdd, Int.reduceSub, Int.reduceMul, codeD_eq, codeC_eq, hwr])) | simp (disch := omega) only [wrapI, wrapU, shl1, shl1', shl1'', shrN, shrN', and_one] | ((with_reducible refine isEx8 ?_); refine ⟨(_, _, _, _, _, _, _, _), rfl, ?_, ?_⟩) | ((with_reducible refine isEx7 ?_); refine ⟨(_, _, _, _, _, _, _), rfl, ?_, ?_⟩) | ((with_reducible refine isEx6 ?_); refine ⟨(_, _, _, _, _, _), rfl, ?_, ?_⟩) | ((with_reducible refine isEx5 ?_); refine ⟨(_, _, _, _, _), rfl, ?_, ?_⟩) | ((with_reducible refine isEx4 ?_); refine ⟨(_, _, _, _), rfl, ?_, ?_⟩) | ((with_reducible refine isEx3 ?_); refine ⟨(_, _, _), rfl, ?_, ?_⟩) | ((with_reducible refine isEx2 ?_); refine ⟨(_, _), rfl, ?_, ?_⟩) | ((with_reducible refine isEx ?_); refine ⟨_, rfl, ?_, ?_⟩)
      all_goals first | omega | (simp_all; done) | skip
      all_goals (exfalso; exact hg ⟨by assumption, by omega, by omega, by omega, by omega, by omega⟩)
end Go.Pw
