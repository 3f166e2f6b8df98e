/- A part of the proof. -/
import Derived.Test.YtlmkpaimjpdhiaaDoorCorrectN
import Derived.Test.YtlmkpaimjpdhiaaDoorPgCorrectO
set_option linter.all false
section
open Go Go.Pw Go.Proofs
namespace Go.Pw
set_option linter.unusedSimpArgs false
set_option linter.unusedVariables false
set_option maxRecDepth 100000
set_option maxHeartbeats 3200000
theorem iv_nil_iff (w : List F) : (iv w).isEmpty = w.isEmpty := by cases w <;> rfl
theorem pos_emp {w : List F} (h : 0 < w.length) : w.isEmpty = false := by cases w <;> simp_all
theorem iv_pos_emp {w : List F} (h : 0 < w.length) : (iv w).isEmpty = false := by rw [iv_nil_iff]; exact pos_emp h
theorem sameI_at {a b : List Int} {i : Nat} (h : ∀ j : Nat, j < i → a[j]?.getD 0 = b[j]?.getD 0) (he : a[i]?.getD 0 = b[i]?.getD 0) : ∀ j : Nat, j < i + 1 → a[j]?.getD 0 = b[j]?.getD 0 := fun j hj => by
  rcases Nat.lt_succ_iff_lt_or_eq.1 hj with h1 | rfl
  · exact h j h1
  · exact he
theorem ext_getD {a b : List Int} (hl : a.length = b.length) (h : ∀ j : Nat, j < a.length → a[j]?.getD 0 = b[j]?.getD 0) : a = b := by
  apply List.ext_getElem hl
  intro i h1 h2
  have := h i h1
  rwa [List.getElem?_eq_getElem h1, List.getElem?_eq_getElem h2, Option.getD_some, Option.getD_some] at this
theorem one_off {L : Nat} {r w : List F} (hr : r.length = L) (hw : w.length = L) (hL : 0 < L) (hw0 : w.set 0 (w[0]?.getD 0) = w) (h : (dif L r w []).length ≤ 1) : ∃ j, j < L ∧ ∃ v, r = w.set j v := by
  have hs := dif_set L r w []
  have ho := fun j => @dif_out L r w [] hr hw j
  cases hd : dif L r w [] with
  | nil =>
    refine ⟨0, hL, w[0]?.getD 0, ?_⟩
    rw [hw0]
    exact ext0 (by omega) fun j hj => ho j (by rw [hd]; simp)
  | cons j l =>
    rw [hd] at h hs
    have hl : l = [] := by cases l with
      | nil => rfl
      | cons => simp at h
    subst hl
    refine ⟨j, hs.lt j (by simp), r[j]?.getD 0, ext0 (by simp; omega) fun k hk => ?_⟩
    show r[k]?.getD 0 = (w.set j (r[j]?.getD 0))[k]?.getD 0
    by_cases hkj : k = j
    · subst hkj
      rw [List.getElem?_set_self (by omega)]; rfl
    · rw [List.getElem?_set_ne (fun e => hkj e.symm)]
      exact ho k (by rw [hd]; simpa using hkj)
theorem ex_cod : Cod 5 2 [1, 2, 3, 4, 4] := by
  have := encS_cod 2 [1, 2, 3]
  rwa [show encS 2 [1, 2, 3] = [1, 2, 3, 4, 4] by decide +kernel] at this
theorem ex_key : ∀ j : Fin 5, ∀ v : F, ¬ (dot (([0, 0, 3, 4, 4] : List F).set j.val v) (cof 5 0) = 0 ∧ dot (([0, 0, 3, 4, 4] : List F).set j.val v) (cof 5 1) = 0) := by decide +kernel
theorem mks_nil (L : Nat) : Mks L [] := ⟨.nil, by simp⟩
theorem ex_far : decS 5 2 [0, 0, 3, 4, 4] [] = none := by
  cases h : decS 5 2 [0, 0, 3, 4, 4] [] with
  | none => rfl
  | some r =>
    exfalso
    obtain ⟨h1, h2, h3⟩ := dec_some (L := 5) rfl (mks_nil 5) h
    obtain ⟨j, hj, v, hv⟩ := one_off (w := [0, 0, 3, 4, 4]) h2 rfl (by omega) rfl (by have : ([] : List Nat).length = 0 := rfl; omega)
    have a0 := h1 0 (by omega)
    have a1 := h1 1 (by omega)
    rw [show at0 (synd 5 2 r) 0 = dot r (cof 5 0) from synd_get _ _ _ _ (by omega), hv] at a0
    rw [show at0 (synd 5 2 r) 1 = dot r (cof 5 1) from synd_get _ _ _ _ (by omega), hv] at a1
    exact ex_key ⟨j, hj⟩ v ⟨a0, a1⟩
theorem ex_dec : decS 5 2 [1, 2, 7, 4, 4] [] = some [1, 2, 3, 4, 4] :=
  dec_of (by omega) rfl rfl (mks_nil 5) ex_cod (by decide +kernel)
theorem ex_e1 : encL 5 2 [1, 2, 3] = [1, 2, 3, 4, 4] := by decide +kernel
theorem ex_e2 : encE 5 2 [1, 2, 3] = 0 := by decide +kernel
theorem ex_b1 : dcL 5 2 [1, 2, 7, 4, 4] [] = [1, 2, 3, 4, 4] := by
  unfold dcL
  rw [if_pos (by decide), if_pos (by decide), if_pos (by decide)]
  show iv (oL (decS 5 2 [1, 2, 7, 4, 4] [])) = _
  rw [ex_dec]; rfl
theorem ex_b2 : dcE 5 2 [1, 2, 7, 4, 4] [] = 0 := by
  unfold dcE
  rw [if_pos (by decide), if_pos (by decide), if_pos (by decide)]
  show oE (decS 5 2 [1, 2, 7, 4, 4] []) = _
  rw [ex_dec]; rfl
theorem ex_g1 : dcL 5 2 [0, 0, 3, 4, 4] [] = [] := by
  unfold dcL
  rw [if_pos (by decide), if_pos (by decide), if_pos (by decide)]
  show iv (oL (decS 5 2 [0, 0, 3, 4, 4] [])) = _
  rw [ex_far]; rfl
theorem ex_g2 : dcE 5 2 [0, 0, 3, 4, 4] [] = 52 := by
  unfold dcE
  rw [if_pos (by decide), if_pos (by decide), if_pos (by decide)]
  show oE (decS 5 2 [0, 0, 3, 4, 4] []) = _
  rw [ex_far]; rfl
theorem ex_ch : chN 5 2 = 19 ∧ chO 5 2 = 64 := by decide +kernel
attribute [local congr] cg_pw cg_seqI cg_seqE cg_stepI cg_ev cg_evBin cg_condB cg_condV cg_thenQ cg_blockQ cg_onSome cg_onCells cg_onRow cg_onRow2 cg_onMtx cg_frmV cg_fraV cg_frcV cg_frcO cg_frcX cg_fraO cg_owmV cg_frhV cg_frhO cg_onMap cg_onOpt cg_ghosts cg_ghost cg_evCall cg_part cg_rng cg_guardV cg_frzV cg_frpV cg_ownV cg_owcV cg_occV cg_occX cg_resK cg_res1 cg_yldP cg_rndE cg_onlyN cg_onHist
attribute [local irreducible] IntKind.wrap bitsOp Option.getD and or

theorem correct_Encode_ret (L P : Int) (n1 : Bool) (xs : List Int) : Ret E0 F_correct_Encode [.agg [.int .i64 L, .int .i64 P], .list n1 (ints xs)] (.tup [.list (encL L P xs).isEmpty (ints (encL L P xs)), .int .i64 (encE L P xs)]) := by
  have c1 := correct_Check_ret L P
  refine ret_of_pw dec_correct_Encode mixed (by simp) fun hwf => ?_
  simp only [wf_int, wf_bool, wf_ints, wf_list, wf_agg, wf_ptr, wf_fn, wf_tup, wf_all_cons, wf_all_nil, wf_all_map, inK_i64, maxLen_eq, List.length_map, ints_len, true_and, and_true] at hwf
  rw [enter_eq]; unfold pc_correct_Encode encL encE
  cases hc : codOK L P with
  | false =>
    rw [hc] at c1
    simp only [Bool.false_eq_true, if_false] at c1
    (try (simp -implicitDefEqProofs only [go_sem, hc])); repeat' first | with_reducible exact True.intro | with_reducible refine And.intro ?_ ?_ | with_reducible intro _ | (((with_reducible refine isCall ?_); first | refine call_b (c1) rfl ?_ ?_ | refine call_d (c1) rfl ?_ | refine call_sb (c1) rfl ?_ ?_ | refine call_s (c1) rfl rfl ?_) <;> try (simp -implicitDefEqProofs only [go_sem, hc])) | (((with_reducible refine vc_b ?_ ?_) <;> intro _) <;> try (simp -implicitDefEqProofs only [go_sem, hc])) | simp (disch := omega) only [wrapI, wrapU, shl1, shl1', shl1'', shrN, shrN', and_one] 
    all_goals first | rfl | (simp; done) | skip
  | true =>
    have hb := codOK_of hc
    have hw : IntKind.i64.wrap (L - P) = L - P := wrapI _ (by omega)
    have c2 := correct_are_ret n1 xs (L - P)
    rw [hc] at c1
    simp only [if_true] at c1 ⊢
    cases hs : symsB xs (L - P) with
    | false =>
      rw [hs] at c2
      (try (simp -implicitDefEqProofs only [go_sem, hw])); repeat' first | with_reducible exact True.intro | with_reducible refine And.intro ?_ ?_ | with_reducible intro _ | (((with_reducible refine isCall ?_); first | refine call_b (c1) rfl ?_ ?_ | refine call_d (c1) rfl ?_ | refine call_sb (c1) rfl ?_ ?_ | refine call_s (c1) rfl rfl ?_ | refine call_b (c2) rfl ?_ ?_ | refine call_d (c2) rfl ?_ | refine call_sb (c2) rfl ?_ ?_ | refine call_s (c2) rfl rfl ?_) <;> try (simp -implicitDefEqProofs only [go_sem, hw])) | (((with_reducible refine vc_b ?_ ?_) <;> intro _) <;> try (simp -implicitDefEqProofs only [go_sem, hw])) | simp (disch := omega) only [wrapI, wrapU, shl1, shl1', shl1'', shrN, shrN', and_one] 
      all_goals first | rfl | (simp; done) | skip
    | true =>
      rw [hs] at c2
      obtain ⟨hl, hf⟩ := symsB_of hs
      obtain ⟨w, hW⟩ : ∃ w, fs xs = w := ⟨_, rfl⟩
      rw [hW] at hf ⊢
      subst hf
      rw [iv_len] at hl
      obtain ⟨l, p, rfl, rfl, b1, b2, b3, b4, b5⟩ := codOK_nat hc
      have hwl : w.length + p = l := by omega
      have c3 := symbols_ret n1 w (by omega)
      rw [pos_emp (show 0 < w.length by omega)] at c3
      have c4 := correct_encode_ret l p false w b2 b3 hwl (by omega) rfl
      rw [codD_eq] at c4
      have c5 := numbers_ret false (encS p w) (by rw [encS_len]; omega)
      rw [pos_emp (show 0 < (encS p w).length by rw [encS_len]; omega)] at c5
      have he := iv_pos_emp (show 0 < (encS p w).length by rw [encS_len]; omega)
      rw [Int.toNat_natCast]
      simp only [if_true]
      rw [he]
      (try (simp -implicitDefEqProofs only [go_sem, hw])); repeat' first | with_reducible exact True.intro | with_reducible refine And.intro ?_ ?_ | with_reducible intro _ | (((with_reducible refine isCall ?_); first | refine call_b (c1) rfl ?_ ?_ | refine call_d (c1) rfl ?_ | refine call_sb (c1) rfl ?_ ?_ | refine call_s (c1) rfl rfl ?_ | refine call_b (c2) rfl ?_ ?_ | refine call_d (c2) rfl ?_ | refine call_sb (c2) rfl ?_ ?_ | refine call_s (c2) rfl rfl ?_ | refine call_b (c3) rfl ?_ ?_ | refine call_d (c3) rfl ?_ | refine call_sb (c3) rfl ?_ ?_ | refine call_s (c3) rfl rfl ?_ | refine call_b (c4) rfl ?_ ?_ | refine call_d (c4) rfl ?_ | refine call_sb (c4) rfl ?_ ?_ | refine call_s (c4) rfl rfl ?_ | refine call_b (c5) rfl ?_ ?_ | refine call_d (c5) rfl ?_ | refine call_sb (c5) rfl ?_ ?_ | refine call_s (c5) rfl rfl ?_) <;> try (simp -implicitDefEqProofs only [go_sem, hw])) | (((with_reducible refine vc_b ?_ ?_) <;> intro _) <;> try (simp -implicitDefEqProofs only [go_sem, hw])) | simp (disch := omega) only [wrapI, wrapU, shl1, shl1', shl1'', shrN, shrN', and_one] 
      all_goals first | rfl | (simp; done) | skip

theorem correct_Decode_ret (L P : Int) (n1 n2 : Bool) (ws ms : List Int) : Ret E0 F_correct_Decode [.agg [.int .i64 L, .int .i64 P], .list n1 (ints ws), .list n2 (ints ms)] (.tup [.list (dcL L P ws ms).isEmpty (ints (dcL L P ws ms)), .int .i64 (dcE L P ws ms)]) := by
  have c1 := correct_Check_ret L P
  refine ret_of_pw dec_correct_Decode mixed (by simp) fun hwf => ?_
  rw [enter_eq]; unfold pc_correct_Decode dcL dcE dcO
  cases hc : codOK L P with
  | false =>
    rw [hc] at c1
    simp only [Bool.false_eq_true, if_false] at c1
    (try (simp -implicitDefEqProofs only [go_sem, hc])); repeat' first | with_reducible exact True.intro | with_reducible refine And.intro ?_ ?_ | with_reducible intro _ | (((with_reducible refine isCall ?_); first | refine call_b (c1) rfl ?_ ?_ | refine call_d (c1) rfl ?_ | refine call_sb (c1) rfl ?_ ?_ | refine call_s (c1) rfl rfl ?_) <;> try (simp -implicitDefEqProofs only [go_sem, hc])) | (((with_reducible refine vc_b ?_ ?_) <;> intro _) <;> try (simp -implicitDefEqProofs only [go_sem, hc])) | simp (disch := omega) only [wrapI, wrapU, shl1, shl1', shl1'', shrN, shrN', and_one] 
    all_goals first | rfl | (simp; done) | skip
  | true =>
    have c2 := correct_are_ret n1 ws L
    rw [hc] at c1
    simp only [if_true] at c1 ⊢
    cases hs : symsB ws L with
    | false =>
      rw [hs] at c2
      (try (simp -implicitDefEqProofs only [go_sem])); repeat' first | with_reducible exact True.intro | with_reducible refine And.intro ?_ ?_ | with_reducible intro _ | (((with_reducible refine isCall ?_); first | refine call_b (c1) rfl ?_ ?_ | refine call_d (c1) rfl ?_ | refine call_sb (c1) rfl ?_ ?_ | refine call_s (c1) rfl rfl ?_ | refine call_b (c2) rfl ?_ ?_ | refine call_d (c2) rfl ?_ | refine call_sb (c2) rfl ?_ ?_ | refine call_s (c2) rfl rfl ?_) <;> try (simp -implicitDefEqProofs only [go_sem])) | (((with_reducible refine vc_b ?_ ?_) <;> intro _) <;> try (simp -implicitDefEqProofs only [go_sem])) | simp (disch := omega) only [wrapI, wrapU, shl1, shl1', shl1'', shrN, shrN', and_one] 
      all_goals first | rfl | (simp; done) | skip
    | true =>
      rw [hs] at c2
      have c6 := correct_places_ret n2 ms L
      simp only [if_true]
      cases hm : marksB ms L with
      | false =>
        rw [hm] at c6
        (try (simp -implicitDefEqProofs only [go_sem])); repeat' first | with_reducible exact True.intro | with_reducible refine And.intro ?_ ?_ | with_reducible intro _ | (((with_reducible refine isCall ?_); first | refine call_b (c1) rfl ?_ ?_ | refine call_d (c1) rfl ?_ | refine call_sb (c1) rfl ?_ ?_ | refine call_s (c1) rfl rfl ?_ | refine call_b (c2) rfl ?_ ?_ | refine call_d (c2) rfl ?_ | refine call_sb (c2) rfl ?_ ?_ | refine call_s (c2) rfl rfl ?_ | refine call_b (c6) rfl ?_ ?_ | refine call_d (c6) rfl ?_ | refine call_sb (c6) rfl ?_ ?_ | refine call_s (c6) rfl rfl ?_) <;> try (simp -implicitDefEqProofs only [go_sem])) | (((with_reducible refine vc_b ?_ ?_) <;> intro _) <;> try (simp -implicitDefEqProofs only [go_sem])) | simp (disch := omega) only [wrapI, wrapU, shl1, shl1', shl1'', shrN, shrN', and_one] 
        all_goals first | rfl | (simp; done) | skip
      | true =>
        rw [hm] at c6
        simp only [if_true]
        obtain ⟨hl, hf⟩ := symsB_of hs
        obtain ⟨w, hW⟩ : ∃ w, fs ws = w := ⟨_, rfl⟩
        rw [hW] at hf ⊢
        subst hf
        rw [iv_len] at hl
        obtain ⟨l, p, rfl, rfl, b1, b2, b3, b4, b5⟩ := codOK_nat hc
        have hmk := mks_of hm
        have hmf := ni_nt hm
        obtain ⟨mk, hMK⟩ : ∃ mk, nt ms = mk := ⟨_, rfl⟩
        rw [hMK] at hmk hmf ⊢
        subst hmf
        have hwl : w.length = l := by omega
        have hml := mks_le hmk
        have c3 := symbols_ret n1 w (by omega)
        rw [pos_emp (show 0 < w.length by omega)] at c3
        have c4 := correct_decode_ret l p false n2 w mk b2 (by omega) b3 (by omega) hwl hmk (by omega) rfl
        rw [codD_eq] at c4
        simp only [Int.toNat_natCast]
        obtain ⟨O, hr⟩ : ∃ O, decS l p w mk = O := ⟨_, rfl⟩
        rw [hr] at c4 ⊢
        cases O with
        | none =>
          rw [decR_none] at c4
          rw [oE_none, oL_none]
          (try (simp -implicitDefEqProofs only [go_sem])); repeat' first | with_reducible exact True.intro | with_reducible refine And.intro ?_ ?_ | with_reducible intro _ | (((with_reducible refine isCall ?_); first | refine call_b (c1) rfl ?_ ?_ | refine call_d (c1) rfl ?_ | refine call_sb (c1) rfl ?_ ?_ | refine call_s (c1) rfl rfl ?_ | refine call_b (c2) rfl ?_ ?_ | refine call_d (c2) rfl ?_ | refine call_sb (c2) rfl ?_ ?_ | refine call_s (c2) rfl rfl ?_ | refine call_b (c3) rfl ?_ ?_ | refine call_d (c3) rfl ?_ | refine call_sb (c3) rfl ?_ ?_ | refine call_s (c3) rfl rfl ?_ | refine call_b (c4) rfl ?_ ?_ | refine call_d (c4) rfl ?_ | refine call_sb (c4) rfl ?_ ?_ | refine call_s (c4) rfl rfl ?_ | refine call_b (c6) rfl ?_ ?_ | refine call_d (c6) rfl ?_ | refine call_sb (c6) rfl ?_ ?_ | refine call_s (c6) rfl rfl ?_) <;> try (simp -implicitDefEqProofs only [go_sem])) | (((with_reducible refine vc_b ?_ ?_) <;> intro _) <;> try (simp -implicitDefEqProofs only [go_sem])) | simp (disch := omega) only [wrapI, wrapU, shl1, shl1', shl1'', shrN, shrN', and_one] 
          all_goals first | rfl | (simp; done) | skip
        | some r =>
          rw [decR_some] at c4
          rw [oE_some, oL_some]
          have hrl := (dec_some hwl hmk hr).2.1
          have c5 := numbers_ret false r (by omega)
          rw [pos_emp (show 0 < r.length by omega)] at c5
          rw [iv_pos_emp (show 0 < r.length by omega)]
          (try (simp -implicitDefEqProofs only [go_sem])); repeat' first | with_reducible exact True.intro | with_reducible refine And.intro ?_ ?_ | with_reducible intro _ | (((with_reducible refine isCall ?_); first | refine call_b (c1) rfl ?_ ?_ | refine call_d (c1) rfl ?_ | refine call_sb (c1) rfl ?_ ?_ | refine call_s (c1) rfl rfl ?_ | refine call_b (c2) rfl ?_ ?_ | refine call_d (c2) rfl ?_ | refine call_sb (c2) rfl ?_ ?_ | refine call_s (c2) rfl rfl ?_ | refine call_b (c3) rfl ?_ ?_ | refine call_d (c3) rfl ?_ | refine call_sb (c3) rfl ?_ ?_ | refine call_s (c3) rfl rfl ?_ | refine call_b (c4) rfl ?_ ?_ | refine call_d (c4) rfl ?_ | refine call_sb (c4) rfl ?_ ?_ | refine call_s (c4) rfl rfl ?_ | refine call_b (c5) rfl ?_ ?_ | refine call_d (c5) rfl ?_ | refine call_sb (c5) rfl ?_ ?_ | refine call_s (c5) rfl rfl ?_ | refine call_b (c6) rfl ?_ ?_ | refine call_d (c6) rfl ?_ | refine call_sb (c6) rfl ?_ ?_ | refine call_s (c6) rfl rfl ?_) <;> try (simp -implicitDefEqProofs only [go_sem])) | (((with_reducible refine vc_b ?_ ?_) <;> intro _) <;> try (simp -implicitDefEqProofs only [go_sem])) | simp (disch := omega) only [wrapI, wrapU, shl1, shl1', shl1'', shrN, shrN', and_one] 
          all_goals first | rfl | (simp; done) | skip
theorem law05_Example_ret : Ret E0 F_law05_Example [] (.agg [.int .i64 5, .int .i64 2]) := by
  refine ret_of_pw dec_law05_Example mixed (by simp) fun hwf => ?_
  rw [enter_eq]; unfold pc_law05_Example
  (try (simp -implicitDefEqProofs only [go_sem])); repeat' first | with_reducible exact True.intro | with_reducible refine And.intro ?_ ?_ | with_reducible intro _ | (((with_reducible refine vc_b ?_ ?_) <;> intro _) <;> try (simp -implicitDefEqProofs only [go_sem])) | simp (disch := omega) only [wrapI, wrapU, shl1, shl1', shl1'', shrN, shrN', and_one] 
  all_goals first | rfl | skip
theorem law05_sameInts_ret (n1 n2 : Bool) (a b : List Int) : Ret E0 F_law05_sameInts [.list n1 (ints a), .list n2 (ints b)] (.bool (decide (a = b))) := by
  refine ret_of_pw dec_law05_sameInts mixed (by simp) fun hwf => ?_
  simp only [wf_int, wf_bool, wf_ints, wf_list, wf_agg, wf_ptr, wf_fn, wf_tup, wf_all_cons, wf_all_nil, wf_all_map, inK_i64, maxLen_eq, List.length_map, ints_len, true_and, and_true] at hwf
  rw [enter_eq]; unfold pc_law05_sameInts
  by_cases hl : a.length = b.length
  · have hl2 : (a.length : Int) = b.length := by omega
    (try (simp -implicitDefEqProofs only [go_sem, eq_true hl2])); repeat' first | with_reducible exact True.intro | with_reducible refine And.intro ?_ ?_ | with_reducible intro _ | (((with_reducible refine vc_b ?_ ?_) <;> intro _) <;> try (simp -implicitDefEqProofs only [go_sem, eq_true hl2])) | simp (disch := omega) only [wrapI, wrapU, shl1, shl1', shl1'', shrN, shrN', and_one] | ((with_reducible refine isEx ?_); refine ⟨_, rfl, ?_, ?_⟩)
    all_goals first | omega | (simp; done) | (simp; omega) | skip
    refine pw_loopS (α := Int) (l0 := ?l1) (m0 := ?m1) (fun x => [(5, .d (.int .i64 x))]) (fun x => []) (fun x => (0 ≤ x ∧ x ≤ a.length) ∧ ∀ j : Nat, j < x.toNat → a[j]?.getD 0 = b[j]?.getD 0) (fun x => (a.length - x).toNat) ?a1_0 ?h01 ?he1 ?he21 ?hI1 ?step1
    case h01 => (simp -implicitDefEqProofs only [go_sem]; rfl)
    case he1 => rfl
    case he21 => rfl
    case' step1 => (rintro i hI; try dsimp only at hI)
    case' hI1 => try dsimp only
    · exact ⟨⟨by omega, by omega⟩, fun j hj => by omega⟩
    · obtain ⟨⟨q1, q2⟩, q3⟩ := hI
      by_cases hi : i < a.length
      · have hib : i < b.length := by omega
        have w1 : IntKind.i64.wrap (i + 1) = i + 1 := wrapI _ (by omega)
        by_cases he : a[i.toNat]?.getD 0 = b[i.toNat]?.getD 0
        · have hn := sameI_at q3 he
          rw [show i.toNat + 1 = (i + 1).toNat by omega] at hn
          (try (simp -implicitDefEqProofs only [go_sem, hi, hib, q1, w1, eq_true he])); repeat' first | with_reducible exact True.intro | with_reducible refine And.intro ?_ ?_ | with_reducible intro _ | (((with_reducible refine vc_b ?_ ?_) <;> intro _) <;> try (simp -implicitDefEqProofs only [go_sem, hi, hib, q1, w1, eq_true he])) | simp (disch := omega) only [wrapI, wrapU, shl1, shl1', shl1'', shrN, shrN', and_one] | ((with_reducible refine isEx ?_); refine ⟨_, rfl, ?_, ?_⟩)
          all_goals first | omega | (apply hn; assumption) | skip
        · have hne : ¬ a = b := fun h => he (by rw [h])
          rw [decide_eq_false hne]
          (try (simp -implicitDefEqProofs only [go_sem, hi, hib, q1, w1, he])); repeat' first | with_reducible exact True.intro | with_reducible refine And.intro ?_ ?_ | with_reducible intro _ | (((with_reducible refine vc_b ?_ ?_) <;> intro _) <;> try (simp -implicitDefEqProofs only [go_sem, hi, hib, q1, w1, he])) | simp (disch := omega) only [wrapI, wrapU, shl1, shl1', shl1'', shrN, shrN', and_one] | ((with_reducible refine isEx ?_); refine ⟨_, rfl, ?_, ?_⟩)
          all_goals first | omega | (simp; done) | (simp; omega) | skip
      · have he : a = b := ext_getD hl fun j hj => q3 j (by omega)
        rw [decide_eq_true he]
        (try (simp -implicitDefEqProofs only [go_sem, hi])); repeat' first | with_reducible exact True.intro | with_reducible refine And.intro ?_ ?_ | with_reducible intro _ | (((with_reducible refine vc_b ?_ ?_) <;> intro _) <;> try (simp -implicitDefEqProofs only [go_sem, hi])) | simp (disch := omega) only [wrapI, wrapU, shl1, shl1', shl1'', shrN, shrN', and_one] | ((with_reducible refine isEx ?_); refine ⟨_, rfl, ?_, ?_⟩)
  · have hl2 : ¬ (a.length : Int) = b.length := by omega
    have hne : ¬ a = b := fun h => hl (by rw [h])
    rw [decide_eq_false hne]
    (try (simp -implicitDefEqProofs only [go_sem, hl2])); repeat' first | with_reducible exact True.intro | with_reducible refine And.intro ?_ ?_ | with_reducible intro _ | (((with_reducible refine vc_b ?_ ?_) <;> intro _) <;> try (simp -implicitDefEqProofs only [go_sem, hl2])) | simp (disch := omega) only [wrapI, wrapU, shl1, shl1', shl1'', shrN, shrN', and_one] | ((with_reducible refine isEx ?_); refine ⟨_, rfl, ?_, ?_⟩)
    all_goals first | omega | (simp; done) | (simp; omega) | skip
theorem law05_works_ret : Ret E0 F_law05_works [] (.bool true) := by
  have c1 := law05_Example_ret
  have c2 := correct_Encode_ret 5 2 false [1, 2, 3]
  rw [ex_e1, ex_e2] at c2
  have c3 := correct_Decode_ret 5 2 false true [1, 2, 7, 4, 4] []
  rw [ex_b1, ex_b2] at c3
  have c4 := correct_Decode_ret 5 2 false true [0, 0, 3, 4, 4] []
  rw [ex_g1, ex_g2] at c4
  have c5 := correct_Chance_ret 5 2
  rw [ex_ch.1, ex_ch.2, show codOK 5 2 = true by decide, if_pos rfl] at c5
  have c6 := law05_sameInts_ret false false [1, 2, 3, 4, 4] [1, 2, 3, 4, 4]
  rw [decide_eq_true rfl] at c6
  refine ret_of_pw dec_law05_works mixed (by simp) fun hwf => ?_
  rw [enter_eq]; unfold pc_law05_works
  (try (simp -implicitDefEqProofs only [go_sem])); repeat' first | with_reducible exact True.intro | with_reducible refine And.intro ?_ ?_ | with_reducible intro _ | (((with_reducible refine isCall ?_); first | refine call_b (c1) rfl ?_ ?_ | refine call_d (c1) rfl ?_ | refine call_sb (c1) rfl ?_ ?_ | refine call_s (c1) rfl rfl ?_ | refine call_b (c2) rfl ?_ ?_ | refine call_d (c2) rfl ?_ | refine call_sb (c2) rfl ?_ ?_ | refine call_s (c2) rfl rfl ?_ | refine call_b (c3) rfl ?_ ?_ | refine call_d (c3) rfl ?_ | refine call_sb (c3) rfl ?_ ?_ | refine call_s (c3) rfl rfl ?_ | refine call_b (c4) rfl ?_ ?_ | refine call_d (c4) rfl ?_ | refine call_sb (c4) rfl ?_ ?_ | refine call_s (c4) rfl rfl ?_ | refine call_b (c5) rfl ?_ ?_ | refine call_d (c5) rfl ?_ | refine call_sb (c5) rfl ?_ ?_ | refine call_s (c5) rfl rfl ?_ | refine call_b (c6) rfl ?_ ?_ | refine call_d (c6) rfl ?_ | refine call_sb (c6) rfl ?_ ?_ | refine call_s (c6) rfl rfl ?_) <;> try (simp -implicitDefEqProofs only [go_sem])) | (((with_reducible refine vc_b ?_ ?_) <;> intro _) <;> try (simp -implicitDefEqProofs only [go_sem])) | simp (disch := omega) only [wrapI, wrapU, shl1, shl1', shl1'', shrN, shrN', and_one] 
  all_goals first | rfl | (simp; done) | (simp_all; done) | skip
end Go.Pw
end
section
open Go Go.Pw Go.Proofs
namespace Go.Pw
set_option linter.unusedSimpArgs false
set_option linter.unusedVariables false
set_option maxRecDepth 100000
set_option maxHeartbeats 3200000
def wevOK (L P Q : Int) : Bool := codOK L P && decide (1 ≤ Q ∧ Q ≤ 8)
theorem wevOK_of {L P Q : Int} (h : wevOK L P Q = true) : codOK L P = true ∧ 1 ≤ Q ∧ Q ≤ 8 := by simpa [wevOK] using h
def opE (L P Q : Int) (xs : List Int) (m : Int) : Int := if wevOK L P Q = true then if symsB xs (Q * m) = true then 0 else 51 else 50
def opA (L P Q : Int) (e : Int) : D := if e = 0 then .agg [.int .i64 L, .int .i64 P, .int .i64 Q] else .agg [.int .i64 0, .int .i64 0, .int .i64 0]
theorem opA_0 (L P Q : Int) : opA L P Q 0 = .agg [.int .i64 L, .int .i64 P, .int .i64 Q] := rfl
theorem opA_51 (L P Q : Int) : opA L P Q 51 = .agg [.int .i64 0, .int .i64 0, .int .i64 0] := rfl
theorem opA_50 (L P Q : Int) : opA L P Q 50 = .agg [.int .i64 0, .int .i64 0, .int .i64 0] := rfl
theorem body_all : hasBody E0.P F_correct_code_all = true := by kernel_rfl
theorem body_data : hasBody E0.P F_correct_code_data = true := by kernel_rfl
theorem body_Burst_1 : hasBody E0.P F_correct_Burst_1 = true := by kernel_rfl
theorem symsB_nil : symsB [] 0 = true := rfl
theorem wev1 {L P : Int} (h : codOK L P = true) : wevOK L P 1 = true := by simp [wevOK, h]
theorem fooE_ok {L P n : Int} (h : codOK L P = true) (hn : 0 ≤ n ∧ n ≤ L) : fooE L P n = 0 := by unfold fooE; rw [if_pos h, if_pos hn]
theorem fooB_ok {L P n : Int} (h : codOK L P = true) (hn : 0 ≤ n ∧ n ≤ L) : fooB L P n = decide (P < n + P / 2) := by unfold fooB; rw [h, decide_eq_true hn]; rfl
attribute [local congr] cg_pw cg_seqI cg_seqE cg_stepI cg_ev cg_evBin cg_condB cg_condV cg_thenQ cg_blockQ cg_onSome cg_onCells cg_onRow cg_onRow2 cg_onMtx cg_frmV cg_fraV cg_frcV cg_frcO cg_frcX cg_fraO cg_owmV cg_frhV cg_frhO cg_onMap cg_onOpt cg_ghosts cg_ghost cg_evCall cg_part cg_rng cg_guardV cg_frzV cg_frpV cg_ownV cg_owcV cg_occV cg_occX cg_resK cg_res1 cg_yldP cg_rndE cg_onlyN cg_onHist
attribute [local irreducible] IntKind.wrap bitsOp Option.getD and or

theorem correct_all_ret (L P : Int) : Ret E0 F_correct_code_all [.agg [.int .i64 L, .int .i64 P]] (.int .i64 L) := by
  refine ret_of_pw dec_correct_code_all mixed (by simp) fun hwf => ?_
  rw [enter_eq]; unfold pc_correct_code_all
  (try (simp -implicitDefEqProofs only [go_sem])); repeat' first | with_reducible exact True.intro | with_reducible refine And.intro ?_ ?_ | with_reducible intro _ | (((with_reducible refine vc_b ?_ ?_) <;> intro _) <;> try (simp -implicitDefEqProofs only [go_sem])) | simp (disch := omega) only [wrapI, wrapU, shl1, shl1', shl1'', shrN, shrN', and_one] 
theorem correct_data_ret (L P : Int) (h : -1000 ≤ L ∧ L ≤ 1000 ∧ -1000 ≤ P ∧ P ≤ 1000) : Ret E0 F_correct_code_data [.agg [.int .i64 L, .int .i64 P]] (.int .i64 (L - P)) := by
  refine ret_of_pw dec_correct_code_data mixed (by simp) fun hwf => ?_
  rw [enter_eq]; unfold pc_correct_code_data
  have hw : IntKind.i64.wrap (L - P) = L - P := wrapI _ (by omega)
  (try (simp -implicitDefEqProofs only [go_sem, hw])); repeat' first | with_reducible exact True.intro | with_reducible refine And.intro ?_ ?_ | with_reducible intro _ | (((with_reducible refine vc_b ?_ ?_) <;> intro _) <;> try (simp -implicitDefEqProofs only [go_sem, hw])) | simp (disch := omega) only [wrapI, wrapU, shl1, shl1', shl1'', shrN, shrN', and_one] 
theorem correct_Burst_1_ret (L P : Int) : Ret E0 F_correct_Burst_1 [.agg [.int .i64 L, .int .i64 P]] (.int .i64 0) := by
  refine ret_of_pw dec_correct_Burst_1 mixed (by simp) fun hwf => ?_
  rw [enter_eq]; unfold pc_correct_Burst_1
  (try (simp -implicitDefEqProofs only [go_sem])); repeat' first | with_reducible exact True.intro | with_reducible refine And.intro ?_ ?_ | with_reducible intro _ | (((with_reducible refine vc_b ?_ ?_) <;> intro _) <;> try (simp -implicitDefEqProofs only [go_sem])) | simp (disch := omega) only [wrapI, wrapU, shl1, shl1', shl1'', shrN, shrN', and_one] 
theorem correct_open_ret (L P Q : Int) (nl : Bool) (xs : List Int) (f : FuncId) (m : Int) (hb : hasBody E0.P f = true) (hm : 0 ≤ m ∧ m ≤ 1000) (h : codOK L P = true → Ret E0 f [.agg [.int .i64 L, .int .i64 P]] (.int .i64 m)) :
    Ret E0 F_correct_open [.agg [.int .i64 L, .int .i64 P, .int .i64 Q], .list nl (ints xs), .fn f []] (.tup [opA L P Q (opE L P Q xs m), .int .i64 (opE L P Q xs m)]) := by
  have c1 := correct_Check_ret L P
  refine ret_of_pw dec_correct_open mixed (by simp) fun hwf => ?_
  rw [enter_eq]; unfold pc_correct_open opE wevOK
  cases hc : codOK L P with
  | false =>
    rw [hc] at c1
    simp only [Bool.false_eq_true, if_false, Bool.false_and] at c1 ⊢
    rw [opA_50]
    (try (simp -implicitDefEqProofs only [go_sem])); repeat' first | with_reducible exact True.intro | with_reducible refine And.intro ?_ ?_ | with_reducible intro _ | (((with_reducible refine isCall ?_); first | refine call_b (c1) rfl ?_ ?_ | refine call_d (c1) rfl ?_ | refine call_sb (c1) rfl ?_ ?_ | refine call_s (c1) rfl rfl ?_) <;> try (simp -implicitDefEqProofs only [go_sem])) | (((with_reducible refine vc_b ?_ ?_) <;> intro _) <;> try (simp -implicitDefEqProofs only [go_sem])) | simp (disch := omega) only [wrapI, wrapU, shl1, shl1', shl1'', shrN, shrN', and_one] 
    all_goals first | rfl | (simp; done) | skip
  | true =>
    rw [hc] at c1
    simp only [if_true, Bool.true_and] at c1 ⊢
    by_cases hD : 1 ≤ Q ∧ Q ≤ 8
    · have h1 : ¬ Q < 1 := by omega
      have h2 : ¬ 8 < Q := by omega
      have hDm : 0 ≤ Q * m ∧ Q * m ≤ 8000 := by
        constructor
        · exact Int.mul_nonneg (by omega) (by omega)
        · exact Int.le_trans (Int.mul_le_mul_of_nonneg_left hm.2 (by omega)) (by omega)
      have hw : IntKind.i64.wrap (Q * m) = Q * m := wrapI _ (by omega)
      rw [decide_eq_true hD]
      simp only [if_true]
      have c2 := correct_are_ret nl xs (Q * m)
      have c3 := h hc
      cases hs : symsB xs (Q * m) with
      | false =>
        rw [hs] at c2
        simp only [Bool.false_eq_true, if_false]
        rw [opA_51]
        (try (simp -implicitDefEqProofs only [go_sem, h1, h2, hw, hb])); repeat' first | with_reducible exact True.intro | with_reducible refine And.intro ?_ ?_ | with_reducible intro _ | (((with_reducible refine isCall ?_); first | refine call_b (c1) rfl ?_ ?_ | refine call_d (c1) rfl ?_ | refine call_sb (c1) rfl ?_ ?_ | refine call_s (c1) rfl rfl ?_ | refine call_b (c2) rfl ?_ ?_ | refine call_d (c2) rfl ?_ | refine call_sb (c2) rfl ?_ ?_ | refine call_s (c2) rfl rfl ?_ | refine call_b (c3) rfl ?_ ?_ | refine call_d (c3) rfl ?_ | refine call_sb (c3) rfl ?_ ?_ | refine call_s (c3) rfl rfl ?_) <;> try (simp -implicitDefEqProofs only [go_sem, h1, h2, hw, hb])) | (((with_reducible refine vc_b ?_ ?_) <;> intro _) <;> try (simp -implicitDefEqProofs only [go_sem, h1, h2, hw, hb])) | simp (disch := omega) only [wrapI, wrapU, shl1, shl1', shl1'', shrN, shrN', and_one] 
        all_goals first | rfl | (simp; done) | skip
      | true =>
        rw [hs] at c2
        simp only [if_true]
        rw [opA_0]
        (try (simp -implicitDefEqProofs only [go_sem, h1, h2, hw, hb])); repeat' first | with_reducible exact True.intro | with_reducible refine And.intro ?_ ?_ | with_reducible intro _ | (((with_reducible refine isCall ?_); first | refine call_b (c1) rfl ?_ ?_ | refine call_d (c1) rfl ?_ | refine call_sb (c1) rfl ?_ ?_ | refine call_s (c1) rfl rfl ?_ | refine call_b (c2) rfl ?_ ?_ | refine call_d (c2) rfl ?_ | refine call_sb (c2) rfl ?_ ?_ | refine call_s (c2) rfl rfl ?_ | refine call_b (c3) rfl ?_ ?_ | refine call_d (c3) rfl ?_ | refine call_sb (c3) rfl ?_ ?_ | refine call_s (c3) rfl rfl ?_) <;> try (simp -implicitDefEqProofs only [go_sem, h1, h2, hw, hb])) | (((with_reducible refine vc_b ?_ ?_) <;> intro _) <;> try (simp -implicitDefEqProofs only [go_sem, h1, h2, hw, hb])) | simp (disch := omega) only [wrapI, wrapU, shl1, shl1', shl1'', shrN, shrN', and_one] 
        all_goals first | rfl | (simp; done) | skip
    · rw [decide_eq_false hD]
      simp only [Bool.false_eq_true, if_false]
      rw [opA_50]
      by_cases h1 : Q < 1
      · (try (simp -implicitDefEqProofs only [go_sem, h1])); repeat' first | with_reducible exact True.intro | with_reducible refine And.intro ?_ ?_ | with_reducible intro _ | (((with_reducible refine isCall ?_); first | refine call_b (c1) rfl ?_ ?_ | refine call_d (c1) rfl ?_ | refine call_sb (c1) rfl ?_ ?_ | refine call_s (c1) rfl rfl ?_) <;> try (simp -implicitDefEqProofs only [go_sem, h1])) | (((with_reducible refine vc_b ?_ ?_) <;> intro _) <;> try (simp -implicitDefEqProofs only [go_sem, h1])) | simp (disch := omega) only [wrapI, wrapU, shl1, shl1', shl1'', shrN, shrN', and_one] 
        all_goals first | rfl | (simp; done) | skip
      · have h2 : 8 < Q := by omega
        (try (simp -implicitDefEqProofs only [go_sem, h1, h2])); repeat' first | with_reducible exact True.intro | with_reducible refine And.intro ?_ ?_ | with_reducible intro _ | (((with_reducible refine isCall ?_); first | refine call_b (c1) rfl ?_ ?_ | refine call_d (c1) rfl ?_ | refine call_sb (c1) rfl ?_ ?_ | refine call_s (c1) rfl rfl ?_) <;> try (simp -implicitDefEqProofs only [go_sem, h1, h2])) | (((with_reducible refine vc_b ?_ ?_) <;> intro _) <;> try (simp -implicitDefEqProofs only [go_sem, h1, h2])) | simp (disch := omega) only [wrapI, wrapU, shl1, shl1', shl1'', shrN, shrN', and_one] 
        all_goals first | rfl | (simp; done) | skip
theorem correct_Burst_ret (L P Q : Int) : Ret E0 F_correct_Burst [.agg [.int .i64 L, .int .i64 P, .int .i64 Q]] (.tup [.int .i64 (if wevOK L P Q = true then Q * (P / 2) else 0), .int .i64 (if wevOK L P Q = true then Q * P else 0), .int .i64 (if wevOK L P Q = true then 0 else 50)]) := by
  have c1 := correct_open_ret L P Q true [] F_correct_Burst_1 0 body_Burst_1 (by omega) fun _ => correct_Burst_1_ret L P
  refine ret_of_pw dec_correct_Burst mixed (by simp) fun hwf => ?_
  rw [enter_eq]; unfold pc_correct_Burst
  unfold opE at c1
  cases hw : wevOK L P Q with
  | false =>
    rw [hw] at c1
    simp only [Bool.false_eq_true, if_false] at c1 ⊢
    rw [opA_50] at c1
    (try (simp -implicitDefEqProofs only [go_sem])); repeat' first | with_reducible exact True.intro | with_reducible refine And.intro ?_ ?_ | with_reducible intro _ | (((with_reducible refine isCall ?_); first | refine call_b (c1) rfl ?_ ?_ | refine call_d (c1) rfl ?_ | refine call_sb (c1) rfl ?_ ?_ | refine call_s (c1) rfl rfl ?_) <;> try (simp -implicitDefEqProofs only [go_sem])) | (((with_reducible refine vc_b ?_ ?_) <;> intro _) <;> try (simp -implicitDefEqProofs only [go_sem])) | simp (disch := omega) only [wrapI, wrapU, shl1, shl1', shl1'', shrN, shrN', and_one] 
    all_goals first | rfl | (simp; done) | skip
  | true =>
    obtain ⟨hc, hD⟩ := wevOK_of hw
    have hb := codOK_of hc
    rw [hw, show symsB [] (Q * 0) = true by rw [Int.mul_zero]; exact symsB_nil] at c1
    simp only [if_true] at c1 ⊢
    rw [opA_0] at c1
    have hd : P.tdiv 2 = P / 2 := Int.tdiv_eq_ediv_of_nonneg (by omega)
    have w1 : IntKind.i64.wrap (P / 2) = P / 2 := wrapI _ (by omega)
    have b1 : 0 ≤ Q * (P / 2) ∧ Q * (P / 2) ≤ 8 * 8 := ⟨Int.mul_nonneg (by omega) (by omega), Int.mul_le_mul hD.2 (by omega) (by omega) (by omega)⟩
    have b2 : 0 ≤ Q * P ∧ Q * P ≤ 8 * 8 := ⟨Int.mul_nonneg (by omega) (by omega), Int.mul_le_mul hD.2 (by omega) (by omega) (by omega)⟩
    have w2 : IntKind.i64.wrap (Q * (P / 2)) = Q * (P / 2) := wrapI _ (by omega)
    have w3 : IntKind.i64.wrap (Q * P) = Q * P := wrapI _ (by omega)
    (try (simp -implicitDefEqProofs only [go_sem, hd, w1, w2, w3])); repeat' first | with_reducible exact True.intro | with_reducible refine And.intro ?_ ?_ | with_reducible intro _ | (((with_reducible refine isCall ?_); first | refine call_b (c1) rfl ?_ ?_ | refine call_d (c1) rfl ?_ | refine call_sb (c1) rfl ?_ ?_ | refine call_s (c1) rfl rfl ?_) <;> try (simp -implicitDefEqProofs only [go_sem, hd, w1, w2, w3])) | (((with_reducible refine vc_b ?_ ?_) <;> intro _) <;> try (simp -implicitDefEqProofs only [go_sem, hd, w1, w2, w3])) | simp (disch := omega) only [wrapI, wrapU, shl1, shl1', shl1'', shrN, shrN', and_one] 
    all_goals first | rfl | (simp; done) | skip

/-- THE LAW OF THE NOISE. -/
theorem CorrectNoise_ret (L P n : Int) : Ret E0 F_law05_CorrectNoise [.agg [.int .i64 L, .int .i64 P], .int .i64 n] (.bool true) := by
  have c1 := correct_Fooled_ret L P n
  have c2 := ref05_Fooled_ret L P n
  have c3 := correct_Chance_ret L P
  have c4 := ref05_Chance_ret L P
  have c5 := law05_works_ret
  obtain ⟨x1, hx1⟩ : ∃ x1, fooB L P n = x1 := ⟨_, rfl⟩
  obtain ⟨x2, hx2⟩ : ∃ x2, fooE L P n = x2 := ⟨_, rfl⟩
  obtain ⟨x3, hx3⟩ : ∃ x3, chN L P = x3 := ⟨_, rfl⟩
  obtain ⟨x4, hx4⟩ : ∃ x4, chO L P = x4 := ⟨_, rfl⟩
  obtain ⟨x5, hx5⟩ : ∃ x5, (if codOK L P = true then (0 : Int) else 50) = x5 := ⟨_, rfl⟩
  rw [hx1, hx2] at c1 c2
  rw [hx3, hx4, hx5] at c3 c4
  refine ret_of_pw dec_law05_CorrectNoise mixed (by simp) fun hwf => ?_
  rw [enter_eq]; unfold pc_law05_CorrectNoise
  cases x1 <;>
  · (try (simp -implicitDefEqProofs only [go_sem])); repeat' first | with_reducible exact True.intro | with_reducible refine And.intro ?_ ?_ | with_reducible intro _ | (((with_reducible refine isCall ?_); first | refine call_b (c1) rfl ?_ ?_ | refine call_d (c1) rfl ?_ | refine call_sb (c1) rfl ?_ ?_ | refine call_s (c1) rfl rfl ?_ | refine call_b (c2) rfl ?_ ?_ | refine call_d (c2) rfl ?_ | refine call_sb (c2) rfl ?_ ?_ | refine call_s (c2) rfl rfl ?_ | refine call_b (c3) rfl ?_ ?_ | refine call_d (c3) rfl ?_ | refine call_sb (c3) rfl ?_ ?_ | refine call_s (c3) rfl rfl ?_ | refine call_b (c4) rfl ?_ ?_ | refine call_d (c4) rfl ?_ | refine call_sb (c4) rfl ?_ ?_ | refine call_s (c4) rfl rfl ?_ | refine call_b (c5) rfl ?_ ?_ | refine call_d (c5) rfl ?_ | refine call_sb (c5) rfl ?_ ?_ | refine call_s (c5) rfl rfl ?_) <;> try (simp -implicitDefEqProofs only [go_sem])) | (((with_reducible refine vc_b ?_ ?_) <;> intro _) <;> try (simp -implicitDefEqProofs only [go_sem])) | simp (disch := omega) only [wrapI, wrapU, shl1, shl1', shl1'', shrN, shrN', and_one] 
    all_goals first | rfl | (simp; done) | skip
theorem more_fin : ∀ L : Fin 16, ∀ P : Fin 9, codOK L.val P.val = true → 1 ≤ chN L.val P.val ∧ chN L.val P.val ≤ chO L.val P.val ∧ (chN L.val P.val % 2 = 1 ∨ chO L.val P.val % 2 = 1) := by decide +kernel
theorem more_ok {L P : Int} (h : codOK L P = true) : 1 ≤ chN L P ∧ chN L P ≤ chO L P ∧ (chN L P % 2 = 1 ∨ chO L P % 2 = 1) := by
  obtain ⟨l, p, rfl, rfl, b1, b2, b3, b4, b5⟩ := codOK_nat h
  exact more_fin ⟨l, by omega⟩ ⟨p, by omega⟩ h
theorem tmod2 {n : Int} (h : 0 ≤ n) : n.tmod 2 = n % 2 := Int.tmod_eq_emod_of_nonneg h

/-- THE LAW OF ONE MORE. -/
theorem CorrectMore_ret (L P n : Int) : Ret E0 F_law05_CorrectMore [.agg [.int .i64 L, .int .i64 P], .int .i64 n] (.bool true) := by
  have c0 := ref05_Check_ret L P
  have c5 := law05_works_ret
  refine ret_of_pw dec_law05_CorrectMore mixed (by simp) fun hwf => ?_
  rw [enter_eq]; unfold pc_law05_CorrectMore
  cases hc : codOK L P with
  | false =>
    rw [hc] at c0
    simp only [Bool.false_eq_true, if_false] at c0
    (try (simp -implicitDefEqProofs only [go_sem])); repeat' first | with_reducible exact True.intro | with_reducible refine And.intro ?_ ?_ | with_reducible intro _ | (((with_reducible refine isCall ?_); first | refine call_b (c0) rfl ?_ ?_ | refine call_d (c0) rfl ?_ | refine call_sb (c0) rfl ?_ ?_ | refine call_s (c0) rfl rfl ?_ | refine call_b (c5) rfl ?_ ?_ | refine call_d (c5) rfl ?_ | refine call_sb (c5) rfl ?_ ?_ | refine call_s (c5) rfl rfl ?_) <;> try (simp -implicitDefEqProofs only [go_sem])) | (((with_reducible refine vc_b ?_ ?_) <;> intro _) <;> try (simp -implicitDefEqProofs only [go_sem])) | simp (disch := omega) only [wrapI, wrapU, shl1, shl1', shl1'', shrN, shrN', and_one] 
    all_goals first | rfl | (simp; done) | skip
  | true =>
    rw [hc] at c0
    simp only [if_true] at c0
    have hb := codOK_of hc
    have w1 : IntKind.i64.wrap (P + 1) = P + 1 := wrapI _ (by omega)
    have c6 := ref05_Check_ret L (P + 1)
    cases hc2 : codOK L (P + 1) with
    | false =>
      rw [hc2] at c6
      simp only [Bool.false_eq_true, if_false] at c6
      (try (simp -implicitDefEqProofs only [go_sem, w1])); repeat' first | with_reducible exact True.intro | with_reducible refine And.intro ?_ ?_ | with_reducible intro _ | (((with_reducible refine isCall ?_); first | refine call_b (c0) rfl ?_ ?_ | refine call_d (c0) rfl ?_ | refine call_sb (c0) rfl ?_ ?_ | refine call_s (c0) rfl rfl ?_ | refine call_b (c5) rfl ?_ ?_ | refine call_d (c5) rfl ?_ | refine call_sb (c5) rfl ?_ ?_ | refine call_s (c5) rfl rfl ?_ | refine call_b (c6) rfl ?_ ?_ | refine call_d (c6) rfl ?_ | refine call_sb (c6) rfl ?_ ?_ | refine call_s (c6) rfl rfl ?_) <;> try (simp -implicitDefEqProofs only [go_sem, w1])) | (((with_reducible refine vc_b ?_ ?_) <;> intro _) <;> try (simp -implicitDefEqProofs only [go_sem, w1])) | simp (disch := omega) only [wrapI, wrapU, shl1, shl1', shl1'', shrN, shrN', and_one] 
      all_goals first | rfl | (simp; done) | skip
    | true =>
      rw [hc2] at c6
      simp only [if_true] at c6
      by_cases hn : 0 ≤ n ∧ n ≤ L
      · have h1 : ¬ n < 0 := by omega
        have h2 : ¬ L < n := by omega
        have c1 := correct_Fooled_ret L P n
        have c2 := correct_Fooled_ret L (P + 1) n
        have e1 : fooE L P n = 0 := fooE_ok hc hn
        have e2 : fooE L (P + 1) n = 0 := fooE_ok hc2 hn
        have e3 : fooB L P n = decide (P < n + P / 2) := fooB_ok hc hn
        have e4 : fooB L (P + 1) n = decide (P + 1 < n + (P + 1) / 2) := fooB_ok hc2 hn
        rw [e1, e3] at c1
        rw [e2, e4] at c2
        have c3 := correct_Burst_ret L P 1
        have c4 := correct_Burst_ret L (P + 1) 1
        have v1 : wevOK L P 1 = true := wev1 hc
        have v2 : wevOK L (P + 1) 1 = true := wev1 hc2
        rw [v1] at c3
        rw [v2] at c4
        simp only [if_true, Int.one_mul] at c3 c4
        have hbu : ¬ (P + 1) / 2 < P / 2 := by omega
        have c7 := correct_Chance_ret L P
        rw [hc, if_pos rfl] at c7
        obtain ⟨m1, m2, m3⟩ := more_ok hc
        obtain ⟨A, hA⟩ : ∃ A, chN L P = A := ⟨_, rfl⟩
        obtain ⟨B, hB⟩ : ∃ B, chO L P = B := ⟨_, rfl⟩
        rw [hA, hB] at c7
        rw [hA] at m1 m2 m3
        rw [hB] at m2 m3
        have t1 : A.tmod 2 = A % 2 := tmod2 (by omega)
        have t2 : B.tmod 2 = B % 2 := tmod2 (by omega)
        have hx : decide (P + 1 < n + (P + 1) / 2) = true → decide (P < n + P / 2) = true := by
          intro h; simp at h ⊢; omega
        obtain ⟨x1, hx1⟩ : ∃ x1, decide (P < n + P / 2) = x1 := ⟨_, rfl⟩
        obtain ⟨x2, hx2⟩ : ∃ x2, decide (P + 1 < n + (P + 1) / 2) = x2 := ⟨_, rfl⟩
        rw [hx1] at c1 hx
        rw [hx2] at c2 hx
        by_cases hA2 : A % 2 = 1
        · have hxs : (x1 = false ∧ x2 = false) ∨ (x1 = true ∧ x2 = false) ∨ (x1 = true ∧ x2 = true) := by cases x1 <;> cases x2 <;> simp at hx ⊢
          rcases hxs with ⟨rfl, rfl⟩ | ⟨rfl, rfl⟩ | ⟨rfl, rfl⟩ <;>
          · (try (simp -implicitDefEqProofs only [go_sem, w1, h1, h2, hbu, m1, m2, t1, t2, hA2])); repeat' first | with_reducible exact True.intro | with_reducible refine And.intro ?_ ?_ | with_reducible intro _ | (((with_reducible refine isCall ?_); first | refine call_b (c0) rfl ?_ ?_ | refine call_d (c0) rfl ?_ | refine call_sb (c0) rfl ?_ ?_ | refine call_s (c0) rfl rfl ?_ | refine call_b (c1) rfl ?_ ?_ | refine call_d (c1) rfl ?_ | refine call_sb (c1) rfl ?_ ?_ | refine call_s (c1) rfl rfl ?_ | refine call_b (c2) rfl ?_ ?_ | refine call_d (c2) rfl ?_ | refine call_sb (c2) rfl ?_ ?_ | refine call_s (c2) rfl rfl ?_ | refine call_b (c3) rfl ?_ ?_ | refine call_d (c3) rfl ?_ | refine call_sb (c3) rfl ?_ ?_ | refine call_s (c3) rfl rfl ?_ | refine call_b (c4) rfl ?_ ?_ | refine call_d (c4) rfl ?_ | refine call_sb (c4) rfl ?_ ?_ | refine call_s (c4) rfl rfl ?_ | refine call_b (c5) rfl ?_ ?_ | refine call_d (c5) rfl ?_ | refine call_sb (c5) rfl ?_ ?_ | refine call_s (c5) rfl rfl ?_ | refine call_b (c6) rfl ?_ ?_ | refine call_d (c6) rfl ?_ | refine call_sb (c6) rfl ?_ ?_ | refine call_s (c6) rfl rfl ?_ | refine call_b (c7) rfl ?_ ?_ | refine call_d (c7) rfl ?_ | refine call_sb (c7) rfl ?_ ?_ | refine call_s (c7) rfl rfl ?_) <;> try (simp -implicitDefEqProofs only [go_sem, w1, h1, h2, hbu, m1, m2, t1, t2, hA2])) | (((with_reducible refine vc_b ?_ ?_) <;> intro _) <;> try (simp -implicitDefEqProofs only [go_sem, w1, h1, h2, hbu, m1, m2, t1, t2, hA2])) | simp (disch := omega) only [wrapI, wrapU, shl1, shl1', shl1'', shrN, shrN', and_one] 
            all_goals first | rfl | (simp; done) | skip
        · have hB2 : B % 2 = 1 := by omega
          have hxs : (x1 = false ∧ x2 = false) ∨ (x1 = true ∧ x2 = false) ∨ (x1 = true ∧ x2 = true) := by cases x1 <;> cases x2 <;> simp at hx ⊢
          rcases hxs with ⟨rfl, rfl⟩ | ⟨rfl, rfl⟩ | ⟨rfl, rfl⟩ <;>
          · (try (simp -implicitDefEqProofs only [go_sem, w1, h1, h2, hbu, m1, m2, t1, t2, hA2, hB2])); repeat' first | with_reducible exact True.intro | with_reducible refine And.intro ?_ ?_ | with_reducible intro _ | (((with_reducible refine isCall ?_); first | refine call_b (c0) rfl ?_ ?_ | refine call_d (c0) rfl ?_ | refine call_sb (c0) rfl ?_ ?_ | refine call_s (c0) rfl rfl ?_ | refine call_b (c1) rfl ?_ ?_ | refine call_d (c1) rfl ?_ | refine call_sb (c1) rfl ?_ ?_ | refine call_s (c1) rfl rfl ?_ | refine call_b (c2) rfl ?_ ?_ | refine call_d (c2) rfl ?_ | refine call_sb (c2) rfl ?_ ?_ | refine call_s (c2) rfl rfl ?_ | refine call_b (c3) rfl ?_ ?_ | refine call_d (c3) rfl ?_ | refine call_sb (c3) rfl ?_ ?_ | refine call_s (c3) rfl rfl ?_ | refine call_b (c4) rfl ?_ ?_ | refine call_d (c4) rfl ?_ | refine call_sb (c4) rfl ?_ ?_ | refine call_s (c4) rfl rfl ?_ | refine call_b (c5) rfl ?_ ?_ | refine call_d (c5) rfl ?_ | refine call_sb (c5) rfl ?_ ?_ | refine call_s (c5) rfl rfl ?_ | refine call_b (c6) rfl ?_ ?_ | refine call_d (c6) rfl ?_ | refine call_sb (c6) rfl ?_ ?_ | refine call_s (c6) rfl rfl ?_ | refine call_b (c7) rfl ?_ ?_ | refine call_d (c7) rfl ?_ | refine call_sb (c7) rfl ?_ ?_ | refine call_s (c7) rfl rfl ?_) <;> try (simp -implicitDefEqProofs only [go_sem, w1, h1, h2, hbu, m1, m2, t1, t2, hA2, hB2])) | (((with_reducible refine vc_b ?_ ?_) <;> intro _) <;> try (simp -implicitDefEqProofs only [go_sem, w1, h1, h2, hbu, m1, m2, t1, t2, hA2, hB2])) | simp (disch := omega) only [wrapI, wrapU, shl1, shl1', shl1'', shrN, shrN', and_one] 
            all_goals first | rfl | (simp; done) | skip
      · by_cases h1 : n < 0
        · (try (simp -implicitDefEqProofs only [go_sem, w1, h1])); repeat' first | with_reducible exact True.intro | with_reducible refine And.intro ?_ ?_ | with_reducible intro _ | (((with_reducible refine isCall ?_); first | refine call_b (c0) rfl ?_ ?_ | refine call_d (c0) rfl ?_ | refine call_sb (c0) rfl ?_ ?_ | refine call_s (c0) rfl rfl ?_ | refine call_b (c5) rfl ?_ ?_ | refine call_d (c5) rfl ?_ | refine call_sb (c5) rfl ?_ ?_ | refine call_s (c5) rfl rfl ?_ | refine call_b (c6) rfl ?_ ?_ | refine call_d (c6) rfl ?_ | refine call_sb (c6) rfl ?_ ?_ | refine call_s (c6) rfl rfl ?_) <;> try (simp -implicitDefEqProofs only [go_sem, w1, h1])) | (((with_reducible refine vc_b ?_ ?_) <;> intro _) <;> try (simp -implicitDefEqProofs only [go_sem, w1, h1])) | simp (disch := omega) only [wrapI, wrapU, shl1, shl1', shl1'', shrN, shrN', and_one] 
          all_goals first | rfl | (simp; done) | skip
        · have h2 : L < n := by omega
          (try (simp -implicitDefEqProofs only [go_sem, w1, h1, h2])); repeat' first | with_reducible exact True.intro | with_reducible refine And.intro ?_ ?_ | with_reducible intro _ | (((with_reducible refine isCall ?_); first | refine call_b (c0) rfl ?_ ?_ | refine call_d (c0) rfl ?_ | refine call_sb (c0) rfl ?_ ?_ | refine call_s (c0) rfl rfl ?_ | refine call_b (c5) rfl ?_ ?_ | refine call_d (c5) rfl ?_ | refine call_sb (c5) rfl ?_ ?_ | refine call_s (c5) rfl rfl ?_ | refine call_b (c6) rfl ?_ ?_ | refine call_d (c6) rfl ?_ | refine call_sb (c6) rfl ?_ ?_ | refine call_s (c6) rfl rfl ?_) <;> try (simp -implicitDefEqProofs only [go_sem, w1, h1, h2])) | (((with_reducible refine vc_b ?_ ?_) <;> intro _) <;> try (simp -implicitDefEqProofs only [go_sem, w1, h1, h2])) | simp (disch := omega) only [wrapI, wrapU, shl1, shl1', shl1'', shrN, shrN', and_one] 
          all_goals first | rfl | (simp; done) | skip
end Go.Pw
end
