/- A part of the proof. -/
import Derived.Test.YtlmkpaimjpdhiaaDoorPgCorrectN
set_option linter.all false
section
open Go Go.Pw Go.Proofs
namespace Go.Pw
set_option linter.unusedSimpArgs false
set_option linter.unusedVariables false
set_option maxRecDepth 100000
set_option maxHeartbeats 3200000
theorem iv_nil_iff (w : List F) : (iv w).isEmpty = w.isEmpty := by cases w <;> rfl
theorem pos_emp {w : List F} (h : 0 < w.length) : w.isEmpty = false := by cases w <;> simp_all
theorem iv_pos_emp {w : List F} (h : 0 < w.length) : (iv w).isEmpty = false := by rw [iv_nil_iff]; exact pos_emp h
theorem sameI_at {a b : List Int} {i : Nat} (h : ∀ j : Nat, j < i → a[j]?.getD 0 = b[j]?.getD 0) (he : a[i]?.getD 0 = b[i]?.getD 0) : ∀ j : Nat, j < i + 1 → a[j]?.getD 0 = b[j]?.getD 0 := fun j hj => by
  rcases Nat.lt_succ_iff_lt_or_eq.1 hj with h1 | rfl
  · exact h j h1
  · exact he
theorem ext_getD {a b : List Int} (hl : a.length = b.length) (h : ∀ j : Nat, j < a.length → a[j]?.getD 0 = b[j]?.getD 0) : a = b := by
  apply List.ext_getElem hl
  intro i h1 h2
  have := h i h1
  rwa [List.getElem?_eq_getElem h1, List.getElem?_eq_getElem h2, Option.getD_some, Option.getD_some] at this
theorem one_off {L : Nat} {r w : List F} (hr : r.length = L) (hw : w.length = L) (hL : 0 < L) (hw0 : w.set 0 (w[0]?.getD 0) = w) (h : (dif L r w []).length ≤ 1) : ∃ j, j < L ∧ ∃ v, r = w.set j v := by
  have hs := dif_set L r w []
  have ho := fun j => @dif_out L r w [] hr hw j
  cases hd : dif L r w [] with
  | nil =>
    refine ⟨0, hL, w[0]?.getD 0, ?_⟩
    rw [hw0]
    exact ext0 (by omega) fun j hj => ho j (by rw [hd]; simp)
  | cons j l =>
    rw [hd] at h hs
    have hl : l = [] := by cases l with
      | nil => rfl
      | cons => simp at h
    subst hl
    refine ⟨j, hs.lt j (by simp), r[j]?.getD 0, ext0 (by simp; omega) fun k hk => ?_⟩
    show r[k]?.getD 0 = (w.set j (r[j]?.getD 0))[k]?.getD 0
    by_cases hkj : k = j
    · subst hkj
      rw [List.getElem?_set_self (by omega)]; rfl
    · rw [List.getElem?_set_ne (fun e => hkj e.symm)]
      exact ho k (by rw [hd]; simpa using hkj)
theorem ex_cod : Cod 5 2 [1, 2, 3, 4, 4] := by
  have := encS_cod 2 [1, 2, 3]
  rwa [show encS 2 [1, 2, 3] = [1, 2, 3, 4, 4] by decide +kernel] at this
theorem ex_key : ∀ j : Fin 5, ∀ v : F, ¬ (dot (([0, 0, 3, 4, 4] : List F).set j.val v) (cof 5 0) = 0 ∧ dot (([0, 0, 3, 4, 4] : List F).set j.val v) (cof 5 1) = 0) := by decide +kernel
theorem mks_nil (L : Nat) : Mks L [] := ⟨.nil, by simp⟩
theorem ex_far : decS 5 2 [0, 0, 3, 4, 4] [] = none := by
  cases h : decS 5 2 [0, 0, 3, 4, 4] [] with
  | none => rfl
  | some r =>
    exfalso
    obtain ⟨h1, h2, h3⟩ := dec_some (L := 5) rfl (mks_nil 5) h
    obtain ⟨j, hj, v, hv⟩ := one_off (w := [0, 0, 3, 4, 4]) h2 rfl (by omega) rfl (by have : ([] : List Nat).length = 0 := rfl; omega)
    have a0 := h1 0 (by omega)
    have a1 := h1 1 (by omega)
    rw [show at0 (synd 5 2 r) 0 = dot r (cof 5 0) from synd_get _ _ _ _ (by omega), hv] at a0
    rw [show at0 (synd 5 2 r) 1 = dot r (cof 5 1) from synd_get _ _ _ _ (by omega), hv] at a1
    exact ex_key ⟨j, hj⟩ v ⟨a0, a1⟩
theorem ex_dec : decS 5 2 [1, 2, 7, 4, 4] [] = some [1, 2, 3, 4, 4] :=
  dec_of (by omega) rfl rfl (mks_nil 5) ex_cod (by decide +kernel)
theorem ex_e1 : encL 5 2 [1, 2, 3] = [1, 2, 3, 4, 4] := by decide +kernel
theorem ex_e2 : encE 5 2 [1, 2, 3] = 0 := by decide +kernel
theorem ex_b1 : dcL 5 2 [1, 2, 7, 4, 4] [] = [1, 2, 3, 4, 4] := by
  unfold dcL
  rw [if_pos (by decide), if_pos (by decide), if_pos (by decide)]
  show iv (oL (decS 5 2 [1, 2, 7, 4, 4] [])) = _
  rw [ex_dec]; rfl
theorem ex_b2 : dcE 5 2 [1, 2, 7, 4, 4] [] = 0 := by
  unfold dcE
  rw [if_pos (by decide), if_pos (by decide), if_pos (by decide)]
  show oE (decS 5 2 [1, 2, 7, 4, 4] []) = _
  rw [ex_dec]; rfl
theorem ex_g1 : dcL 5 2 [0, 0, 3, 4, 4] [] = [] := by
  unfold dcL
  rw [if_pos (by decide), if_pos (by decide), if_pos (by decide)]
  show iv (oL (decS 5 2 [0, 0, 3, 4, 4] [])) = _
  rw [ex_far]; rfl
theorem ex_g2 : dcE 5 2 [0, 0, 3, 4, 4] [] = 52 := by
  unfold dcE
  rw [if_pos (by decide), if_pos (by decide), if_pos (by decide)]
  show oE (decS 5 2 [0, 0, 3, 4, 4] []) = _
  rw [ex_far]; rfl
theorem ex_ch : chN 5 2 = 19 ∧ chO 5 2 = 64 := by decide +kernel
attribute [local congr] cg_pw cg_seqI cg_seqE cg_stepI cg_ev cg_evBin cg_condB cg_condV cg_thenQ cg_blockQ cg_onSome cg_onCells cg_onRow cg_onRow2 cg_onMtx cg_frmV cg_fraV cg_frcV cg_frcO cg_frcX cg_fraO cg_owmV cg_ghosts cg_ghost cg_evCall cg_part cg_rng cg_guardV cg_frzV cg_frpV cg_ownV cg_resK cg_res1
attribute [local irreducible] IntKind.wrap bitsOp Option.getD and or

theorem correct_Encode_ret (L P : Int) (n1 : Bool) (xs : List Int) : Ret E0 F_correct_Encode [.agg [.int .i64 L, .int .i64 P], .list n1 (ints xs)] (.tup [.list (encL L P xs).isEmpty (ints (encL L P xs)), .int .i64 (encE L P xs)]) := by
  have c1 := correct_Check_ret L P
  refine ret_of_pw dec_correct_Encode mixed (by simp) fun hwf => ?_
  simp only [wf_int, wf_bool, wf_ints, wf_list, wf_agg, wf_ptr, wf_fn, wf_tup, wf_all_cons, wf_all_nil, wf_all_map, inK_i64, maxLen_eq, List.length_map, ints_len, true_and, and_true] at hwf
  rw [enter_eq]; unfold pc_correct_Encode encL encE
  cases hc : codOK L P with
  | false =>
    rw [hc] at c1
    simp only [Bool.false_eq_true, if_false] at c1
    (try (simp -implicitDefEqProofs only [go_sem, hc])); repeat' first | with_reducible exact True.intro | with_reducible refine And.intro ?_ ?_ | with_reducible intro _ | (((with_reducible refine isCall ?_); first | refine call_b (c1) rfl ?_ ?_ | refine call_d (c1) rfl ?_ | refine call_sb (c1) rfl ?_ ?_ | refine call_s (c1) rfl rfl ?_) <;> try (simp -implicitDefEqProofs only [go_sem, hc])) | (((with_reducible refine vc_b ?_ ?_) <;> intro _) <;> try (simp -implicitDefEqProofs only [go_sem, hc])) | simp (disch := omega) only [wrapI, wrapU, shl1, shl1', shl1'', shrN, shrN', and_one] 
    all_goals first | rfl | (simp; done) | skip
  | true =>
    have hb := codOK_of hc
    have hw : IntKind.i64.wrap (L - P) = L - P := wrapI _ (by omega)
    have c2 := correct_are_ret n1 xs (L - P)
    rw [hc] at c1
    simp only [if_true] at c1 ⊢
    cases hs : symsB xs (L - P) with
    | false =>
      rw [hs] at c2
      (try (simp -implicitDefEqProofs only [go_sem, hw])); repeat' first | with_reducible exact True.intro | with_reducible refine And.intro ?_ ?_ | with_reducible intro _ | (((with_reducible refine isCall ?_); first | refine call_b (c1) rfl ?_ ?_ | refine call_d (c1) rfl ?_ | refine call_sb (c1) rfl ?_ ?_ | refine call_s (c1) rfl rfl ?_ | refine call_b (c2) rfl ?_ ?_ | refine call_d (c2) rfl ?_ | refine call_sb (c2) rfl ?_ ?_ | refine call_s (c2) rfl rfl ?_) <;> try (simp -implicitDefEqProofs only [go_sem, hw])) | (((with_reducible refine vc_b ?_ ?_) <;> intro _) <;> try (simp -implicitDefEqProofs only [go_sem, hw])) | simp (disch := omega) only [wrapI, wrapU, shl1, shl1', shl1'', shrN, shrN', and_one] 
      all_goals first | rfl | (simp; done) | skip
    | true =>
      rw [hs] at c2
      obtain ⟨hl, hf⟩ := symsB_of hs
      obtain ⟨w, hW⟩ : ∃ w, fs xs = w := ⟨_, rfl⟩
      rw [hW] at hf ⊢
      subst hf
      rw [iv_len] at hl
      obtain ⟨l, p, rfl, rfl, b1, b2, b3, b4, b5⟩ := codOK_nat hc
      have hwl : w.length + p = l := by omega
      have c3 := symbols_ret n1 w (by omega)
      rw [pos_emp (show 0 < w.length by omega)] at c3
      have c4 := correct_encode_ret l p false w b2 b3 hwl (by omega) rfl
      rw [codD_eq] at c4
      have c5 := numbers_ret false (encS p w) (by rw [encS_len]; omega)
      rw [pos_emp (show 0 < (encS p w).length by rw [encS_len]; omega)] at c5
      have he := iv_pos_emp (show 0 < (encS p w).length by rw [encS_len]; omega)
      rw [Int.toNat_natCast]
      simp only [if_true]
      rw [he]
      (try (simp -implicitDefEqProofs only [go_sem, hw])); repeat' first | with_reducible exact True.intro | with_reducible refine And.intro ?_ ?_ | with_reducible intro _ | (((with_reducible refine isCall ?_); first | refine call_b (c1) rfl ?_ ?_ | refine call_d (c1) rfl ?_ | refine call_sb (c1) rfl ?_ ?_ | refine call_s (c1) rfl rfl ?_ | refine call_b (c2) rfl ?_ ?_ | refine call_d (c2) rfl ?_ | refine call_sb (c2) rfl ?_ ?_ | refine call_s (c2) rfl rfl ?_ | refine call_b (c3) rfl ?_ ?_ | refine call_d (c3) rfl ?_ | refine call_sb (c3) rfl ?_ ?_ | refine call_s (c3) rfl rfl ?_ | refine call_b (c4) rfl ?_ ?_ | refine call_d (c4) rfl ?_ | refine call_sb (c4) rfl ?_ ?_ | refine call_s (c4) rfl rfl ?_ | refine call_b (c5) rfl ?_ ?_ | refine call_d (c5) rfl ?_ | refine call_sb (c5) rfl ?_ ?_ | refine call_s (c5) rfl rfl ?_) <;> try (simp -implicitDefEqProofs only [go_sem, hw])) | (((with_reducible refine vc_b ?_ ?_) <;> intro _) <;> try (simp -implicitDefEqProofs only [go_sem, hw])) | simp (disch := omega) only [wrapI, wrapU, shl1, shl1', shl1'', shrN, shrN', and_one] 
      all_goals first | rfl | (simp; done) | skip

theorem correct_Decode_ret (L P : Int) (n1 n2 : Bool) (ws ms : List Int) : Ret E0 F_correct_Decode [.agg [.int .i64 L, .int .i64 P], .list n1 (ints ws), .list n2 (ints ms)] (.tup [.list (dcL L P ws ms).isEmpty (ints (dcL L P ws ms)), .int .i64 (dcE L P ws ms)]) := by
  have c1 := correct_Check_ret L P
  refine ret_of_pw dec_correct_Decode mixed (by simp) fun hwf => ?_
  rw [enter_eq]; unfold pc_correct_Decode dcL dcE dcO
  cases hc : codOK L P with
  | false =>
    rw [hc] at c1
    simp only [Bool.false_eq_true, if_false] at c1
    (try (simp -implicitDefEqProofs only [go_sem, hc])); repeat' first | with_reducible exact True.intro | with_reducible refine And.intro ?_ ?_ | with_reducible intro _ | (((with_reducible refine isCall ?_); first | refine call_b (c1) rfl ?_ ?_ | refine call_d (c1) rfl ?_ | refine call_sb (c1) rfl ?_ ?_ | refine call_s (c1) rfl rfl ?_) <;> try (simp -implicitDefEqProofs only [go_sem, hc])) | (((with_reducible refine vc_b ?_ ?_) <;> intro _) <;> try (simp -implicitDefEqProofs only [go_sem, hc])) | simp (disch := omega) only [wrapI, wrapU, shl1, shl1', shl1'', shrN, shrN', and_one] 
    all_goals first | rfl | (simp; done) | skip
  | true =>
    have c2 := correct_are_ret n1 ws L
    rw [hc] at c1
    simp only [if_true] at c1 ⊢
    cases hs : symsB ws L with
    | false =>
      rw [hs] at c2
      (try (simp -implicitDefEqProofs only [go_sem])); repeat' first | with_reducible exact True.intro | with_reducible refine And.intro ?_ ?_ | with_reducible intro _ | (((with_reducible refine isCall ?_); first | refine call_b (c1) rfl ?_ ?_ | refine call_d (c1) rfl ?_ | refine call_sb (c1) rfl ?_ ?_ | refine call_s (c1) rfl rfl ?_ | refine call_b (c2) rfl ?_ ?_ | refine call_d (c2) rfl ?_ | refine call_sb (c2) rfl ?_ ?_ | refine call_s (c2) rfl rfl ?_) <;> try (simp -implicitDefEqProofs only [go_sem])) | (((with_reducible refine vc_b ?_ ?_) <;> intro _) <;> try (simp -implicitDefEqProofs only [go_sem])) | simp (disch := omega) only [wrapI, wrapU, shl1, shl1', shl1'', shrN, shrN', and_one] 
      all_goals first | rfl | (simp; done) | skip
    | true =>
      rw [hs] at c2
      have c6 := correct_places_ret n2 ms L
      simp only [if_true]
      cases hm : marksB ms L with
      | false =>
        rw [hm] at c6
        (try (simp -implicitDefEqProofs only [go_sem])); repeat' first | with_reducible exact True.intro | with_reducible refine And.intro ?_ ?_ | with_reducible intro _ | (((with_reducible refine isCall ?_); first | refine call_b (c1) rfl ?_ ?_ | refine call_d (c1) rfl ?_ | refine call_sb (c1) rfl ?_ ?_ | refine call_s (c1) rfl rfl ?_ | refine call_b (c2) rfl ?_ ?_ | refine call_d (c2) rfl ?_ | refine call_sb (c2) rfl ?_ ?_ | refine call_s (c2) rfl rfl ?_ | refine call_b (c6) rfl ?_ ?_ | refine call_d (c6) rfl ?_ | refine call_sb (c6) rfl ?_ ?_ | refine call_s (c6) rfl rfl ?_) <;> try (simp -implicitDefEqProofs only [go_sem])) | (((with_reducible refine vc_b ?_ ?_) <;> intro _) <;> try (simp -implicitDefEqProofs only [go_sem])) | simp (disch := omega) only [wrapI, wrapU, shl1, shl1', shl1'', shrN, shrN', and_one] 
        all_goals first | rfl | (simp; done) | skip
      | true =>
        rw [hm] at c6
        simp only [if_true]
        obtain ⟨hl, hf⟩ := symsB_of hs
        obtain ⟨w, hW⟩ : ∃ w, fs ws = w := ⟨_, rfl⟩
        rw [hW] at hf ⊢
        subst hf
        rw [iv_len] at hl
        obtain ⟨l, p, rfl, rfl, b1, b2, b3, b4, b5⟩ := codOK_nat hc
        have hmk := mks_of hm
        have hmf := ni_nt hm
        obtain ⟨mk, hMK⟩ : ∃ mk, nt ms = mk := ⟨_, rfl⟩
        rw [hMK] at hmk hmf ⊢
        subst hmf
        have hwl : w.length = l := by omega
        have hml := mks_le hmk
        have c3 := symbols_ret n1 w (by omega)
        rw [pos_emp (show 0 < w.length by omega)] at c3
        have c4 := correct_decode_ret l p false n2 w mk b2 (by omega) b3 (by omega) hwl hmk (by omega) rfl
        rw [codD_eq] at c4
        simp only [Int.toNat_natCast]
        obtain ⟨O, hr⟩ : ∃ O, decS l p w mk = O := ⟨_, rfl⟩
        rw [hr] at c4 ⊢
        cases O with
        | none =>
          rw [decR_none] at c4
          rw [oE_none, oL_none]
          (try (simp -implicitDefEqProofs only [go_sem])); repeat' first | with_reducible exact True.intro | with_reducible refine And.intro ?_ ?_ | with_reducible intro _ | (((with_reducible refine isCall ?_); first | refine call_b (c1) rfl ?_ ?_ | refine call_d (c1) rfl ?_ | refine call_sb (c1) rfl ?_ ?_ | refine call_s (c1) rfl rfl ?_ | refine call_b (c2) rfl ?_ ?_ | refine call_d (c2) rfl ?_ | refine call_sb (c2) rfl ?_ ?_ | refine call_s (c2) rfl rfl ?_ | refine call_b (c3) rfl ?_ ?_ | refine call_d (c3) rfl ?_ | refine call_sb (c3) rfl ?_ ?_ | refine call_s (c3) rfl rfl ?_ | refine call_b (c4) rfl ?_ ?_ | refine call_d (c4) rfl ?_ | refine call_sb (c4) rfl ?_ ?_ | refine call_s (c4) rfl rfl ?_ | refine call_b (c6) rfl ?_ ?_ | refine call_d (c6) rfl ?_ | refine call_sb (c6) rfl ?_ ?_ | refine call_s (c6) rfl rfl ?_) <;> try (simp -implicitDefEqProofs only [go_sem])) | (((with_reducible refine vc_b ?_ ?_) <;> intro _) <;> try (simp -implicitDefEqProofs only [go_sem])) | simp (disch := omega) only [wrapI, wrapU, shl1, shl1', shl1'', shrN, shrN', and_one] 
          all_goals first | rfl | (simp; done) | skip
        | some r =>
          rw [decR_some] at c4
          rw [oE_some, oL_some]
          have hrl := (dec_some hwl hmk hr).2.1
          have c5 := numbers_ret false r (by omega)
          rw [pos_emp (show 0 < r.length by omega)] at c5
          rw [iv_pos_emp (show 0 < r.length by omega)]
          (try (simp -implicitDefEqProofs only [go_sem])); repeat' first | with_reducible exact True.intro | with_reducible refine And.intro ?_ ?_ | with_reducible intro _ | (((with_reducible refine isCall ?_); first | refine call_b (c1) rfl ?_ ?_ | refine call_d (c1) rfl ?_ | refine call_sb (c1) rfl ?_ ?_ | refine call_s (c1) rfl rfl ?_ | refine call_b (c2) rfl ?_ ?_ | refine call_d (c2) rfl ?_ | refine call_sb (c2) rfl ?_ ?_ | refine call_s (c2) rfl rfl ?_ | refine call_b (c3) rfl ?_ ?_ | refine call_d (c3) rfl ?_ | refine call_sb (c3) rfl ?_ ?_ | refine call_s (c3) rfl rfl ?_ | refine call_b (c4) rfl ?_ ?_ | refine call_d (c4) rfl ?_ | refine call_sb (c4) rfl ?_ ?_ | refine call_s (c4) rfl rfl ?_ | refine call_b (c5) rfl ?_ ?_ | refine call_d (c5) rfl ?_ | refine call_sb (c5) rfl ?_ ?_ | refine call_s (c5) rfl rfl ?_ | refine call_b (c6) rfl ?_ ?_ | refine call_d (c6) rfl ?_ | refine call_sb (c6) rfl ?_ ?_ | refine call_s (c6) rfl rfl ?_) <;> try (simp -implicitDefEqProofs only [go_sem])) | (((with_reducible refine vc_b ?_ ?_) <;> intro _) <;> try (simp -implicitDefEqProofs only [go_sem])) | simp (disch := omega) only [wrapI, wrapU, shl1, shl1', shl1'', shrN, shrN', and_one] 
          all_goals first | rfl | (simp; done) | skip
theorem law05_Example_ret : Ret E0 F_law05_Example [] (.agg [.int .i64 5, .int .i64 2]) := by
  refine ret_of_pw dec_law05_Example mixed (by simp) fun hwf => ?_
  rw [enter_eq]; unfold pc_law05_Example
  (try (simp -implicitDefEqProofs only [go_sem])); repeat' first | with_reducible exact True.intro | with_reducible refine And.intro ?_ ?_ | with_reducible intro _ | (((with_reducible refine vc_b ?_ ?_) <;> intro _) <;> try (simp -implicitDefEqProofs only [go_sem])) | simp (disch := omega) only [wrapI, wrapU, shl1, shl1', shl1'', shrN, shrN', and_one] 
  all_goals first | rfl | skip
theorem law05_sameInts_ret (n1 n2 : Bool) (a b : List Int) : Ret E0 F_law05_sameInts [.list n1 (ints a), .list n2 (ints b)] (.bool (decide (a = b))) := by
  refine ret_of_pw dec_law05_sameInts mixed (by simp) fun hwf => ?_
  simp only [wf_int, wf_bool, wf_ints, wf_list, wf_agg, wf_ptr, wf_fn, wf_tup, wf_all_cons, wf_all_nil, wf_all_map, inK_i64, maxLen_eq, List.length_map, ints_len, true_and, and_true] at hwf
  rw [enter_eq]; unfold pc_law05_sameInts
  by_cases hl : a.length = b.length
  · have hl2 : (a.length : Int) = b.length := by omega
    (try (simp -implicitDefEqProofs only [go_sem, eq_true hl2])); repeat' first | with_reducible exact True.intro | with_reducible refine And.intro ?_ ?_ | with_reducible intro _ | (((with_reducible refine vc_b ?_ ?_) <;> intro _) <;> try (simp -implicitDefEqProofs only [go_sem, eq_true hl2])) | simp (disch := omega) only [wrapI, wrapU, shl1, shl1', shl1'', shrN, shrN', and_one] | ((with_reducible refine isEx ?_); refine ⟨_, rfl, ?_, ?_⟩)
    all_goals first | omega | (simp; done) | (simp; omega) | skip
    refine pw_loopS (α := Int) (l0 := ?l1) (m0 := ?m1) (fun x => [(5, .d (.int .i64 x))]) (fun x => []) (fun x => (0 ≤ x ∧ x ≤ a.length) ∧ ∀ j : Nat, j < x.toNat → a[j]?.getD 0 = b[j]?.getD 0) (fun x => (a.length - x).toNat) ?a1_0 ?h01 ?he1 ?he21 ?hI1 ?step1
    case h01 => (simp -implicitDefEqProofs only [go_sem]; rfl)
    case he1 => rfl
    case he21 => rfl
    case' step1 => (rintro i hI; try dsimp only at hI)
    case' hI1 => try dsimp only
    · exact ⟨⟨by omega, by omega⟩, fun j hj => by omega⟩
    · obtain ⟨⟨q1, q2⟩, q3⟩ := hI
      by_cases hi : i < a.length
      · have hib : i < b.length := by omega
        have w1 : IntKind.i64.wrap (i + 1) = i + 1 := wrapI _ (by omega)
        by_cases he : a[i.toNat]?.getD 0 = b[i.toNat]?.getD 0
        · have hn := sameI_at q3 he
          rw [show i.toNat + 1 = (i + 1).toNat by omega] at hn
          (try (simp -implicitDefEqProofs only [go_sem, hi, hib, q1, w1, eq_true he])); repeat' first | with_reducible exact True.intro | with_reducible refine And.intro ?_ ?_ | with_reducible intro _ | (((with_reducible refine vc_b ?_ ?_) <;> intro _) <;> try (simp -implicitDefEqProofs only [go_sem, hi, hib, q1, w1, eq_true he])) | simp (disch := omega) only [wrapI, wrapU, shl1, shl1', shl1'', shrN, shrN', and_one] | ((with_reducible refine isEx ?_); refine ⟨_, rfl, ?_, ?_⟩)
          all_goals first | omega | (apply hn; assumption) | skip
        · have hne : ¬ a = b := fun h => he (by rw [h])
          rw [decide_eq_false hne]
          (try (simp -implicitDefEqProofs only [go_sem, hi, hib, q1, w1, he])); repeat' first | with_reducible exact True.intro | with_reducible refine And.intro ?_ ?_ | with_reducible intro _ | (((with_reducible refine vc_b ?_ ?_) <;> intro _) <;> try (simp -implicitDefEqProofs only [go_sem, hi, hib, q1, w1, he])) | simp (disch := omega) only [wrapI, wrapU, shl1, shl1', shl1'', shrN, shrN', and_one] | ((with_reducible refine isEx ?_); refine ⟨_, rfl, ?_, ?_⟩)
          all_goals first | omega | (simp; done) | (simp; omega) | skip
      · have he : a = b := ext_getD hl fun j hj => q3 j (by omega)
        rw [decide_eq_true he]
        (try (simp -implicitDefEqProofs only [go_sem, hi])); repeat' first | with_reducible exact True.intro | with_reducible refine And.intro ?_ ?_ | with_reducible intro _ | (((with_reducible refine vc_b ?_ ?_) <;> intro _) <;> try (simp -implicitDefEqProofs only [go_sem, hi])) | simp (disch := omega) only [wrapI, wrapU, shl1, shl1', shl1'', shrN, shrN', and_one] | ((with_reducible refine isEx ?_); refine ⟨_, rfl, ?_, ?_⟩)
  · have hl2 : ¬ (a.length : Int) = b.length := by omega
    have hne : ¬ a = b := fun h => hl (by rw [h])
    rw [decide_eq_false hne]
    (try (simp -implicitDefEqProofs only [go_sem, hl2])); repeat' first | with_reducible exact True.intro | with_reducible refine And.intro ?_ ?_ | with_reducible intro _ | (((with_reducible refine vc_b ?_ ?_) <;> intro _) <;> try (simp -implicitDefEqProofs only [go_sem, hl2])) | simp (disch := omega) only [wrapI, wrapU, shl1, shl1', shl1'', shrN, shrN', and_one] | ((with_reducible refine isEx ?_); refine ⟨_, rfl, ?_, ?_⟩)
    all_goals first | omega | (simp; done) | (simp; omega) | skip
theorem law05_works_ret : Ret E0 F_law05_works [] (.bool true) := by
  have c1 := law05_Example_ret
  have c2 := correct_Encode_ret 5 2 false [1, 2, 3]
  rw [ex_e1, ex_e2] at c2
  have c3 := correct_Decode_ret 5 2 false true [1, 2, 7, 4, 4] []
  rw [ex_b1, ex_b2] at c3
  have c4 := correct_Decode_ret 5 2 false true [0, 0, 3, 4, 4] []
  rw [ex_g1, ex_g2] at c4
  have c5 := correct_Chance_ret 5 2
  rw [ex_ch.1, ex_ch.2, show codOK 5 2 = true by decide, if_pos rfl] at c5
  have c6 := law05_sameInts_ret false false [1, 2, 3, 4, 4] [1, 2, 3, 4, 4]
  rw [decide_eq_true rfl] at c6
  refine ret_of_pw dec_law05_works mixed (by simp) fun hwf => ?_
  rw [enter_eq]; unfold pc_law05_works
  (try (simp -implicitDefEqProofs only [go_sem])); repeat' first | with_reducible exact True.intro | with_reducible refine And.intro ?_ ?_ | with_reducible intro _ | (((with_reducible refine isCall ?_); first | refine call_b (c1) rfl ?_ ?_ | refine call_d (c1) rfl ?_ | refine call_sb (c1) rfl ?_ ?_ | refine call_s (c1) rfl rfl ?_ | refine call_b (c2) rfl ?_ ?_ | refine call_d (c2) rfl ?_ | refine call_sb (c2) rfl ?_ ?_ | refine call_s (c2) rfl rfl ?_ | refine call_b (c3) rfl ?_ ?_ | refine call_d (c3) rfl ?_ | refine call_sb (c3) rfl ?_ ?_ | refine call_s (c3) rfl rfl ?_ | refine call_b (c4) rfl ?_ ?_ | refine call_d (c4) rfl ?_ | refine call_sb (c4) rfl ?_ ?_ | refine call_s (c4) rfl rfl ?_ | refine call_b (c5) rfl ?_ ?_ | refine call_d (c5) rfl ?_ | refine call_sb (c5) rfl ?_ ?_ | refine call_s (c5) rfl rfl ?_ | refine call_b (c6) rfl ?_ ?_ | refine call_d (c6) rfl ?_ | refine call_sb (c6) rfl ?_ ?_ | refine call_s (c6) rfl rfl ?_) <;> try (simp -implicitDefEqProofs only [go_sem])) | (((with_reducible refine vc_b ?_ ?_) <;> intro _) <;> try (simp -implicitDefEqProofs only [go_sem])) | simp (disch := omega) only [wrapI, wrapU, shl1, shl1', shl1'', shrN, shrN', and_one] 
  all_goals first | rfl | (simp; done) | (simp_all; done) | skip
end Go.Pw
end
section
open Go Go.Pw Go.Proofs
namespace Go.Pw
set_option linter.unusedSimpArgs false
set_option linter.unusedVariables false
set_option maxRecDepth 100000
set_option maxHeartbeats 3200000
def wevOK (L P Q : Int) : Bool := codOK L P && decide (1 ≤ Q ∧ Q ≤ 8)
def opE (L P Q : Int) (xs : List Int) (m : Int) : Int := if wevOK L P Q = true then if symsB xs (Q * m) = true then 0 else 51 else 50
def opA (L P Q : Int) (e : Int) : D := if e = 0 then .agg [.int .i64 L, .int .i64 P, .int .i64 Q] else .agg [.int .i64 0, .int .i64 0, .int .i64 0]
theorem fooE_ok {L P n : Int} (h : codOK L P = true) (hn : 0 ≤ n ∧ n ≤ L) : fooE L P n = 0 := by unfold fooE; rw [if_pos h, if_pos hn]
theorem fooB_ok {L P n : Int} (h : codOK L P = true) (hn : 0 ≤ n ∧ n ≤ L) : fooB L P n = decide (P < n + P / 2) := by unfold fooB; rw [h, decide_eq_true hn]; rfl
attribute [local congr] cg_pw cg_seqI cg_seqE cg_stepI cg_ev cg_evBin cg_condB cg_condV cg_thenQ cg_blockQ cg_onSome cg_onCells cg_onRow cg_onRow2 cg_onMtx cg_frmV cg_fraV cg_frcV cg_frcO cg_frcX cg_fraO cg_owmV cg_ghosts cg_ghost cg_evCall cg_part cg_rng cg_guardV cg_frzV cg_frpV cg_ownV cg_resK cg_res1
attribute [local irreducible] IntKind.wrap bitsOp Option.getD and or

end Go.Pw
end
