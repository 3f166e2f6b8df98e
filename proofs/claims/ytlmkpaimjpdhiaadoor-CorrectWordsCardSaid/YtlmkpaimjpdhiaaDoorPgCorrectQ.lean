/- A part of the proof. -/
import Derived.Test.YtlmkpaimjpdhiaaDoorPgCorrectN
set_option linter.all false
section
open Go Go.Pw Go.Proofs
namespace Go.Pw
set_option linter.unusedSimpArgs false
set_option linter.unusedVariables false
set_option maxRecDepth 100000
set_option maxHeartbeats 3200000
theorem iv_nil_iff (w : List F) : (iv w).isEmpty = w.isEmpty := by cases w <;> rfl
theorem pos_emp {w : List F} (h : 0 < w.length) : w.isEmpty = false := by cases w <;> simp_all
theorem iv_pos_emp {w : List F} (h : 0 < w.length) : (iv w).isEmpty = false := by rw [iv_nil_iff]; exact pos_emp h
theorem sameI_at {a b : List Int} {i : Nat} (h : ∀ j : Nat, j < i → a[j]?.getD 0 = b[j]?.getD 0) (he : a[i]?.getD 0 = b[i]?.getD 0) : ∀ j : Nat, j < i + 1 → a[j]?.getD 0 = b[j]?.getD 0 := fun j hj => by
  rcases Nat.lt_succ_iff_lt_or_eq.1 hj with h1 | rfl
  · exact h j h1
  · exact he
theorem ext_getD {a b : List Int} (hl : a.length = b.length) (h : ∀ j : Nat, j < a.length → a[j]?.getD 0 = b[j]?.getD 0) : a = b := by
  apply List.ext_getElem hl
  intro i h1 h2
  have := h i h1
  rwa [List.getElem?_eq_getElem h1, List.getElem?_eq_getElem h2, Option.getD_some, Option.getD_some] at this
theorem one_off {L : Nat} {r w : List F} (hr : r.length = L) (hw : w.length = L) (hL : 0 < L) (hw0 : w.set 0 (w[0]?.getD 0) = w) (h : (dif L r w []).length ≤ 1) : ∃ j, j < L ∧ ∃ v, r = w.set j v := by
  have hs := dif_set L r w []
  have ho := fun j => @dif_out L r w [] hr hw j
  cases hd : dif L r w [] with
  | nil =>
    refine ⟨0, hL, w[0]?.getD 0, ?_⟩
    rw [hw0]
    exact ext0 (by omega) fun j hj => ho j (by rw [hd]; simp)
  | cons j l =>
    rw [hd] at h hs
    have hl : l = [] := by cases l with
      | nil => rfl
      | cons => simp at h
    subst hl
    refine ⟨j, hs.lt j (by simp), r[j]?.getD 0, ext0 (by simp; omega) fun k hk => ?_⟩
    show r[k]?.getD 0 = (w.set j (r[j]?.getD 0))[k]?.getD 0
    by_cases hkj : k = j
    · subst hkj
      rw [List.getElem?_set_self (by omega)]; rfl
    · rw [List.getElem?_set_ne (fun e => hkj e.symm)]
      exact ho k (by rw [hd]; simpa using hkj)
theorem ex_cod : Cod 5 2 [1, 2, 3, 4, 4] := by
  have := encS_cod 2 [1, 2, 3]
  rwa [show encS 2 [1, 2, 3] = [1, 2, 3, 4, 4] by decide +kernel] at this
theorem ex_key : ∀ j : Fin 5, ∀ v : F, ¬ (dot (([0, 0, 3, 4, 4] : List F).set j.val v) (cof 5 0) = 0 ∧ dot (([0, 0, 3, 4, 4] : List F).set j.val v) (cof 5 1) = 0) := by decide +kernel
theorem mks_nil (L : Nat) : Mks L [] := ⟨.nil, by simp⟩
theorem ex_far : decS 5 2 [0, 0, 3, 4, 4] [] = none := by
  cases h : decS 5 2 [0, 0, 3, 4, 4] [] with
  | none => rfl
  | some r =>
    exfalso
    obtain ⟨h1, h2, h3⟩ := dec_some (L := 5) rfl (mks_nil 5) h
    obtain ⟨j, hj, v, hv⟩ := one_off (w := [0, 0, 3, 4, 4]) h2 rfl (by omega) rfl (by have : ([] : List Nat).length = 0 := rfl; omega)
    have a0 := h1 0 (by omega)
    have a1 := h1 1 (by omega)
    rw [show at0 (synd 5 2 r) 0 = dot r (cof 5 0) from synd_get _ _ _ _ (by omega), hv] at a0
    rw [show at0 (synd 5 2 r) 1 = dot r (cof 5 1) from synd_get _ _ _ _ (by omega), hv] at a1
    exact ex_key ⟨j, hj⟩ v ⟨a0, a1⟩
theorem ex_dec : decS 5 2 [1, 2, 7, 4, 4] [] = some [1, 2, 3, 4, 4] :=
  dec_of (by omega) rfl rfl (mks_nil 5) ex_cod (by decide +kernel)
theorem ex_e1 : encL 5 2 [1, 2, 3] = [1, 2, 3, 4, 4] := by decide +kernel
theorem ex_e2 : encE 5 2 [1, 2, 3] = 0 := by decide +kernel
theorem ex_b1 : dcL 5 2 [1, 2, 7, 4, 4] [] = [1, 2, 3, 4, 4] := by
  unfold dcL
  rw [if_pos (by decide), if_pos (by decide), if_pos (by decide)]
  show iv (oL (decS 5 2 [1, 2, 7, 4, 4] [])) = _
  rw [ex_dec]; rfl
theorem ex_b2 : dcE 5 2 [1, 2, 7, 4, 4] [] = 0 := by
  unfold dcE
  rw [if_pos (by decide), if_pos (by decide), if_pos (by decide)]
  show oE (decS 5 2 [1, 2, 7, 4, 4] []) = _
  rw [ex_dec]; rfl
theorem ex_g1 : dcL 5 2 [0, 0, 3, 4, 4] [] = [] := by
  unfold dcL
  rw [if_pos (by decide), if_pos (by decide), if_pos (by decide)]
  show iv (oL (decS 5 2 [0, 0, 3, 4, 4] [])) = _
  rw [ex_far]; rfl
theorem ex_g2 : dcE 5 2 [0, 0, 3, 4, 4] [] = 52 := by
  unfold dcE
  rw [if_pos (by decide), if_pos (by decide), if_pos (by decide)]
  show oE (decS 5 2 [0, 0, 3, 4, 4] []) = _
  rw [ex_far]; rfl
theorem ex_ch : chN 5 2 = 19 ∧ chO 5 2 = 64 := by decide +kernel
attribute [local congr] cg_pw cg_seqI cg_seqE cg_stepI cg_ev cg_evBin cg_condB cg_condV cg_thenQ cg_blockQ cg_onSome cg_onCells cg_onRow cg_onRow2 cg_onMtx cg_frmV cg_fraV cg_frcV cg_frcO cg_frcX cg_fraO cg_owmV cg_ghosts cg_ghost cg_evCall cg_part cg_rng cg_guardV cg_frzV cg_frpV cg_ownV cg_resK cg_res1
attribute [local irreducible] IntKind.wrap bitsOp Option.getD and or

theorem correct_Encode_ret (L P : Int) (n1 : Bool) (xs : List Int) : Ret E0 F_correct_Encode [.agg [.int .i64 L, .int .i64 P], .list n1 (ints xs)] (.tup [.list (encL L P xs).isEmpty (ints (encL L P xs)), .int .i64 (encE L P xs)]) := by
  have c1 := correct_Check_ret L P
  refine ret_of_pw dec_correct_Encode mixed (by simp) fun hwf => ?_
  simp only [wf_int, wf_bool, wf_ints, wf_list, wf_agg, wf_ptr, wf_fn, wf_tup, wf_all_cons, wf_all_nil, wf_all_map, inK_i64, maxLen_eq, List.length_map, ints_len, true_and, and_true] at hwf
  rw [enter_eq]; unfold pc_correct_Encode encL encE
  cases hc : codOK L P with
  | false =>
    rw [hc] at c1
    simp only [Bool.false_eq_true, if_false] at c1
    (try (simp -implicitDefEqProofs only [go_sem, hc])); repeat' first | with_reducible exact True.intro | with_reducible refine And.intro ?_ ?_ | with_reducible intro _ | (((with_reducible refine isCall ?_); first | refine call_b (c1) rfl ?_ ?_ | refine call_d (c1) rfl ?_ | refine call_sb (c1) rfl ?_ ?_ | refine call_s (c1) rfl rfl ?_) <;> try (simp -implicitDefEqProofs only [go_sem, hc])) | (((with_reducible refine vc_b ?_ ?_) <;> intro _) <;> try (simp -implicitDefEqProofs only [go_sem, hc])) | simp (disch := omega) only [wrapI, wrapU, shl1, shl1', shl1'', shrN, shrN', and_one] 
    all_goals first | rfl | (simp; done) | skip
  | true =>
    have hb := codOK_of hc
    have hw : IntKind.i64.wrap (L - P) = L - P := wrapI _ (by omega)
    have c2 := correct_are_ret n1 xs (L - P)
    rw [hc] at c1
    simp only [if_true] at c1 ⊢
    cases hs : symsB xs (L - P) with
    | false =>
      rw [hs] at c2
      (try (simp -implicitDefEqProofs only [go_sem, hw])); repeat' first | with_reducible exact True.intro | with_reducible refine And.intro ?_ ?_ | with_reducible intro _ | (((with_reducible refine isCall ?_); first | refine call_b (c1) rfl ?_ ?_ | refine call_d (c1) rfl ?_ | refine call_sb (c1) rfl ?_ ?_ | refine call_s (c1) rfl rfl ?_ | refine call_b (c2) rfl ?_ ?_ | refine call_d (c2) rfl ?_ | refine call_sb (c2) rfl ?_ ?_ | refine call_s (c2) rfl rfl ?_) <;> try (simp -implicitDefEqProofs only [go_sem, hw])) | (((with_reducible refine vc_b ?_ ?_) <;> intro _) <;> try (simp -implicitDefEqProofs only [go_sem, hw])) | simp (disch := omega) only [wrapI, wrapU, shl1, shl1', shl1'', shrN, shrN', and_one] 
      all_goals first | rfl | (simp; done) | skip
    | true =>
      rw [hs] at c2
      obtain ⟨hl, hf⟩ := symsB_of hs
      obtain ⟨w, hW⟩ : ∃ w, fs xs = w := ⟨_, rfl⟩
      rw [hW] at hf ⊢
      subst hf
      rw [iv_len] at hl
      obtain ⟨l, p, rfl, rfl, b1, b2, b3, b4, b5⟩ := codOK_nat hc
      have hwl : w.length + p = l := by omega
      have c3 := symbols_ret n1 w (by omega)
      rw [pos_emp (show 0 < w.length by omega)] at c3
      have c4 := correct_encode_ret l p false w b2 b3 hwl (by omega) rfl
      rw [codD_eq] at c4
      have c5 := numbers_ret false (encS p w) (by rw [encS_len]; omega)
      rw [pos_emp (show 0 < (encS p w).length by rw [encS_len]; omega)] at c5
      have he := iv_pos_emp (show 0 < (encS p w).length by rw [encS_len]; omega)
      rw [Int.toNat_natCast]
      simp only [if_true]
      rw [he]
      (try (simp -implicitDefEqProofs only [go_sem, hw])); repeat' first | with_reducible exact True.intro | with_reducible refine And.intro ?_ ?_ | with_reducible intro _ | (((with_reducible refine isCall ?_); first | refine call_b (c1) rfl ?_ ?_ | refine call_d (c1) rfl ?_ | refine call_sb (c1) rfl ?_ ?_ | refine call_s (c1) rfl rfl ?_ | refine call_b (c2) rfl ?_ ?_ | refine call_d (c2) rfl ?_ | refine call_sb (c2) rfl ?_ ?_ | refine call_s (c2) rfl rfl ?_ | refine call_b (c3) rfl ?_ ?_ | refine call_d (c3) rfl ?_ | refine call_sb (c3) rfl ?_ ?_ | refine call_s (c3) rfl rfl ?_ | refine call_b (c4) rfl ?_ ?_ | refine call_d (c4) rfl ?_ | refine call_sb (c4) rfl ?_ ?_ | refine call_s (c4) rfl rfl ?_ | refine call_b (c5) rfl ?_ ?_ | refine call_d (c5) rfl ?_ | refine call_sb (c5) rfl ?_ ?_ | refine call_s (c5) rfl rfl ?_) <;> try (simp -implicitDefEqProofs only [go_sem, hw])) | (((with_reducible refine vc_b ?_ ?_) <;> intro _) <;> try (simp -implicitDefEqProofs only [go_sem, hw])) | simp (disch := omega) only [wrapI, wrapU, shl1, shl1', shl1'', shrN, shrN', and_one] 
      all_goals first | rfl | (simp; done) | skip

theorem correct_Decode_ret (L P : Int) (n1 n2 : Bool) (ws ms : List Int) : Ret E0 F_correct_Decode [.agg [.int .i64 L, .int .i64 P], .list n1 (ints ws), .list n2 (ints ms)] (.tup [.list (dcL L P ws ms).isEmpty (ints (dcL L P ws ms)), .int .i64 (dcE L P ws ms)]) := by
  have c1 := correct_Check_ret L P
  refine ret_of_pw dec_correct_Decode mixed (by simp) fun hwf => ?_
  rw [enter_eq]; unfold pc_correct_Decode dcL dcE dcO
  cases hc : codOK L P with
  | false =>
    rw [hc] at c1
    simp only [Bool.false_eq_true, if_false] at c1
    (try (simp -implicitDefEqProofs only [go_sem, hc])); repeat' first | with_reducible exact True.intro | with_reducible refine And.intro ?_ ?_ | with_reducible intro _ | (((with_reducible refine isCall ?_); first | refine call_b (c1) rfl ?_ ?_ | refine call_d (c1) rfl ?_ | refine call_sb (c1) rfl ?_ ?_ | refine call_s (c1) rfl rfl ?_) <;> try (simp -implicitDefEqProofs only [go_sem, hc])) | (((with_reducible refine vc_b ?_ ?_) <;> intro _) <;> try (simp -implicitDefEqProofs only [go_sem, hc])) | simp (disch := omega) only [wrapI, wrapU, shl1, shl1', shl1'', shrN, shrN', and_one] 
    all_goals first | rfl | (simp; done) | skip
  | true =>
    have c2 := correct_are_ret n1 ws L
    rw [hc] at c1
    simp only [if_true] at c1 ⊢
    cases hs : symsB ws L with
    | false =>
      rw [hs] at c2
      (try (simp -implicitDefEqProofs only [go_sem])); repeat' first | with_reducible exact True.intro | with_reducible refine And.intro ?_ ?_ | with_reducible intro _ | (((with_reducible refine isCall ?_); first | refine call_b (c1) rfl ?_ ?_ | refine call_d (c1) rfl ?_ | refine call_sb (c1) rfl ?_ ?_ | refine call_s (c1) rfl rfl ?_ | refine call_b (c2) rfl ?_ ?_ | refine call_d (c2) rfl ?_ | refine call_sb (c2) rfl ?_ ?_ | refine call_s (c2) rfl rfl ?_) <;> try (simp -implicitDefEqProofs only [go_sem])) | (((with_reducible refine vc_b ?_ ?_) <;> intro _) <;> try (simp -implicitDefEqProofs only [go_sem])) | simp (disch := omega) only [wrapI, wrapU, shl1, shl1', shl1'', shrN, shrN', and_one] 
      all_goals first | rfl | (simp; done) | skip
    | true =>
      rw [hs] at c2
      have c6 := correct_places_ret n2 ms L
      simp only [if_true]
      cases hm : marksB ms L with
      | false =>
        rw [hm] at c6
        (try (simp -implicitDefEqProofs only [go_sem])); repeat' first | with_reducible exact True.intro | with_reducible refine And.intro ?_ ?_ | with_reducible intro _ | (((with_reducible refine isCall ?_); first | refine call_b (c1) rfl ?_ ?_ | refine call_d (c1) rfl ?_ | refine call_sb (c1) rfl ?_ ?_ | refine call_s (c1) rfl rfl ?_ | refine call_b (c2) rfl ?_ ?_ | refine call_d (c2) rfl ?_ | refine call_sb (c2) rfl ?_ ?_ | refine call_s (c2) rfl rfl ?_ | refine call_b (c6) rfl ?_ ?_ | refine call_d (c6) rfl ?_ | refine call_sb (c6) rfl ?_ ?_ | refine call_s (c6) rfl rfl ?_) <;> try (simp -implicitDefEqProofs only [go_sem])) | (((with_reducible refine vc_b ?_ ?_) <;> intro _) <;> try (simp -implicitDefEqProofs only [go_sem])) | simp (disch := omega) only [wrapI, wrapU, shl1, shl1', shl1'', shrN, shrN', and_one] 
        all_goals first | rfl | (simp; done) | skip
      | true =>
        rw [hm] at c6
        simp only [if_true]
        obtain ⟨hl, hf⟩ := symsB_of hs
        obtain ⟨w, hW⟩ : ∃ w, fs ws = w := ⟨_, rfl⟩
        rw [hW] at hf ⊢
        subst hf
        rw [iv_len] at hl
        obtain ⟨l, p, rfl, rfl, b1, b2, b3, b4, b5⟩ := codOK_nat hc
        have hmk := mks_of hm
        have hmf := ni_nt hm
        obtain ⟨mk, hMK⟩ : ∃ mk, nt ms = mk := ⟨_, rfl⟩
        rw [hMK] at hmk hmf ⊢
        subst hmf
        have hwl : w.length = l := by omega
        have hml := mks_le hmk
        have c3 := symbols_ret n1 w (by omega)
        rw [pos_emp (show 0 < w.length by omega)] at c3
        have c4 := correct_decode_ret l p false n2 w mk b2 (by omega) b3 (by omega) hwl hmk (by omega) rfl
        rw [codD_eq] at c4
        simp only [Int.toNat_natCast]
        obtain ⟨O, hr⟩ : ∃ O, decS l p w mk = O := ⟨_, rfl⟩
        rw [hr] at c4 ⊢
        cases O with
        | none =>
          rw [decR_none] at c4
          rw [oE_none, oL_none]
          (try (simp -implicitDefEqProofs only [go_sem])); repeat' first | with_reducible exact True.intro | with_reducible refine And.intro ?_ ?_ | with_reducible intro _ | (((with_reducible refine isCall ?_); first | refine call_b (c1) rfl ?_ ?_ | refine call_d (c1) rfl ?_ | refine call_sb (c1) rfl ?_ ?_ | refine call_s (c1) rfl rfl ?_ | refine call_b (c2) rfl ?_ ?_ | refine call_d (c2) rfl ?_ | refine call_sb (c2) rfl ?_ ?_ | refine call_s (c2) rfl rfl ?_ | refine call_b (c3) rfl ?_ ?_ | refine call_d (c3) rfl ?_ | refine call_sb (c3) rfl ?_ ?_ | refine call_s (c3) rfl rfl ?_ | refine call_b (c4) rfl ?_ ?_ | refine call_d (c4) rfl ?_ | refine call_sb (c4) rfl ?_ ?_ | refine call_s (c4) rfl rfl ?_ | refine call_b (c6) rfl ?_ ?_ | refine call_d (c6) rfl ?_ | refine call_sb (c6) rfl ?_ ?_ | refine call_s (c6) rfl rfl ?_) <;> try (simp -implicitDefEqProofs only [go_sem])) | (((with_reducible refine vc_b ?_ ?_) <;> intro _) <;> try (simp -implicitDefEqProofs only [go_sem])) | simp (disch := omega) only [wrapI, wrapU, shl1, shl1', shl1'', shrN, shrN', and_one] 
          all_goals first | rfl | (simp; done) | skip
        | some r =>
          rw [decR_some] at c4
          rw [oE_some, oL_some]
          have hrl := (dec_some hwl hmk hr).2.1
          have c5 := numbers_ret false r (by omega)
          rw [pos_emp (show 0 < r.length by omega)] at c5
          rw [iv_pos_emp (show 0 < r.length by omega)]
          (try (simp -implicitDefEqProofs only [go_sem])); repeat' first | with_reducible exact True.intro | with_reducible refine And.intro ?_ ?_ | with_reducible intro _ | (((with_reducible refine isCall ?_); first | refine call_b (c1) rfl ?_ ?_ | refine call_d (c1) rfl ?_ | refine call_sb (c1) rfl ?_ ?_ | refine call_s (c1) rfl rfl ?_ | refine call_b (c2) rfl ?_ ?_ | refine call_d (c2) rfl ?_ | refine call_sb (c2) rfl ?_ ?_ | refine call_s (c2) rfl rfl ?_ | refine call_b (c3) rfl ?_ ?_ | refine call_d (c3) rfl ?_ | refine call_sb (c3) rfl ?_ ?_ | refine call_s (c3) rfl rfl ?_ | refine call_b (c4) rfl ?_ ?_ | refine call_d (c4) rfl ?_ | refine call_sb (c4) rfl ?_ ?_ | refine call_s (c4) rfl rfl ?_ | refine call_b (c5) rfl ?_ ?_ | refine call_d (c5) rfl ?_ | refine call_sb (c5) rfl ?_ ?_ | refine call_s (c5) rfl rfl ?_ | refine call_b (c6) rfl ?_ ?_ | refine call_d (c6) rfl ?_ | refine call_sb (c6) rfl ?_ ?_ | refine call_s (c6) rfl rfl ?_) <;> try (simp -implicitDefEqProofs only [go_sem])) | (((with_reducible refine vc_b ?_ ?_) <;> intro _) <;> try (simp -implicitDefEqProofs only [go_sem])) | simp (disch := omega) only [wrapI, wrapU, shl1, shl1', shl1'', shrN, shrN', and_one] 
          all_goals first | rfl | (simp; done) | skip
theorem law05_Example_ret : Ret E0 F_law05_Example [] (.agg [.int .i64 5, .int .i64 2]) := by
  refine ret_of_pw dec_law05_Example mixed (by simp) fun hwf => ?_
  rw [enter_eq]; unfold pc_law05_Example
  (try (simp -implicitDefEqProofs only [go_sem])); repeat' first | with_reducible exact True.intro | with_reducible refine And.intro ?_ ?_ | with_reducible intro _ | (((with_reducible refine vc_b ?_ ?_) <;> intro _) <;> try (simp -implicitDefEqProofs only [go_sem])) | simp (disch := omega) only [wrapI, wrapU, shl1, shl1', shl1'', shrN, shrN', and_one] 
  all_goals first | rfl | skip
theorem law05_sameInts_ret (n1 n2 : Bool) (a b : List Int) : Ret E0 F_law05_sameInts [.list n1 (ints a), .list n2 (ints b)] (.bool (decide (a = b))) := by
  refine ret_of_pw dec_law05_sameInts mixed (by simp) fun hwf => ?_
  simp only [wf_int, wf_bool, wf_ints, wf_list, wf_agg, wf_ptr, wf_fn, wf_tup, wf_all_cons, wf_all_nil, wf_all_map, inK_i64, maxLen_eq, List.length_map, ints_len, true_and, and_true] at hwf
  rw [enter_eq]; unfold pc_law05_sameInts
  by_cases hl : a.length = b.length
  · have hl2 : (a.length : Int) = b.length := by omega
    (try (simp -implicitDefEqProofs only [go_sem, eq_true hl2])); repeat' first | with_reducible exact True.intro | with_reducible refine And.intro ?_ ?_ | with_reducible intro _ | (((with_reducible refine vc_b ?_ ?_) <;> intro _) <;> try (simp -implicitDefEqProofs only [go_sem, eq_true hl2])) | simp (disch := omega) only [wrapI, wrapU, shl1, shl1', shl1'', shrN, shrN', and_one] | ((with_reducible refine isEx ?_); refine ⟨_, rfl, ?_, ?_⟩)
    all_goals first | omega | (simp; done) | (simp; omega) | skip
    refine pw_loopS (α := Int) (l0 := ?l1) (m0 := ?m1) (fun x => [(5, .d (.int .i64 x))]) (fun x => []) (fun x => (0 ≤ x ∧ x ≤ a.length) ∧ ∀ j : Nat, j < x.toNat → a[j]?.getD 0 = b[j]?.getD 0) (fun x => (a.length - x).toNat) ?a1_0 ?h01 ?he1 ?he21 ?hI1 ?step1
    case h01 => (simp -implicitDefEqProofs only [go_sem]; rfl)
    case he1 => rfl
    case he21 => rfl
    case' step1 => (rintro i hI; try dsimp only at hI)
    case' hI1 => try dsimp only
    · exact ⟨⟨by omega, by omega⟩, fun j hj => by omega⟩
    · obtain ⟨⟨q1, q2⟩, q3⟩ := hI
      by_cases hi : i < a.length
      · have hib : i < b.length := by omega
        have w1 : IntKind.i64.wrap (i + 1) = i + 1 := wrapI _ (by omega)
        by_cases he : a[i.toNat]?.getD 0 = b[i.toNat]?.getD 0
        · have hn := sameI_at q3 he
          rw [show i.toNat + 1 = (i + 1).toNat by omega] at hn
          (try (simp -implicitDefEqProofs only [go_sem, hi, hib, q1, w1, eq_true he])); repeat' first | with_reducible exact True.intro | with_reducible refine And.intro ?_ ?_ | with_reducible intro _ | (((with_reducible refine vc_b ?_ ?_) <;> intro _) <;> try (simp -implicitDefEqProofs only [go_sem, hi, hib, q1, w1, eq_true he])) | simp (disch := omega) only [wrapI, wrapU, shl1, shl1', shl1'', shrN, shrN', and_one] | ((with_reducible refine isEx ?_); refine ⟨_, rfl, ?_, ?_⟩)
          all_goals first | omega | (apply hn; assumption) | skip
        · have hne : ¬ a = b := fun h => he (by rw [h])
          rw [decide_eq_false hne]
          (try (simp -implicitDefEqProofs only [go_sem, hi, hib, q1, w1, he])); repeat' first | with_reducible exact True.intro | with_reducible refine And.intro ?_ ?_ | with_reducible intro _ | (((with_reducible refine vc_b ?_ ?_) <;> intro _) <;> try (simp -implicitDefEqProofs only [go_sem, hi, hib, q1, w1, he])) | simp (disch := omega) only [wrapI, wrapU, shl1, shl1', shl1'', shrN, shrN', and_one] | ((with_reducible refine isEx ?_); refine ⟨_, rfl, ?_, ?_⟩)
          all_goals first | omega | (simp; done) | (simp; omega) | skip
      · have he : a = b := ext_getD hl fun j hj => q3 j (by omega)
        rw [decide_eq_true he]
        (try (simp -implicitDefEqProofs only [go_sem, hi])); repeat' first | with_reducible exact True.intro | with_reducible refine And.intro ?_ ?_ | with_reducible intro _ | (((with_reducible refine vc_b ?_ ?_) <;> intro _) <;> try (simp -implicitDefEqProofs only [go_sem, hi])) | simp (disch := omega) only [wrapI, wrapU, shl1, shl1', shl1'', shrN, shrN', and_one] | ((with_reducible refine isEx ?_); refine ⟨_, rfl, ?_, ?_⟩)
  · have hl2 : ¬ (a.length : Int) = b.length := by omega
    have hne : ¬ a = b := fun h => hl (by rw [h])
    rw [decide_eq_false hne]
    (try (simp -implicitDefEqProofs only [go_sem, hl2])); repeat' first | with_reducible exact True.intro | with_reducible refine And.intro ?_ ?_ | with_reducible intro _ | (((with_reducible refine vc_b ?_ ?_) <;> intro _) <;> try (simp -implicitDefEqProofs only [go_sem, hl2])) | simp (disch := omega) only [wrapI, wrapU, shl1, shl1', shl1'', shrN, shrN', and_one] | ((with_reducible refine isEx ?_); refine ⟨_, rfl, ?_, ?_⟩)
    all_goals first | omega | (simp; done) | (simp; omega) | skip
theorem law05_works_ret : Ret E0 F_law05_works [] (.bool true) := by
  have c1 := law05_Example_ret
  have c2 := correct_Encode_ret 5 2 false [1, 2, 3]
  rw [ex_e1, ex_e2] at c2
  have c3 := correct_Decode_ret 5 2 false true [1, 2, 7, 4, 4] []
  rw [ex_b1, ex_b2] at c3
  have c4 := correct_Decode_ret 5 2 false true [0, 0, 3, 4, 4] []
  rw [ex_g1, ex_g2] at c4
  have c5 := correct_Chance_ret 5 2
  rw [ex_ch.1, ex_ch.2, show codOK 5 2 = true by decide, if_pos rfl] at c5
  have c6 := law05_sameInts_ret false false [1, 2, 3, 4, 4] [1, 2, 3, 4, 4]
  rw [decide_eq_true rfl] at c6
  refine ret_of_pw dec_law05_works mixed (by simp) fun hwf => ?_
  rw [enter_eq]; unfold pc_law05_works
  (try (simp -implicitDefEqProofs only [go_sem])); repeat' first | with_reducible exact True.intro | with_reducible refine And.intro ?_ ?_ | with_reducible intro _ | (((with_reducible refine isCall ?_); first | refine call_b (c1) rfl ?_ ?_ | refine call_d (c1) rfl ?_ | refine call_sb (c1) rfl ?_ ?_ | refine call_s (c1) rfl rfl ?_ | refine call_b (c2) rfl ?_ ?_ | refine call_d (c2) rfl ?_ | refine call_sb (c2) rfl ?_ ?_ | refine call_s (c2) rfl rfl ?_ | refine call_b (c3) rfl ?_ ?_ | refine call_d (c3) rfl ?_ | refine call_sb (c3) rfl ?_ ?_ | refine call_s (c3) rfl rfl ?_ | refine call_b (c4) rfl ?_ ?_ | refine call_d (c4) rfl ?_ | refine call_sb (c4) rfl ?_ ?_ | refine call_s (c4) rfl rfl ?_ | refine call_b (c5) rfl ?_ ?_ | refine call_d (c5) rfl ?_ | refine call_sb (c5) rfl ?_ ?_ | refine call_s (c5) rfl rfl ?_ | refine call_b (c6) rfl ?_ ?_ | refine call_d (c6) rfl ?_ | refine call_sb (c6) rfl ?_ ?_ | refine call_s (c6) rfl rfl ?_) <;> try (simp -implicitDefEqProofs only [go_sem])) | (((with_reducible refine vc_b ?_ ?_) <;> intro _) <;> try (simp -implicitDefEqProofs only [go_sem])) | simp (disch := omega) only [wrapI, wrapU, shl1, shl1', shl1'', shrN, shrN', and_one] 
  all_goals first | rfl | (simp; done) | (simp_all; done) | skip
end Go.Pw
end
section
open Go Go.Pw Go.Proofs
namespace Go.Pw
set_option linter.unusedSimpArgs false
set_option linter.unusedVariables false
set_option maxRecDepth 100000
set_option maxHeartbeats 3200000
def wevOK (L P Q : Int) : Bool := codOK L P && decide (1 ≤ Q ∧ Q ≤ 8)
def opE (L P Q : Int) (xs : List Int) (m : Int) : Int := if wevOK L P Q = true then if symsB xs (Q * m) = true then 0 else 51 else 50
def opA (L P Q : Int) (e : Int) : D := if e = 0 then .agg [.int .i64 L, .int .i64 P, .int .i64 Q] else .agg [.int .i64 0, .int .i64 0, .int .i64 0]
attribute [local congr] cg_pw cg_seqI cg_seqE cg_stepI cg_ev cg_evBin cg_condB cg_condV cg_thenQ cg_blockQ cg_onSome cg_onCells cg_onRow cg_onRow2 cg_onMtx cg_frmV cg_fraV cg_frcV cg_frcO cg_frcX cg_fraO cg_owmV cg_ghosts cg_ghost cg_evCall cg_part cg_rng cg_guardV cg_frzV cg_frpV cg_ownV cg_resK cg_res1
attribute [local irreducible] IntKind.wrap bitsOp Option.getD and or

end Go.Pw
end
section
open Go Go.Pw Go.Proofs
namespace Go.Pw
set_option linter.unusedSimpArgs false
set_option linter.unusedVariables false
set_option maxRecDepth 100000
set_option maxHeartbeats 3200000
def codB (L P : Nat) (w : List F) : Bool := (List.range P).all fun i => decide (dot w (cof L i) = 0)
def rdyB (L P : Int) : Bool := codOK L P && (decide (L ≤ 10) && decide (P ≤ 6))
def noiB (L P : Int) (d a m : List Int) : Bool := decide (m.length ≤ 30) && (symsB d (L - P) && (symsB a L && marksB m L))
def nzy (w a : List F) : List F := List.zipWith fa w a
/-- At so many positions from one on two lists differ. -/
def apS (a b m : List Int) (n : Nat) : List Nat := (List.range n).filter fun i => decide (a[i]?.getD 0 ≠ b[i]?.getD 0) && !inB m i
attribute [local congr] cg_pw cg_seqI cg_seqE cg_stepI cg_ev cg_evBin cg_condB cg_condV cg_thenQ cg_blockQ cg_onSome cg_onCells cg_onRow cg_onRow2 cg_onMtx cg_frmV cg_fraV cg_frcV cg_frcO cg_frcX cg_fraO cg_owmV cg_ghosts cg_ghost cg_evCall cg_part cg_rng cg_guardV cg_frzV cg_frpV cg_ownV cg_resK cg_res1
attribute [local irreducible] IntKind.wrap bitsOp Option.getD and or

theorem law05_Far_ret (L P : Int) : Ret E0 F_law05_Far [.agg [.int .i64 L, .int .i64 P]] (.bool (codOK L P && (decide (10 < L) || decide (6 < P)))) := by
  have c1 := ref05_Check_ret L P
  refine ret_of_pw dec_law05_Far mixed (by simp) fun hwf => ?_
  rw [enter_eq]; unfold pc_law05_Far
  cases hc : codOK L P with
  | false =>
    rw [hc] at c1
    simp only [Bool.false_eq_true, if_false] at c1
    (try (simp -implicitDefEqProofs only [go_sem])); repeat' first | with_reducible exact True.intro | with_reducible refine And.intro ?_ ?_ | with_reducible intro _ | (((with_reducible refine isCall ?_); first | refine call_b (c1) rfl ?_ ?_ | refine call_d (c1) rfl ?_ | refine call_sb (c1) rfl ?_ ?_ | refine call_s (c1) rfl rfl ?_) <;> try (simp -implicitDefEqProofs only [go_sem])) | (((with_reducible refine vc_b ?_ ?_) <;> intro _) <;> try (simp -implicitDefEqProofs only [go_sem])) | simp (disch := omega) only [wrapI, wrapU, shl1, shl1', shl1'', shrN, shrN', and_one] 
    all_goals first | rfl | (simp; done) | skip
  | true =>
    rw [hc] at c1
    simp only [if_true] at c1
    by_cases h1 : 10 < L
    · (try (simp -implicitDefEqProofs only [go_sem, h1])); repeat' first | with_reducible exact True.intro | with_reducible refine And.intro ?_ ?_ | with_reducible intro _ | (((with_reducible refine isCall ?_); first | refine call_b (c1) rfl ?_ ?_ | refine call_d (c1) rfl ?_ | refine call_sb (c1) rfl ?_ ?_ | refine call_s (c1) rfl rfl ?_) <;> try (simp -implicitDefEqProofs only [go_sem, h1])) | (((with_reducible refine vc_b ?_ ?_) <;> intro _) <;> try (simp -implicitDefEqProofs only [go_sem, h1])) | simp (disch := omega) only [wrapI, wrapU, shl1, shl1', shl1'', shrN, shrN', and_one] 
      all_goals first | rfl | (simp [h1]; done) | skip
    · by_cases h2 : 6 < P
      · (try (simp -implicitDefEqProofs only [go_sem, h1, h2])); repeat' first | with_reducible exact True.intro | with_reducible refine And.intro ?_ ?_ | with_reducible intro _ | (((with_reducible refine isCall ?_); first | refine call_b (c1) rfl ?_ ?_ | refine call_d (c1) rfl ?_ | refine call_sb (c1) rfl ?_ ?_ | refine call_s (c1) rfl rfl ?_) <;> try (simp -implicitDefEqProofs only [go_sem, h1, h2])) | (((with_reducible refine vc_b ?_ ?_) <;> intro _) <;> try (simp -implicitDefEqProofs only [go_sem, h1, h2])) | simp (disch := omega) only [wrapI, wrapU, shl1, shl1', shl1'', shrN, shrN', and_one] 
        all_goals first | rfl | (simp [h1, h2]; done) | skip
      · (try (simp -implicitDefEqProofs only [go_sem, h1, h2])); repeat' first | with_reducible exact True.intro | with_reducible refine And.intro ?_ ?_ | with_reducible intro _ | (((with_reducible refine isCall ?_); first | refine call_b (c1) rfl ?_ ?_ | refine call_d (c1) rfl ?_ | refine call_sb (c1) rfl ?_ ?_ | refine call_s (c1) rfl rfl ?_) <;> try (simp -implicitDefEqProofs only [go_sem, h1, h2])) | (((with_reducible refine vc_b ?_ ?_) <;> intro _) <;> try (simp -implicitDefEqProofs only [go_sem, h1, h2])) | simp (disch := omega) only [wrapI, wrapU, shl1, shl1', shl1'', shrN, shrN', and_one] 
        all_goals first | rfl | (simp [h1, h2]; done) | skip
end Go.Pw
end
section
open Go Go.Pw Go.Proofs
namespace Go.Pw
set_option linter.unusedSimpArgs false
set_option linter.unusedVariables false
set_option maxRecDepth 100000
set_option maxHeartbeats 3200000
def setD (l : List Nat) : D := .list l.isEmpty (ints (ni l))
def sdD (ls : List (List Nat)) : List D := ls.map setD
theorem sdD_len (ls : List (List Nat)) : (sdD ls).length = ls.length := by simp [sdD]
theorem sdD_snoc (ls : List (List Nat)) (j : Nat) (l : List Nat) : sdD ls ++ [.list false (.int .i64 (j : Int) :: ints (ni l))] = sdD (ls ++ [j :: l]) := by simp [sdD, setD]; rfl
theorem onSome_sd {ls : List (List Nat)} {i : Nat} {A : D → Prop} : onSome (sdD ls)[i]? A = (i < ls.length ∧ A (.list (ls[i]?.getD []).isEmpty (ints (ni (ls[i]?.getD []))))) := by
  unfold sdD
  rw [List.getElem?_map]
  by_cases h : i < ls.length
  · simp [h, onSome, setD]
  · have : ls[i]? = none := List.getElem?_eq_none (by omega)
    simp [this, h, onSome]
attribute [go_sem] sdD_len sdD_snoc onSome_sd
theorem flat_le {α : Type} (f : Nat → List α) (c : Nat) : ∀ l : List Nat, (∀ j, j ∈ l → (f j).length ≤ c) → (l.flatMap f).length ≤ l.length * c
  | [], _ => by simp
  | j :: l, h => by
    have ih := flat_le f c l fun k hk => h k (by simp [hk])
    have h0 := h j (by simp)
    rw [List.flatMap_cons, List.length_append, List.length_cons, Nat.add_mul]
    omega
theorem setsS_le (L : Nat) (mk : List Nat) (hL : L ≤ 15) : ∀ m fr, (setsS L mk m fr).length ≤ 16 ^ m
  | 0, fr => by simp [setsS]
  | m + 1, fr => by
    have h1 := flat_le (fun j => (setsS L mk m (j + 1)).map (j :: ·)) (16 ^ m) ((List.range' fr (L - fr)).filter fun j => !mk.contains j) (fun j _ => by rw [List.length_map]; exact setsS_le L mk hL m (j + 1))
    have h2 : ((List.range' fr (L - fr)).filter fun j => !mk.contains j).length ≤ 16 := by
      have := List.length_filter_le (fun j => !mk.contains j) (List.range' fr (L - fr))
      rw [List.length_range'] at this; omega
    show ((((List.range' fr (L - fr)).filter fun j => !mk.contains j).flatMap fun j => (setsS L mk m (j + 1)).map (j :: ·))).length ≤ 16 ^ (m + 1)
    rw [Nat.pow_succ]
    have h3 := Nat.mul_le_mul_right (16 ^ m) h2
    omega
theorem setsS_lt (L : Nat) (mk : List Nat) (hL : L ≤ 15) {m : Nat} (hm : m ≤ 6) (fr : Nat) : (setsS L mk m fr).length ≤ 16777216 := by
  have h1 := setsS_le L mk hL m fr
  have h2 : 16 ^ m ≤ 16 ^ 6 := Nat.pow_le_pow_right (by omega) hm
  omega
theorem sets_rec (L : Nat) (mk : List Nat) (m j : Nat) (h : j < L) : setsS L mk (m + 1) j = if mk.contains j = true then setsS L mk (m + 1) (j + 1) else (setsS L mk m (j + 1)).map (j :: ·) ++ setsS L mk (m + 1) (j + 1) := by
  show ((List.range' j (L - j)).filter fun j => !mk.contains j).flatMap _ = _
  rw [show L - j = (L - (j + 1)) + 1 by omega, List.range'_succ, List.filter_cons]
  cases hc : mk.contains j with
  | true => simp only [Bool.not_true, Bool.false_eq_true, if_false, if_true]; rfl
  | false => simp only [Bool.not_false, Bool.false_eq_true, if_false, if_true, List.flatMap_cons]; rfl
theorem sets_over (L : Nat) (mk : List Nat) (m j : Nat) (h : L ≤ j) : setsS L mk (m + 1) j = [] := by
  simp only [setsS]
  rw [show L - j = 0 by omega]; rfl
theorem map_take_snoc (j : Nat) (R : List (List Nat)) (i : Nat) (h : i < R.length) : (R.take i).map (j :: ·) ++ [j :: (R[i]?.getD [])] = (R.take (i + 1)).map (j :: ·) := by
  rw [← take_succ_getD R [] i h, List.map_append]; rfl
attribute [local congr] cg_pw cg_seqI cg_seqE cg_stepI cg_ev cg_evBin cg_condB cg_condV cg_thenQ cg_blockQ cg_onSome cg_onCells cg_onRow cg_onRow2 cg_onMtx cg_frmV cg_fraV cg_frcV cg_frcO cg_frcX cg_fraO cg_owmV cg_ghosts cg_ghost cg_evCall cg_part cg_rng cg_guardV cg_frzV cg_frpV cg_ownV cg_resK cg_res1
attribute [local irreducible] IntKind.wrap bitsOp Option.getD and or

theorem ref05_sets_ret (L P : Nat) (n : Bool) (mk : List Nat) (hL : L ≤ 15) : ∀ (m fr : Nat), m ≤ 6 → fr ≤ 100 →
    Ret E0 F_ref05_sets [codD L P, .list n (ints (ni mk)), .int .i64 (fr : Int), .int .i64 (m : Int)] (.list (setsS L mk m fr).isEmpty (sdD (setsS L mk m fr)))
  | 0, fr, _, _ => by
    refine ret_of_pw dec_ref05_sets mixed (by simp) fun hwf => ?_
    rw [enter_eq]; unfold pc_ref05_sets
    rw [codD_eq, show ((0 : Nat) : Int) = 0 from rfl]
    (try (simp -implicitDefEqProofs only [go_sem])); repeat' first | with_reducible exact True.intro | with_reducible refine And.intro ?_ ?_ | with_reducible intro _ | (((with_reducible refine vc_b ?_ ?_) <;> intro _) <;> try (simp -implicitDefEqProofs only [go_sem])) | simp (disch := omega) only [wrapI, wrapU, shl1, shl1', shl1'', shrN, shrN', and_one] | ((with_reducible refine isEx3 ?_); refine ⟨(_, _, _), rfl, ?_, ?_⟩)
    all_goals first | rfl | (simp; done) | skip
  | m + 1, fr, hm, hfr => by
    have ih := ref05_sets_ret L P n mk hL m
    refine ret_of_pw dec_ref05_sets mixed (by simp) fun hwf => ?_
    rw [enter_eq]; unfold pc_ref05_sets
    rw [codD_eq] at ih ⊢
    have hm0 : ¬ ((m + 1 : Nat) : Int) = 0 := by omega
    have hwm : IntKind.i64.wrap (((m + 1 : Nat) : Int) - 1) = (m : Int) := by rw [wrapI _ (by omega)]; omega
    (try (simp -implicitDefEqProofs only [go_sem, hm0])); repeat' first | with_reducible exact True.intro | with_reducible refine And.intro ?_ ?_ | with_reducible intro _ | (((with_reducible refine vc_b ?_ ?_) <;> intro _) <;> try (simp -implicitDefEqProofs only [go_sem, hm0])) | simp (disch := omega) only [wrapI, wrapU, shl1, shl1', shl1'', shrN, shrN', and_one] | ((with_reducible refine isEx3 ?_); refine ⟨(_, _, _), rfl, ?_, ?_⟩)
    all_goals first | omega | (simp; done) | (simp; omega) | skip
    refine pw_loopS (α := Nat × Bool × (List (List Nat))) (l0 := ?l1) (m0 := ?m1) (fun x => [(10, .d (.int .i64 (x.1 : Int)))]) (fun x => [(48, .row 24 1 x.2.1 (sdD x.2.2))]) (fun x => fr ≤ x.1 ∧ x.1 ≤ max fr L ∧ x.2.1 = x.2.2.isEmpty ∧ x.2.2 ++ setsS L mk (m + 1) x.1 = setsS L mk (m + 1) fr) (fun x => L - x.1) (fr, true, []) ?h01 ?he1 ?he21 ?hI1 ?step1
    case h01 => (simp -implicitDefEqProofs only [go_sem]; rfl)
    case he1 => rfl
    case he21 => rfl
    case' step1 => (rintro ⟨j, b, out⟩ hI; try dsimp only at hI)
    case' hI1 => try dsimp only
    · exact ⟨Nat.le_refl _, by omega, rfl, rfl⟩
    · obtain ⟨j1, j2, j3, j4⟩ := hI
      change b = out.isEmpty at j3
      have hlo : out.length ≤ 16777216 := by
        have h1 := setsS_lt L mk hL hm fr
        rw [← j4, List.length_append] at h1; omega
      by_cases hj : j < L
      · have hj' : (j : Int) < (L : Int) := by omega
        have hwj : IntKind.i64.wrap ((j : Int) + 1) = ((j + 1 : Nat) : Int) := by rw [wrapI _ (by omega)]; omega
        have c1 := ref05_in_ret n (ni mk) j
        rw [inB_ni] at c1
        have hrec := sets_rec L mk m j hj
        cases hc : mk.contains j with
        | true =>
          rw [hc] at c1 hrec
          rw [if_pos rfl] at hrec
          rw [hrec] at j4
          (try (simp -implicitDefEqProofs only [go_sem, hj', hwj])); repeat' first | with_reducible exact True.intro | with_reducible refine And.intro ?_ ?_ | with_reducible intro _ | (((with_reducible refine isCall ?_); first | refine call_b (c1) rfl ?_ ?_ | refine call_d (c1) rfl ?_ | refine call_sb (c1) rfl ?_ ?_ | refine call_s (c1) rfl rfl ?_) <;> try (simp -implicitDefEqProofs only [go_sem, hj', hwj])) | (((with_reducible refine vc_b ?_ ?_) <;> intro _) <;> try (simp -implicitDefEqProofs only [go_sem, hj', hwj])) | simp (disch := omega) only [wrapI, wrapU, shl1, shl1', shl1'', shrN, shrN', and_one] | ((with_reducible refine isEx3 ?_); refine ⟨(_, _, _), rfl, ?_, ?_⟩)
          all_goals first | omega | (simp; done) | (simp; omega) | skip
          all_goals first | exact ⟨j3, j4⟩ | exact j4 | exact j3 | skip
        | false =>
          rw [hc] at c1 hrec
          rw [if_neg (by decide)] at hrec
          rw [hrec, ← List.append_assoc] at j4
          have c2 := ih (j + 1) (by omega) (by omega)
          have hR6 := setsS_lt L mk hL (show m ≤ 6 by omega) (j + 1)
          obtain ⟨R, hR⟩ : ∃ R, setsS L mk m (j + 1) = R := ⟨_, rfl⟩
          rw [hR] at c2 j4 hR6
          (try (simp -implicitDefEqProofs only [go_sem, hj', hwj, hwm])); repeat' first | with_reducible exact True.intro | with_reducible refine And.intro ?_ ?_ | with_reducible intro _ | (((with_reducible refine isCall ?_); first | refine call_b (c1) rfl ?_ ?_ | refine call_d (c1) rfl ?_ | refine call_sb (c1) rfl ?_ ?_ | refine call_s (c1) rfl rfl ?_ | refine call_b (c2) rfl ?_ ?_ | refine call_d (c2) rfl ?_ | refine call_sb (c2) rfl ?_ ?_ | refine call_s (c2) rfl rfl ?_) <;> try (simp -implicitDefEqProofs only [go_sem, hj', hwj, hwm])) | (((with_reducible refine vc_b ?_ ?_) <;> intro _) <;> try (simp -implicitDefEqProofs only [go_sem, hj', hwj, hwm])) | simp (disch := omega) only [wrapI, wrapU, shl1, shl1', shl1'', shrN, shrN', and_one] | ((with_reducible refine isEx3 ?_); refine ⟨(_, _, _), rfl, ?_, ?_⟩)
          all_goals first | omega | (simp; done) | (simp; omega) | skip
          refine pw_loopS (α := Nat × Bool × (List (List Nat))) (l0 := ?l2) (m0 := ?m2) (fun x => [(12, .d (.int .i64 (x.1 : Int)))]) (fun x => [(48, .row 24 1 x.2.1 (sdD x.2.2))]) (fun x => x.1 ≤ R.length ∧ x.2.1 = x.2.2.isEmpty ∧ x.2.2 = out ++ (R.take x.1).map (j :: ·)) (fun x => R.length - x.1) (0, b, out) ?h02 ?he2 ?he22 ?hI2 ?step2
          case h02 => (simp -implicitDefEqProofs only [go_sem]; rfl)
          case he2 => rfl
          case he22 => rfl
          case' step2 => (rintro ⟨i, e, o2⟩ hI2; try dsimp only at hI2)
          case' hI2 => try dsimp only
          · exact ⟨Nat.zero_le _, j3, by simp⟩
          · obtain ⟨i1, i2, i3⟩ := hI2
            change e = o2.isEmpty at i2
            have ho2 : o2.length ≤ 16777216 := by
              have h1 := setsS_lt L mk hL hm fr
              rw [← j4, List.length_append, List.length_append, List.length_map] at h1
              rw [i3, List.length_append, List.length_map, List.length_take]; omega
            by_cases h : i < R.length
            · have hlr : (R[i]?.getD []).length ≤ 100 := by
                have hmem : (R[i]?.getD []) ∈ setsS L mk m (j + 1) := by
                  rw [hR, List.getElem?_eq_getElem h, Option.getD_some]; exact List.getElem_mem h
                rw [sets_len L mk m (j + 1) _ hmem]; omega
              have h' : (i : Int) < (R.length : Int) := by omega
              have hwi : IntKind.i64.wrap ((i : Int) + 1) = ((i + 1 : Nat) : Int) := by rw [wrapI _ (by omega)]; omega
              have hk : o2 ++ [j :: (R[i]?.getD [])] = out ++ (R.take (i + 1)).map (j :: ·) := by
                rw [i3, List.append_assoc, map_take_snoc j R i h]
              have hke : (o2 ++ [j :: (R[i]?.getD [])]).isEmpty = false := emp_snoc _ _
              (try (simp -implicitDefEqProofs only [go_sem, h', hwi])); repeat' first | with_reducible exact True.intro | with_reducible refine And.intro ?_ ?_ | with_reducible intro _ | (((with_reducible refine vc_b ?_ ?_) <;> intro _) <;> try (simp -implicitDefEqProofs only [go_sem, h', hwi])) | simp (disch := omega) only [wrapI, wrapU, shl1, shl1', shl1'', shrN, shrN', and_one] | ((with_reducible refine isEx3 ?_); refine ⟨(_, _, _), rfl, ?_, ?_⟩)
              all_goals first | omega | (simp; done) | (simp; omega) | skip
              all_goals first | exact ⟨hke.symm, hk⟩ | exact hk | exact hke.symm | skip
            · have h' : ¬ (i : Int) < (R.length : Int) := by omega
              have hie : (R.take i) = R := List.take_of_length_le (by omega)
              rw [hie] at i3
              rw [← i3] at j4
              (try (simp -implicitDefEqProofs only [go_sem, h', hwj])); repeat' first | with_reducible exact True.intro | with_reducible refine And.intro ?_ ?_ | with_reducible intro _ | (((with_reducible refine vc_b ?_ ?_) <;> intro _) <;> try (simp -implicitDefEqProofs only [go_sem, h', hwj])) | simp (disch := omega) only [wrapI, wrapU, shl1, shl1', shl1'', shrN, shrN', and_one] | ((with_reducible refine isEx3 ?_); refine ⟨(_, _, _), rfl, ?_, ?_⟩)
              all_goals first | omega | (simp; done) | (simp; omega) | skip
              all_goals first | exact ⟨i2, j4⟩ | exact j4 | exact i2 | skip
      · have hj' : ¬ (j : Int) < (L : Int) := by omega
        rw [sets_over L mk m j (by omega), List.append_nil] at j4
        subst j3
        rw [← j4]
        (try (simp -implicitDefEqProofs only [go_sem, hj'])); repeat' first | with_reducible exact True.intro | with_reducible refine And.intro ?_ ?_ | with_reducible intro _ | (((with_reducible refine vc_b ?_ ?_) <;> intro _) <;> try (simp -implicitDefEqProofs only [go_sem, hj'])) | simp (disch := omega) only [wrapI, wrapU, shl1, shl1', shl1'', shrN, shrN', and_one] | ((with_reducible refine isEx3 ?_); refine ⟨(_, _, _), rfl, ?_, ?_⟩)
        all_goals first | omega | (simp; done) | (simp; omega) | skip
        all_goals first | rfl | skip
end Go.Pw
end
section
open Go Go.Pw Go.Proofs
namespace Go.Pw
set_option linter.unusedSimpArgs false
set_option linter.unusedVariables false
set_option maxRecDepth 100000
set_option maxHeartbeats 3200000
theorem withW_get_at : ∀ (at_ : List Nat) (w xs : List F) (i : Nat), at_.Nodup → at_.length = xs.length → (∀ j, j ∈ at_ → j < w.length) → i < at_.length → (withW w at_ xs)[at_[i]?.getD 0]?.getD 0 = xs[i]?.getD 0
  | j :: js, w, x :: xs, 0, hn, hl, hlt, _ => by
    rw [List.nodup_cons] at hn
    show (withW (w.set j x) js xs)[j]?.getD 0 = x
    rw [withW_get js _ xs j hn.1, List.getElem?_set_self (hlt j (by simp))]; rfl
  | j :: js, w, x :: xs, i + 1, hn, hl, hlt, hi => by
    rw [List.nodup_cons] at hn
    show (withW (w.set j x) js xs)[js[i]?.getD 0]?.getD 0 = xs[i]?.getD 0
    exact withW_get_at js _ xs i hn.2 (by simpa using hl) (fun k hk => by simpa using hlt k (by simp [hk])) (by simpa using hi)
theorem get_mem {l : List Nat} {i : Nat} (h : i < l.length) : l[i]?.getD 0 ∈ l := by rw [ni_eq _ _ h]; exact List.getElem_mem h
theorem withW_over {w xs ys : List F} {at_ : List Nat} (hn : at_.Nodup) (hx : at_.length = xs.length) (hy : at_.length = ys.length) (hlt : ∀ j, j ∈ at_ → j < w.length) : withW (withW w at_ xs) at_ ys = withW w at_ ys := by
  apply ext0
  · rw [withW_len, withW_len, withW_len]
  · intro j hj
    show (withW (withW w at_ xs) at_ ys)[j]?.getD 0 = (withW w at_ ys)[j]?.getD 0
    by_cases h : j ∈ at_
    · obtain ⟨i, hi, rfl⟩ := List.getElem_of_mem h
      have e : at_[i] = at_[i]?.getD 0 := (ni_eq _ _ hi).symm
      rw [e, withW_get_at at_ _ ys i hn hy (fun k hk => by rw [withW_len]; exact hlt k hk) hi, withW_get_at at_ _ ys i hn hy hlt hi]
    · rw [withW_get _ _ _ _ h, withW_get _ _ _ _ h, withW_get _ _ _ _ h]
theorem adds_zero {w v : List F} {at_ : List Nat} (hv : at_.length = v.length) (h : ∀ i, i < at_.length → w[at_[i]?.getD 0]?.getD 0 = 0) : adds w at_ v = v := by
  apply ext0
  · rw [adds_len _ _ _ hv, hv]
  · intro i hi
    rw [adds_len _ _ _ hv] at hi
    show (adds w at_ v)[i]?.getD 0 = v[i]?.getD 0
    rw [adds_get _ _ _ i hi hv, h i hi, zero_fa]
def zer (w : List F) (at_ : List Nat) : List F := withW w at_ (List.replicate at_.length 0)
theorem zer_len (w : List F) (at_ : List Nat) : (zer w at_).length = w.length := withW_len ..
theorem sat_zer {L P : Nat} {w v : List F} {at_ : List Nat} (hw : w.length = L) (hp : Pos L at_) (hv : at_.length = v.length) : Sat 1 (eqs L P at_ (synd L P (zer w at_))) v ↔ Sat 1 (eqs L P at_ (synd L P w)) (adds w at_ v) := by
  have hlt : ∀ j, j ∈ at_ → j < w.length := fun j hj => by rw [hw]; exact hp.lt j hj
  have hz : ∀ i, i < at_.length → (zer w at_)[at_[i]?.getD 0]?.getD 0 = 0 := fun i hi => by
    unfold zer
    rw [withW_get_at at_ w _ i hp.nd (by simp) hlt hi, List.getElem?_replicate, if_pos hi]; rfl
  have ho : withW (zer w at_) at_ v = withW w at_ v := withW_over hp.nd (by simp) hv hlt
  rw [sat_iff hv.symm, sat_iff (by rw [adds_len _ _ _ hv])]
  constructor
  · intro h i hi
    have := h i hi
    rw [← synd_withW hw hp hv i hi, ← ho, synd_withW (by rw [zer_len, hw]) hp hv i hi, adds_zero hv hz]
    exact this
  · intro h i hi
    have := h i hi
    rw [← synd_withW hw hp hv i hi, ← ho, synd_withW (by rw [zer_len, hw]) hp hv i hi, adds_zero hv hz] at this
    exact this
/-- What is found where the word is made 0 first. -/
theorem hit_zer {L P : Nat} (hL : L ≤ 15) {w : List F} {mk l : List Nat} (hw : w.length = L) (hp : Pos L (mk ++ l)) (hm : (mk ++ l).length ≤ P) :
    hit L P w mk l = (solM L P (mk ++ l) (synd L P (zer w (mk ++ l)))).map (withW w (mk ++ l)) := by
  unfold hit
  obtain ⟨A, hA⟩ : ∃ A, mk ++ l = A := ⟨_, rfl⟩
  rw [hA] at hp hm ⊢
  cases h : solM L P A (synd L P (zer w A)) with
  | some v =>
    obtain ⟨h1, h2⟩ := solM_spec h
    rw [solM_some hL hp hm (adds_len _ _ _ h1.symm) ((sat_zer hw hp h1.symm).1 h2), Option.map_some, Option.map_some, adds_adds _ _ _ h1.symm]
  | none =>
    cases h' : solM L P A (synd L P w) with
    | none => rfl
    | some u =>
      exfalso
      obtain ⟨h1, h2⟩ := solM_spec h'
      have hl := adds_len w A u h1.symm
      have h3 : Sat 1 (eqs L P A (synd L P (zer w A))) (adds w A u) := (sat_zer hw hp hl.symm).2 (by rw [adds_adds _ _ _ h1.symm]; exact h2)
      rw [solM_some hL hp hm hl h3] at h
      cases h
theorem enc_solve {L P : Nat} (hL : L ≤ 15) {d : List F} (hd : d.length + P = L) : ∃ v, solM L P (List.range' d.length P) (synd L P (d ++ List.replicate P 0)) = some v ∧ withW (d ++ List.replicate P 0) (List.range' d.length P) v = encS P d := by
  have hp : Pos L (List.range' d.length P) := ⟨List.nodup_range', fun j hj => by simp at hj; omega⟩
  have hwl : (d ++ List.replicate P (0 : F)).length = L := by simp; omega
  have hcl : (encS P d).length = L := by rw [encS_len]; exact hd
  have h := hit_of (P := P) (mk := []) hL hwl hcl hp (by simp) (by rw [← hd]; exact encS_cod P d) fun j hj => by
    by_cases h2 : j < d.length
    · rw [encS_get P d j h2, List.getElem?_append_left h2]
    · have h3 : ¬ j < L := fun h3 => hj (by simp; omega)
      rw [List.getElem?_eq_none (by omega), List.getElem?_eq_none (by omega)]
  unfold hit at h
  rw [Option.map_eq_some_iff] at h
  obtain ⟨u, h1, h2⟩ := h
  refine ⟨u, h1, ?_⟩
  have hu := (solM_spec h1).1
  rw [List.nil_append] at h2 hu
  rwa [adds_zero hu.symm] at h2
  intro i hi
  have hr : (List.range' d.length P)[i]?.getD 0 = d.length + i := by
    rw [List.length_range'] at hi
    rw [List.getElem?_range' (by omega)]
    show d.length + 1 * i = _
    omega
  rw [hr, List.getElem?_append_right (by omega), List.getElem?_replicate]
  split <;> rfl
end Go.Pw
end
section
namespace Go.Pw
set_option linter.unusedSimpArgs false
set_option linter.unusedVariables false
end Go.Pw
end
section
open Go Go.Pw Go.Proofs
namespace Go.Pw
set_option linter.unusedSimpArgs false
set_option linter.unusedVariables false
set_option maxRecDepth 100000
set_option maxHeartbeats 3200000
theorem dec_full {l p : Nat} {w : List F} {mk : List Nat} (h : p < mk.length) : decS l p w mk = none := by unfold decS; rw [if_neg (by omega)]
attribute [local congr] cg_pw cg_seqI cg_seqE cg_stepI cg_ev cg_evBin cg_condB cg_condV cg_thenQ cg_blockQ cg_onSome cg_onCells cg_onRow cg_onRow2 cg_onMtx cg_frmV cg_fraV cg_frcV cg_frcO cg_frcX cg_fraO cg_owmV cg_ghosts cg_ghost cg_evCall cg_part cg_rng cg_guardV cg_frzV cg_frpV cg_ownV cg_resK cg_res1
attribute [local irreducible] IntKind.wrap bitsOp Option.getD and or

end Go.Pw
end
