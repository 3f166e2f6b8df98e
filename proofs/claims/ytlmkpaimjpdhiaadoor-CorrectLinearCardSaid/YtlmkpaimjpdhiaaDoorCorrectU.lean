/- A part of the proof. -/
import Derived.Test.YtlmkpaimjpdhiaaDoorPgCorrectS
set_option linter.all false
open Go Go.Pw Go.Proofs
namespace Go.Pw
set_option linter.unusedSimpArgs false
set_option linter.unusedVariables false
set_option maxRecDepth 100000
set_option maxHeartbeats 3200000
theorem nt_ni (mk : List Nat) : nt (ni mk) = mk := by
  unfold nt ni
  rw [List.map_map]
  exact List.map_id'' (fun x => by simp) mk
theorem Encode_in {l p : Nat} (n1 : Bool) {d : List F} (hc : codOK l p = true) (hd : d.length + p = l) :
    Ret E0 F_correct_Encode [.agg [.int .i64 (l : Int), .int .i64 (p : Int)], .list n1 (ints (iv d))] (.tup [.list false (ints (iv (encS p d))), .int .i64 0]) := by
  have c := correct_Encode_ret l p n1 (iv d)
  have hs : symsB (iv d) ((l : Int) - (p : Int)) = true := by rw [symsB_iv, decide_eq_true_eq]; omega
  have hb := codOK_of hc
  unfold encL encE at c
  rw [if_pos hc, if_pos hs, if_pos hc, if_pos hs, fs_iv, Int.toNat_natCast, iv_pos_emp (show 0 < (encS p d).length by rw [encS_len]; omega)] at c
  exact c
theorem Decode_in {l p : Nat} (n1 n2 : Bool) {w : List F} {mk : List Nat} (hc : codOK l p = true) (hw : w.length = l) (hm : marksB (ni mk) (l : Int) = true) :
    Ret E0 F_correct_Decode [.agg [.int .i64 (l : Int), .int .i64 (p : Int)], .list n1 (ints (iv w)), .list n2 (ints (ni mk))] (.tup [.list (iv (oL (decS l p w mk))).isEmpty (ints (iv (oL (decS l p w mk)))), .int .i64 (oE (decS l p w mk))]) := by
  have c := correct_Decode_ret l p n1 n2 (iv w) (ni mk)
  have hs : symsB (iv w) (l : Int) = true := by rw [symsB_iv, decide_eq_true_eq]; omega
  unfold dcL dcE dcO at c
  rw [if_pos hc, if_pos hs, if_pos hm, if_pos hc, if_pos hs, if_pos hm, fs_iv, nt_ni, Int.toNat_natCast, Int.toNat_natCast] at c
  exact c
/-- A code, data, what is added, marks: as numbers and as symbols. -/
theorem noise_nat {L P : Int} {d a m : List Int} (hr : rdyB L P = true) (h : noiB L P d a m = true) : ∃ l p : Nat, ∃ d' a' : List F, ∃ mk : List Nat, L = (l : Int) ∧ P = (p : Int) ∧ d = iv d' ∧ a = iv a' ∧ m = ni mk ∧
    2 ≤ l ∧ l ≤ 10 ∧ 1 ≤ p ∧ p ≤ 6 ∧ p < l ∧ d'.length + p = l ∧ a'.length = l ∧ Mks l mk ∧ mk.length ≤ 30 ∧ marksB (ni mk) (l : Int) = true ∧ codOK (l : Int) (p : Int) = true := by
  obtain ⟨hc, h1, h2⟩ := rdyB_of hr
  obtain ⟨h3, h4, h5, h6⟩ := noiB_of h
  obtain ⟨l, p, rfl, rfl, b1, b2, b3, b4, b5⟩ := codOK_nat hc
  obtain ⟨q1, q2⟩ := symsB_of h4
  obtain ⟨q3, q4⟩ := symsB_of h5
  have q5 := mks_of h6
  have q6 := ni_nt h6
  refine ⟨l, p, fs d, fs a, nt m, rfl, rfl, q2.symm, q4.symm, q6.symm, b1, by omega, b3, by omega, b5, ?_, ?_, q5, by rw [nt_len]; exact h3, by rw [q6]; exact h6, hc⟩
  · rw [fs_len]; omega
  · rw [fs_len]; omega
theorem enc_get {p : Nat} {d : List F} (j : Nat) (h : j < d.length) : (iv (encS p d))[j]?.getD 0 = (iv d)[j]?.getD 0 := by
  rw [iv_get, iv_get, encS_get p d j h]
theorem marks_nil (l : Int) : marksB [] l = true := rfl
theorem Decode_nil {l p : Nat} (n1 : Bool) {w : List F} (hc : codOK l p = true) (hw : w.length = l) :
    Ret E0 F_correct_Decode [.agg [.int .i64 (l : Int), .int .i64 (p : Int)], .list n1 (ints (iv w)), .list true []] (.tup [.list (iv (oL (decS l p w []))).isEmpty (ints (iv (oL (decS l p w [])))), .int .i64 (oE (decS l p w []))]) :=
  Decode_in n1 true (mk := []) hc hw (marks_nil _)
theorem Apart_nil {l : Nat} (n1 n2 : Bool) {a b : List F} (ha : a.length = l) (hb : b.length = l) (hl : l ≤ 1000) :
    Ret E0 F_ref05_Apart [.list n1 (ints (iv a)), .list n2 (ints (iv b)), .list true []] (.int .i64 ((dif l a b []).length : Int)) := by
  have c := ref05_Apart_ret n1 n2 true (iv a) (iv b) (ni []) (by rw [iv_len, iv_len]; omega) (by rw [iv_len]; omega)
  rw [apS_dif, iv_len, ha] at c
  exact c
theorem dif_len (l : Nat) (a b : List F) : (dif l a b []).length ≤ l := by
  have := apS_le (iv a) (iv b) (ni []) l
  rwa [apS_dif] at this
theorem dec_full {l p : Nat} {w : List F} {mk : List Nat} (h : p < mk.length) : decS l p w mk = none := by unfold decS; rw [if_neg (by omega)]
theorem oE_or (o : Option (List F)) : oE o = 0 ∨ oE o = 52 := by cases o <;> simp [oE]
attribute [local congr] cg_pw cg_seqI cg_seqE cg_stepI cg_ev cg_evBin cg_condB cg_condV cg_thenQ cg_blockQ cg_onSome cg_onCells cg_onRow cg_onRow2 cg_onMtx cg_frmV cg_fraV cg_frcV cg_frcO cg_frcX cg_fraO cg_owmV cg_ghosts cg_ghost cg_evCall cg_part cg_rng cg_guardV cg_frzV cg_frpV cg_ownV cg_resK cg_res1
attribute [local irreducible] IntKind.wrap bitsOp Option.getD and or

/-- THE LAW OF THE BOUND. -/
theorem CorrectBound_ret (L P : Int) (n1 n2 n3 : Bool) (d a m : List Int) : Ret E0 F_law05_CorrectBound [.agg [.int .i64 L, .int .i64 P], .agg [.list n1 (ints d), .list n2 (ints a), .list n3 (ints m)]] (.bool true) := by
  have c0 := law05_works_ret
  have c1 := law05_ready_ret L P
  refine ret_of_pw dec_law05_CorrectBound mixed (by simp) fun hwf => ?_
  rw [enter_eq]; unfold pc_law05_CorrectBound
  cases hr : rdyB L P with
  | false =>
    rw [hr] at c1
    (try (simp -implicitDefEqProofs only [go_sem])); repeat' first | with_reducible exact True.intro | with_reducible refine And.intro ?_ ?_ | with_reducible intro _ | (((with_reducible refine isCall ?_); first | refine call_b (c0) rfl ?_ ?_ | refine call_d (c0) rfl ?_ | refine call_sb (c0) rfl ?_ ?_ | refine call_s (c0) rfl rfl ?_ | refine call_b (c1) rfl ?_ ?_ | refine call_d (c1) rfl ?_ | refine call_sb (c1) rfl ?_ ?_ | refine call_s (c1) rfl rfl ?_) <;> try (simp -implicitDefEqProofs only [go_sem])) | (((with_reducible refine vc_b ?_ ?_) <;> intro _) <;> try (simp -implicitDefEqProofs only [go_sem])) | simp (disch := omega) only [wrapI, wrapU, shl1, shl1', shl1'', shrN, shrN', and_one] | ((with_reducible refine isEx ?_); refine ⟨_, rfl, ?_, ?_⟩)
    all_goals first | rfl | (simp; done) | skip
  | true =>
    rw [hr] at c1
    have c2 := law05_isNoise_ret L P n1 n2 n3 d a m (rdyB_of hr).1
    cases hn : noiB L P d a m with
    | false =>
      rw [hn] at c2
      (try (simp -implicitDefEqProofs only [go_sem])); repeat' first | with_reducible exact True.intro | with_reducible refine And.intro ?_ ?_ | with_reducible intro _ | (((with_reducible refine isCall ?_); first | refine call_b (c0) rfl ?_ ?_ | refine call_d (c0) rfl ?_ | refine call_sb (c0) rfl ?_ ?_ | refine call_s (c0) rfl rfl ?_ | refine call_b (c1) rfl ?_ ?_ | refine call_d (c1) rfl ?_ | refine call_sb (c1) rfl ?_ ?_ | refine call_s (c1) rfl rfl ?_ | refine call_b (c2) rfl ?_ ?_ | refine call_d (c2) rfl ?_ | refine call_sb (c2) rfl ?_ ?_ | refine call_s (c2) rfl rfl ?_) <;> try (simp -implicitDefEqProofs only [go_sem])) | (((with_reducible refine vc_b ?_ ?_) <;> intro _) <;> try (simp -implicitDefEqProofs only [go_sem])) | simp (disch := omega) only [wrapI, wrapU, shl1, shl1', shl1'', shrN, shrN', and_one] | ((with_reducible refine isEx ?_); refine ⟨_, rfl, ?_, ?_⟩)
      all_goals first | rfl | (simp; done) | skip
    | true =>
      rw [hn] at c2
      obtain ⟨l, p, d', a', mk, rfl, rfl, rfl, rfl, rfl, b1, b2, b3, b4, b5, hd, ha, hmk, hml, hmb, hc⟩ := noise_nat hr hn
      have c3 := Encode_in (l := l) (p := p) n1 hc hd
      have hWl : (encS p d').length = l := by rw [encS_len]; exact hd
      have hWc : Cod l p (encS p d') := by rw [← hd]; exact encS_cod p d'
      have hWg := fun j h => @enc_get p d' j h
      obtain ⟨W, hW⟩ : ∃ W, encS p d' = W := ⟨_, rfl⟩
      rw [hW] at c3 hWl hWc hWg
      have c4 := ref05_AreSymbols_ret false (iv W) l
      rw [symsB_iv, decide_eq_true (show (W.length : Int) = (l : Int) by omega)] at c4
      have c5 := ref05_IsCode_ret l p false W (by omega) (by omega) (by omega) hWl
      rw [codB_of hWc, codD_eq] at c5
      have c6 := law05_noisy_ret false n2 W a' (by omega) (by omega)
      have hRl : (nzy W a').length = l := by rw [nzy_len (by omega)]; exact hWl
      obtain ⟨R, hR⟩ : ∃ R, nzy W a' = R := ⟨_, rfl⟩
      rw [hR, pos_emp (show 0 < W.length by omega)] at c6
      rw [hR] at hRl
      have c7 := Decode_in (p := p) false n3 hc hRl hmb
      have c8 := ref05_Apart_ret false false n3 (iv W) (iv R) (ni mk) (by rw [iv_len, iv_len]; omega) (by rw [iv_len]; omega)
      rw [apS_dif, iv_len, hWl] at c8
      have hdw := apS_le (iv W) (iv R) (ni mk) l
      rw [apS_dif] at hdw
      (try (simp -implicitDefEqProofs only [go_sem])); repeat' first | with_reducible exact True.intro | with_reducible refine And.intro ?_ ?_ | with_reducible intro _ | (((with_reducible refine isCall ?_); first | refine call_b (c1) rfl ?_ ?_ | refine call_d (c1) rfl ?_ | refine call_sb (c1) rfl ?_ ?_ | refine call_s (c1) rfl rfl ?_ | refine call_b (c2) rfl ?_ ?_ | refine call_d (c2) rfl ?_ | refine call_sb (c2) rfl ?_ ?_ | refine call_s (c2) rfl rfl ?_ | refine call_b (c3) rfl ?_ ?_ | refine call_d (c3) rfl ?_ | refine call_sb (c3) rfl ?_ ?_ | refine call_s (c3) rfl rfl ?_ | refine call_b (c4) rfl ?_ ?_ | refine call_d (c4) rfl ?_ | refine call_sb (c4) rfl ?_ ?_ | refine call_s (c4) rfl rfl ?_ | refine call_b (c5) rfl ?_ ?_ | refine call_d (c5) rfl ?_ | refine call_sb (c5) rfl ?_ ?_ | refine call_s (c5) rfl rfl ?_) <;> try (simp -implicitDefEqProofs only [go_sem])) | (((with_reducible refine vc_b ?_ ?_) <;> intro _) <;> try (simp -implicitDefEqProofs only [go_sem])) | simp (disch := omega) only [wrapI, wrapU, shl1, shl1', shl1'', shrN, shrN', and_one] | ((with_reducible refine isEx ?_); refine ⟨_, rfl, ?_, ?_⟩)
      all_goals first | omega | (simp; done) | (simp; omega) | skip
      refine pw_loopS (α := Nat) (l0 := ?l1) (m0 := ?m1) (fun x => [(7, .d (.int .i64 (x : Int)))]) (fun x => []) (fun x => x ≤ d'.length) (fun x => d'.length - x) 0 ?h01 ?he1 ?he21 ?hI1 ?step1
      case h01 => (simp -implicitDefEqProofs only [go_sem]; rfl)
      case he1 => rfl
      case he21 => rfl
      case' step1 => (rintro i hI; try dsimp only at hI)
      case' hI1 => try dsimp only
      · exact Nat.zero_le _
      · by_cases h : i < d'.length
        · have h' : (i : Int) < (d'.length : Int) := by omega
          have hwi : IntKind.i64.wrap ((i : Int) + 1) = ((i + 1 : Nat) : Int) := by rw [wrapI _ (by omega)]; omega
          have hg := hWg i h
          have hiW : i < W.length := by omega
          rw [iv_get, iv_get] at hg
          (try (simp -implicitDefEqProofs only [go_sem, h', hwi, hg, hiW])); repeat' first | with_reducible exact True.intro | with_reducible refine And.intro ?_ ?_ | with_reducible intro _ | (((with_reducible refine vc_b ?_ ?_) <;> intro _) <;> try (simp -implicitDefEqProofs only [go_sem, h', hwi, hg, hiW])) | simp (disch := omega) only [wrapI, wrapU, shl1, shl1', shl1'', shrN, shrN', and_one] | ((with_reducible refine isEx ?_); refine ⟨_, rfl, ?_, ?_⟩)
          all_goals first | omega | (simp; done) | (simp; omega) | skip
        · have h' : ¬ (i : Int) < (d'.length : Int) := by omega
          have hw1 : IntKind.i64.wrap (2 * ((dif l W R mk).length : Int)) = 2 * ((dif l W R mk).length : Int) := wrapI _ (by omega)
          have hw2 : IntKind.i64.wrap (2 * ((dif l W R mk).length : Int) + (mk.length : Int)) = 2 * ((dif l W R mk).length : Int) + (mk.length : Int) := wrapI _ (by omega)
          by_cases hin : 2 * (dif l W R mk).length + mk.length ≤ p
          · have hin' : 2 * ((dif l W R mk).length : Int) + (mk.length : Int) ≤ (p : Int) := by omega
            have hdec := dec_of (by omega) hRl hWl hmk hWc hin
            rw [hdec, oE_some, oL_some, iv_pos_emp (show 0 < W.length by omega)] at c7
            have c9 := law05_sameInts_ret false false (iv W) (iv W)
            rw [decide_eq_true rfl] at c9
            (try (simp -implicitDefEqProofs only [go_sem, h', hw1, hw2, hin'])); repeat' first | with_reducible exact True.intro | with_reducible refine And.intro ?_ ?_ | with_reducible intro _ | (((with_reducible refine isCall ?_); first | refine call_b (c0) rfl ?_ ?_ | refine call_d (c0) rfl ?_ | refine call_sb (c0) rfl ?_ ?_ | refine call_s (c0) rfl rfl ?_ | refine call_b (c6) rfl ?_ ?_ | refine call_d (c6) rfl ?_ | refine call_sb (c6) rfl ?_ ?_ | refine call_s (c6) rfl rfl ?_ | refine call_b (c7) rfl ?_ ?_ | refine call_d (c7) rfl ?_ | refine call_sb (c7) rfl ?_ ?_ | refine call_s (c7) rfl rfl ?_ | refine call_b (c8) rfl ?_ ?_ | refine call_d (c8) rfl ?_ | refine call_sb (c8) rfl ?_ ?_ | refine call_s (c8) rfl rfl ?_ | refine call_b (c9) rfl ?_ ?_ | refine call_d (c9) rfl ?_ | refine call_sb (c9) rfl ?_ ?_ | refine call_s (c9) rfl rfl ?_) <;> try (simp -implicitDefEqProofs only [go_sem, h', hw1, hw2, hin'])) | (((with_reducible refine vc_b ?_ ?_) <;> intro _) <;> try (simp -implicitDefEqProofs only [go_sem, h', hw1, hw2, hin'])) | simp (disch := omega) only [wrapI, wrapU, shl1, shl1', shl1'', shrN, shrN', and_one] | ((with_reducible refine isEx ?_); refine ⟨_, rfl, ?_, ?_⟩)
            all_goals first | rfl | (simp; done) | skip
          · have hin' : ¬ 2 * ((dif l W R mk).length : Int) + (mk.length : Int) ≤ (p : Int) := by omega
            obtain ⟨O, hO⟩ : ∃ O, decS l p R mk = O := ⟨_, rfl⟩
            rw [hO] at c7
            cases O with
            | none =>
              rw [oE_none, oL_none] at c7
              (try (simp -implicitDefEqProofs only [go_sem, h', hw1, hw2, hin'])); repeat' first | with_reducible exact True.intro | with_reducible refine And.intro ?_ ?_ | with_reducible intro _ | (((with_reducible refine isCall ?_); first | refine call_b (c0) rfl ?_ ?_ | refine call_d (c0) rfl ?_ | refine call_sb (c0) rfl ?_ ?_ | refine call_s (c0) rfl rfl ?_ | refine call_b (c6) rfl ?_ ?_ | refine call_d (c6) rfl ?_ | refine call_sb (c6) rfl ?_ ?_ | refine call_s (c6) rfl rfl ?_ | refine call_b (c7) rfl ?_ ?_ | refine call_d (c7) rfl ?_ | refine call_sb (c7) rfl ?_ ?_ | refine call_s (c7) rfl rfl ?_ | refine call_b (c8) rfl ?_ ?_ | refine call_d (c8) rfl ?_ | refine call_sb (c8) rfl ?_ ?_ | refine call_s (c8) rfl rfl ?_) <;> try (simp -implicitDefEqProofs only [go_sem, h', hw1, hw2, hin'])) | (((with_reducible refine vc_b ?_ ?_) <;> intro _) <;> try (simp -implicitDefEqProofs only [go_sem, h', hw1, hw2, hin'])) | simp (disch := omega) only [wrapI, wrapU, shl1, shl1', shl1'', shrN, shrN', and_one] | ((with_reducible refine isEx ?_); refine ⟨_, rfl, ?_, ?_⟩)
              all_goals first | rfl | (simp; done) | skip
            | some r =>
              obtain ⟨g1, g2, g3⟩ := dec_some hRl hmk hO
              rw [oE_some, oL_some, iv_pos_emp (show 0 < r.length by omega)] at c7
              have k1 := ref05_AreSymbols_ret false (iv r) l
              rw [symsB_iv, decide_eq_true (show (r.length : Int) = (l : Int) by omega)] at k1
              have k2 := ref05_IsCode_ret l p false r (by omega) (by omega) (by omega) g2
              rw [codB_of g1, codD_eq] at k2
              have k3 := ref05_Apart_ret false false n3 (iv r) (iv R) (ni mk) (by rw [iv_len, iv_len]; omega) (by rw [iv_len]; omega)
              rw [apS_dif, iv_len, g2] at k3
              have hw3 : IntKind.i64.wrap (2 * ((dif l r R mk).length : Int)) = 2 * ((dif l r R mk).length : Int) := wrapI _ (by omega)
              have hw4 : IntKind.i64.wrap (2 * ((dif l r R mk).length : Int) + (mk.length : Int)) = 2 * ((dif l r R mk).length : Int) + (mk.length : Int) := wrapI _ (by omega)
              have hle : 2 * ((dif l r R mk).length : Int) + (mk.length : Int) ≤ (p : Int) := by omega
              (try (simp -implicitDefEqProofs only [go_sem, h', hw1, hw2, hw3, hw4, hin', hle])); repeat' first | with_reducible exact True.intro | with_reducible refine And.intro ?_ ?_ | with_reducible intro _ | (((with_reducible refine isCall ?_); first | refine call_b (c0) rfl ?_ ?_ | refine call_d (c0) rfl ?_ | refine call_sb (c0) rfl ?_ ?_ | refine call_s (c0) rfl rfl ?_ | refine call_b (c6) rfl ?_ ?_ | refine call_d (c6) rfl ?_ | refine call_sb (c6) rfl ?_ ?_ | refine call_s (c6) rfl rfl ?_ | refine call_b (c7) rfl ?_ ?_ | refine call_d (c7) rfl ?_ | refine call_sb (c7) rfl ?_ ?_ | refine call_s (c7) rfl rfl ?_ | refine call_b (c8) rfl ?_ ?_ | refine call_d (c8) rfl ?_ | refine call_sb (c8) rfl ?_ ?_ | refine call_s (c8) rfl rfl ?_ | refine call_b (k1) rfl ?_ ?_ | refine call_d (k1) rfl ?_ | refine call_sb (k1) rfl ?_ ?_ | refine call_s (k1) rfl rfl ?_ | refine call_b (k2) rfl ?_ ?_ | refine call_d (k2) rfl ?_ | refine call_sb (k2) rfl ?_ ?_ | refine call_s (k2) rfl rfl ?_ | refine call_b (k3) rfl ?_ ?_ | refine call_d (k3) rfl ?_ | refine call_sb (k3) rfl ?_ ?_ | refine call_s (k3) rfl rfl ?_) <;> try (simp -implicitDefEqProofs only [go_sem, h', hw1, hw2, hw3, hw4, hin', hle])) | (((with_reducible refine vc_b ?_ ?_) <;> intro _) <;> try (simp -implicitDefEqProofs only [go_sem, h', hw1, hw2, hw3, hw4, hin', hle])) | simp (disch := omega) only [wrapI, wrapU, shl1, shl1', shl1'', shrN, shrN', and_one] | ((with_reducible refine isEx ?_); refine ⟨_, rfl, ?_, ?_⟩)
              all_goals first | rfl | (simp; done) | skip
/-- THE LAW OF THE REFUSED WORDS. -/
theorem CorrectRefused_ret (L P : Int) (n1 n2 n3 : Bool) (d a m : List Int) : Ret E0 F_law05_CorrectRefused [.agg [.int .i64 L, .int .i64 P], .agg [.list n1 (ints d), .list n2 (ints a), .list n3 (ints m)]] (.bool true) := by
  have c0 := law05_works_ret
  have c1 := law05_ready_ret L P
  refine ret_of_pw dec_law05_CorrectRefused mixed (by simp) fun hwf => ?_
  rw [enter_eq]; unfold pc_law05_CorrectRefused
  cases hr : rdyB L P with
  | false =>
    rw [hr] at c1
    (try (simp -implicitDefEqProofs only [go_sem])); repeat' first | with_reducible exact True.intro | with_reducible refine And.intro ?_ ?_ | with_reducible intro _ | (((with_reducible refine isCall ?_); first | refine call_b (c0) rfl ?_ ?_ | refine call_d (c0) rfl ?_ | refine call_sb (c0) rfl ?_ ?_ | refine call_s (c0) rfl rfl ?_ | refine call_b (c1) rfl ?_ ?_ | refine call_d (c1) rfl ?_ | refine call_sb (c1) rfl ?_ ?_ | refine call_s (c1) rfl rfl ?_) <;> try (simp -implicitDefEqProofs only [go_sem])) | (((with_reducible refine vc_b ?_ ?_) <;> intro _) <;> try (simp -implicitDefEqProofs only [go_sem])) | simp (disch := omega) only [wrapI, wrapU, shl1, shl1', shl1'', shrN, shrN', and_one] 
    all_goals first | rfl | (simp; done) | skip
  | true =>
    rw [hr] at c1
    have c2 := law05_isNoise_ret L P n1 n2 n3 d a m (rdyB_of hr).1
    cases hn : noiB L P d a m with
    | false =>
      rw [hn] at c2
      (try (simp -implicitDefEqProofs only [go_sem])); repeat' first | with_reducible exact True.intro | with_reducible refine And.intro ?_ ?_ | with_reducible intro _ | (((with_reducible refine isCall ?_); first | refine call_b (c0) rfl ?_ ?_ | refine call_d (c0) rfl ?_ | refine call_sb (c0) rfl ?_ ?_ | refine call_s (c0) rfl rfl ?_ | refine call_b (c1) rfl ?_ ?_ | refine call_d (c1) rfl ?_ | refine call_sb (c1) rfl ?_ ?_ | refine call_s (c1) rfl rfl ?_ | refine call_b (c2) rfl ?_ ?_ | refine call_d (c2) rfl ?_ | refine call_sb (c2) rfl ?_ ?_ | refine call_s (c2) rfl rfl ?_) <;> try (simp -implicitDefEqProofs only [go_sem])) | (((with_reducible refine vc_b ?_ ?_) <;> intro _) <;> try (simp -implicitDefEqProofs only [go_sem])) | simp (disch := omega) only [wrapI, wrapU, shl1, shl1', shl1'', shrN, shrN', and_one] 
      all_goals first | rfl | (simp; done) | skip
    | true =>
      rw [hn] at c2
      obtain ⟨l, p, d', a', mk, rfl, rfl, rfl, rfl, rfl, b1, b2, b3, b4, b5, hd, ha, hmk, hml, hmb, hc⟩ := noise_nat hr hn
      have c3 := Encode_in (l := l) (p := p) n1 hc hd
      have hWl : (encS p d').length = l := by rw [encS_len]; exact hd
      have hWc : Cod l p (encS p d') := by rw [← hd]; exact encS_cod p d'
      obtain ⟨W, hW⟩ : ∃ W, encS p d' = W := ⟨_, rfl⟩
      rw [hW] at c3 hWl hWc
      have c6 := law05_noisy_ret false n2 W a' (by omega) (by omega)
      have hRl : (nzy W a').length = l := by rw [nzy_len (by omega)]; exact hWl
      obtain ⟨R, hR⟩ : ∃ R, nzy W a' = R := ⟨_, rfl⟩
      rw [hR, pos_emp (show 0 < W.length by omega)] at c6
      rw [hR] at hRl
      have hdl := dif_len l W R
      have c8 := Apart_nil false false hWl hRl (by omega)
      have hfew := fun r h hf => @few_same l p (by omega) W R r hWl hRl hWc h hf
      obtain ⟨n, hnn⟩ : ∃ n, (dif l W R []).length = n := ⟨_, rfl⟩
      rw [hnn] at c8 hdl hfew
      have cf := correct_Fooled_ret l p n
      rw [fooB_ok hc (by omega), fooE_ok hc (by omega)] at cf
      have c7 := Decode_nil (p := p) false hc hRl
      have c9 := Decode_in (p := p) false n3 hc hRl hmb
      have hk2 : (p : Int) < (mk.length : Int) → oE (decS l p R mk) = 52 := fun h => by rw [dec_full (by omega)]; rfl
      have hk3 := oE_or (decS l p R mk)
      obtain ⟨O2, hO2⟩ : ∃ O2, decS l p R mk = O2 := ⟨_, rfl⟩
      rw [hO2] at c9 hk2 hk3
      obtain ⟨E2, hE2⟩ : ∃ E2, oE O2 = E2 := ⟨_, rfl⟩
      rw [hE2] at c9 hk2 hk3
      obtain ⟨O, hO⟩ : ∃ O, decS l p R [] = O := ⟨_, rfl⟩
      rw [hO] at c7
      have hlW : (W.length : Int) = (l : Int) := by omega
      have hme : ((p : Int) < (mk.length : Int) ∧ E2 = 52) ∨ ¬ (p : Int) < (mk.length : Int) := by
        by_cases h : (p : Int) < (mk.length : Int)
        · exact .inl ⟨h, hk2 h⟩
        · exact .inr h
      clear hk2 hk3
      cases O with
      | none =>
        rw [oE_none, oL_none] at c7
        obtain ⟨fb, hfb⟩ : ∃ fb, decide ((p : Int) < (n : Int) + (p : Int) / 2) = fb := ⟨_, rfl⟩
        rw [hfb] at cf
        rcases hme with ⟨hme, rfl⟩ | hme <;> cases fb <;>
        · (try (simp -implicitDefEqProofs only [go_sem, hlW, hme])); repeat' first | with_reducible exact True.intro | with_reducible refine And.intro ?_ ?_ | with_reducible intro _ | (((with_reducible refine isCall ?_); first | refine call_b (c0) rfl ?_ ?_ | refine call_d (c0) rfl ?_ | refine call_sb (c0) rfl ?_ ?_ | refine call_s (c0) rfl rfl ?_ | refine call_b (c1) rfl ?_ ?_ | refine call_d (c1) rfl ?_ | refine call_sb (c1) rfl ?_ ?_ | refine call_s (c1) rfl rfl ?_ | refine call_b (c2) rfl ?_ ?_ | refine call_d (c2) rfl ?_ | refine call_sb (c2) rfl ?_ ?_ | refine call_s (c2) rfl rfl ?_ | refine call_b (c3) rfl ?_ ?_ | refine call_d (c3) rfl ?_ | refine call_sb (c3) rfl ?_ ?_ | refine call_s (c3) rfl rfl ?_ | refine call_b (c6) rfl ?_ ?_ | refine call_d (c6) rfl ?_ | refine call_sb (c6) rfl ?_ ?_ | refine call_s (c6) rfl rfl ?_ | refine call_b (c7) rfl ?_ ?_ | refine call_d (c7) rfl ?_ | refine call_sb (c7) rfl ?_ ?_ | refine call_s (c7) rfl rfl ?_ | refine call_b (c8) rfl ?_ ?_ | refine call_d (c8) rfl ?_ | refine call_sb (c8) rfl ?_ ?_ | refine call_s (c8) rfl rfl ?_ | refine call_b (c9) rfl ?_ ?_ | refine call_d (c9) rfl ?_ | refine call_sb (c9) rfl ?_ ?_ | refine call_s (c9) rfl rfl ?_ | refine call_b (cf) rfl ?_ ?_ | refine call_d (cf) rfl ?_ | refine call_sb (cf) rfl ?_ ?_ | refine call_s (cf) rfl rfl ?_) <;> try (simp -implicitDefEqProofs only [go_sem, hlW, hme])) | (((with_reducible refine vc_b ?_ ?_) <;> intro _) <;> try (simp -implicitDefEqProofs only [go_sem, hlW, hme])) | simp (disch := omega) only [wrapI, wrapU, shl1, shl1', shl1'', shrN, shrN', and_one] 
          all_goals first | rfl | (simp; done) | skip
      | some r =>
        obtain ⟨g1, g2, g3⟩ := dec_some hRl (mks_nil l) hO
        rw [oE_some, oL_some, iv_pos_emp (show 0 < r.length by omega)] at c7
        have ck := law05_sameInts_ret false false (iv r) (iv W)
        by_cases hfo : (p : Int) < (n : Int) + (p : Int) / 2
        · rw [decide_eq_true hfo] at cf
          rcases hme with ⟨hme, rfl⟩ | hme <;>
          · (try (simp -implicitDefEqProofs only [go_sem, hlW, hme])); repeat' first | with_reducible exact True.intro | with_reducible refine And.intro ?_ ?_ | with_reducible intro _ | (((with_reducible refine isCall ?_); first | refine call_b (c0) rfl ?_ ?_ | refine call_d (c0) rfl ?_ | refine call_sb (c0) rfl ?_ ?_ | refine call_s (c0) rfl rfl ?_ | refine call_b (c1) rfl ?_ ?_ | refine call_d (c1) rfl ?_ | refine call_sb (c1) rfl ?_ ?_ | refine call_s (c1) rfl rfl ?_ | refine call_b (c2) rfl ?_ ?_ | refine call_d (c2) rfl ?_ | refine call_sb (c2) rfl ?_ ?_ | refine call_s (c2) rfl rfl ?_ | refine call_b (c3) rfl ?_ ?_ | refine call_d (c3) rfl ?_ | refine call_sb (c3) rfl ?_ ?_ | refine call_s (c3) rfl rfl ?_ | refine call_b (c6) rfl ?_ ?_ | refine call_d (c6) rfl ?_ | refine call_sb (c6) rfl ?_ ?_ | refine call_s (c6) rfl rfl ?_ | refine call_b (c7) rfl ?_ ?_ | refine call_d (c7) rfl ?_ | refine call_sb (c7) rfl ?_ ?_ | refine call_s (c7) rfl rfl ?_ | refine call_b (c8) rfl ?_ ?_ | refine call_d (c8) rfl ?_ | refine call_sb (c8) rfl ?_ ?_ | refine call_s (c8) rfl rfl ?_ | refine call_b (c9) rfl ?_ ?_ | refine call_d (c9) rfl ?_ | refine call_sb (c9) rfl ?_ ?_ | refine call_s (c9) rfl rfl ?_ | refine call_b (cf) rfl ?_ ?_ | refine call_d (cf) rfl ?_ | refine call_sb (cf) rfl ?_ ?_ | refine call_s (cf) rfl rfl ?_) <;> try (simp -implicitDefEqProofs only [go_sem, hlW, hme])) | (((with_reducible refine vc_b ?_ ?_) <;> intro _) <;> try (simp -implicitDefEqProofs only [go_sem, hlW, hme])) | simp (disch := omega) only [wrapI, wrapU, shl1, shl1', shl1'', shrN, shrN', and_one] 
            all_goals first | rfl | (simp; done) | skip
        · have hrW := hfew r hO (by omega)
          rw [decide_eq_false hfo] at cf
          rw [hrW, decide_eq_true rfl] at ck
          rw [hrW] at c7
          rcases hme with ⟨hme, rfl⟩ | hme <;>
          · (try (simp -implicitDefEqProofs only [go_sem, hlW, hme])); repeat' first | with_reducible exact True.intro | with_reducible refine And.intro ?_ ?_ | with_reducible intro _ | (((with_reducible refine isCall ?_); first | refine call_b (c0) rfl ?_ ?_ | refine call_d (c0) rfl ?_ | refine call_sb (c0) rfl ?_ ?_ | refine call_s (c0) rfl rfl ?_ | refine call_b (c1) rfl ?_ ?_ | refine call_d (c1) rfl ?_ | refine call_sb (c1) rfl ?_ ?_ | refine call_s (c1) rfl rfl ?_ | refine call_b (c2) rfl ?_ ?_ | refine call_d (c2) rfl ?_ | refine call_sb (c2) rfl ?_ ?_ | refine call_s (c2) rfl rfl ?_ | refine call_b (c3) rfl ?_ ?_ | refine call_d (c3) rfl ?_ | refine call_sb (c3) rfl ?_ ?_ | refine call_s (c3) rfl rfl ?_ | refine call_b (c6) rfl ?_ ?_ | refine call_d (c6) rfl ?_ | refine call_sb (c6) rfl ?_ ?_ | refine call_s (c6) rfl rfl ?_ | refine call_b (c7) rfl ?_ ?_ | refine call_d (c7) rfl ?_ | refine call_sb (c7) rfl ?_ ?_ | refine call_s (c7) rfl rfl ?_ | refine call_b (c8) rfl ?_ ?_ | refine call_d (c8) rfl ?_ | refine call_sb (c8) rfl ?_ ?_ | refine call_s (c8) rfl rfl ?_ | refine call_b (c9) rfl ?_ ?_ | refine call_d (c9) rfl ?_ | refine call_sb (c9) rfl ?_ ?_ | refine call_s (c9) rfl rfl ?_ | refine call_b (cf) rfl ?_ ?_ | refine call_d (cf) rfl ?_ | refine call_sb (cf) rfl ?_ ?_ | refine call_s (cf) rfl rfl ?_ | refine call_b (ck) rfl ?_ ?_ | refine call_d (ck) rfl ?_ | refine call_sb (ck) rfl ?_ ?_ | refine call_s (ck) rfl rfl ?_) <;> try (simp -implicitDefEqProofs only [go_sem, hlW, hme])) | (((with_reducible refine vc_b ?_ ?_) <;> intro _) <;> try (simp -implicitDefEqProofs only [go_sem, hlW, hme])) | simp (disch := omega) only [wrapI, wrapU, shl1, shl1', shl1'', shrN, shrN', and_one] 
            all_goals first | rfl | (simp; done) | skip

/-- THE LAW OF SUMS. -/
theorem CorrectLinear_ret (L P : Int) (n1 n2 n3 : Bool) (d a m : List Int) (by_ : Int) : Ret E0 F_law05_CorrectLinear [.agg [.int .i64 L, .int .i64 P], .agg [.list n1 (ints d), .list n2 (ints a), .list n3 (ints m)], .int .i64 by_] (.bool true) := by
  have c0 := law05_works_ret
  have c1 := law05_ready_ret L P
  refine ret_of_pw dec_law05_CorrectLinear mixed (by simp) fun hwf => ?_
  rw [enter_eq]; unfold pc_law05_CorrectLinear
  cases hr : rdyB L P with
  | false =>
    rw [hr] at c1
    (try (simp -implicitDefEqProofs only [go_sem])); repeat' first | with_reducible exact True.intro | with_reducible refine And.intro ?_ ?_ | with_reducible intro _ | (((with_reducible refine isCall ?_); first | refine call_b (c0) rfl ?_ ?_ | refine call_d (c0) rfl ?_ | refine call_sb (c0) rfl ?_ ?_ | refine call_s (c0) rfl rfl ?_ | refine call_b (c1) rfl ?_ ?_ | refine call_d (c1) rfl ?_ | refine call_sb (c1) rfl ?_ ?_ | refine call_s (c1) rfl rfl ?_) <;> try (simp -implicitDefEqProofs only [go_sem])) | (((with_reducible refine vc_b ?_ ?_) <;> intro _) <;> try (simp -implicitDefEqProofs only [go_sem])) | simp (disch := omega) only [wrapI, wrapU, shl1, shl1', shl1'', shrN, shrN', and_one] | ((with_reducible refine isEx3 ?_); refine ⟨(_, _, _), rfl, ?_, ?_⟩) | ((with_reducible refine isEx ?_); refine ⟨_, rfl, ?_, ?_⟩)
    all_goals first | rfl | (simp; done) | skip
  | true =>
    rw [hr] at c1
    obtain ⟨hc, r1, r2⟩ := rdyB_of hr
    obtain ⟨l, p, rfl, rfl, b1, b2, b3, b4, b5⟩ := codOK_nat hc
    by_cases hby1 : by_ < 0
    · (try (simp -implicitDefEqProofs only [go_sem, hby1])); repeat' first | with_reducible exact True.intro | with_reducible refine And.intro ?_ ?_ | with_reducible intro _ | (((with_reducible refine isCall ?_); first | refine call_b (c0) rfl ?_ ?_ | refine call_d (c0) rfl ?_ | refine call_sb (c0) rfl ?_ ?_ | refine call_s (c0) rfl rfl ?_ | refine call_b (c1) rfl ?_ ?_ | refine call_d (c1) rfl ?_ | refine call_sb (c1) rfl ?_ ?_ | refine call_s (c1) rfl rfl ?_) <;> try (simp -implicitDefEqProofs only [go_sem, hby1])) | (((with_reducible refine vc_b ?_ ?_) <;> intro _) <;> try (simp -implicitDefEqProofs only [go_sem, hby1])) | simp (disch := omega) only [wrapI, wrapU, shl1, shl1', shl1'', shrN, shrN', and_one] | ((with_reducible refine isEx3 ?_); refine ⟨(_, _, _), rfl, ?_, ?_⟩) | ((with_reducible refine isEx ?_); refine ⟨_, rfl, ?_, ?_⟩)
      all_goals first | rfl | (simp; done) | skip
    by_cases hby2 : 15 < by_
    · (try (simp -implicitDefEqProofs only [go_sem, hby1, hby2])); repeat' first | with_reducible exact True.intro | with_reducible refine And.intro ?_ ?_ | with_reducible intro _ | (((with_reducible refine isCall ?_); first | refine call_b (c0) rfl ?_ ?_ | refine call_d (c0) rfl ?_ | refine call_sb (c0) rfl ?_ ?_ | refine call_s (c0) rfl rfl ?_ | refine call_b (c1) rfl ?_ ?_ | refine call_d (c1) rfl ?_ | refine call_sb (c1) rfl ?_ ?_ | refine call_s (c1) rfl rfl ?_) <;> try (simp -implicitDefEqProofs only [go_sem, hby1, hby2])) | (((with_reducible refine vc_b ?_ ?_) <;> intro _) <;> try (simp -implicitDefEqProofs only [go_sem, hby1, hby2])) | simp (disch := omega) only [wrapI, wrapU, shl1, shl1', shl1'', shrN, shrN', and_one] | ((with_reducible refine isEx3 ?_); refine ⟨(_, _, _), rfl, ?_, ?_⟩) | ((with_reducible refine isEx ?_); refine ⟨_, rfl, ?_, ?_⟩)
      all_goals first | rfl | (simp; done) | skip
    have hwlp : IntKind.i64.wrap ((l : Int) - (p : Int)) = (l : Int) - (p : Int) := wrapI _ (by omega)
    have c2 := ref05_AreSymbols_ret n1 d ((l : Int) - (p : Int))
    have c3 := ref05_AreSymbols_ret n2 a ((l : Int) - (p : Int))
    cases hs1 : symsB d ((l : Int) - (p : Int)) with
    | false =>
      rw [hs1] at c2
      (try (simp -implicitDefEqProofs only [go_sem, hby1, hby2, hwlp])); repeat' first | with_reducible exact True.intro | with_reducible refine And.intro ?_ ?_ | with_reducible intro _ | (((with_reducible refine isCall ?_); first | refine call_b (c0) rfl ?_ ?_ | refine call_d (c0) rfl ?_ | refine call_sb (c0) rfl ?_ ?_ | refine call_s (c0) rfl rfl ?_ | refine call_b (c1) rfl ?_ ?_ | refine call_d (c1) rfl ?_ | refine call_sb (c1) rfl ?_ ?_ | refine call_s (c1) rfl rfl ?_ | refine call_b (c2) rfl ?_ ?_ | refine call_d (c2) rfl ?_ | refine call_sb (c2) rfl ?_ ?_ | refine call_s (c2) rfl rfl ?_) <;> try (simp -implicitDefEqProofs only [go_sem, hby1, hby2, hwlp])) | (((with_reducible refine vc_b ?_ ?_) <;> intro _) <;> try (simp -implicitDefEqProofs only [go_sem, hby1, hby2, hwlp])) | simp (disch := omega) only [wrapI, wrapU, shl1, shl1', shl1'', shrN, shrN', and_one] | ((with_reducible refine isEx3 ?_); refine ⟨(_, _, _), rfl, ?_, ?_⟩) | ((with_reducible refine isEx ?_); refine ⟨_, rfl, ?_, ?_⟩)
      all_goals first | rfl | (simp; done) | skip
    | true =>
      rw [hs1] at c2
      cases hs2 : symsB a ((l : Int) - (p : Int)) with
      | false =>
        rw [hs2] at c3
        (try (simp -implicitDefEqProofs only [go_sem, hby1, hby2, hwlp])); repeat' first | with_reducible exact True.intro | with_reducible refine And.intro ?_ ?_ | with_reducible intro _ | (((with_reducible refine isCall ?_); first | refine call_b (c0) rfl ?_ ?_ | refine call_d (c0) rfl ?_ | refine call_sb (c0) rfl ?_ ?_ | refine call_s (c0) rfl rfl ?_ | refine call_b (c1) rfl ?_ ?_ | refine call_d (c1) rfl ?_ | refine call_sb (c1) rfl ?_ ?_ | refine call_s (c1) rfl rfl ?_ | refine call_b (c2) rfl ?_ ?_ | refine call_d (c2) rfl ?_ | refine call_sb (c2) rfl ?_ ?_ | refine call_s (c2) rfl rfl ?_ | refine call_b (c3) rfl ?_ ?_ | refine call_d (c3) rfl ?_ | refine call_sb (c3) rfl ?_ ?_ | refine call_s (c3) rfl rfl ?_) <;> try (simp -implicitDefEqProofs only [go_sem, hby1, hby2, hwlp])) | (((with_reducible refine vc_b ?_ ?_) <;> intro _) <;> try (simp -implicitDefEqProofs only [go_sem, hby1, hby2, hwlp])) | simp (disch := omega) only [wrapI, wrapU, shl1, shl1', shl1'', shrN, shrN', and_one] | ((with_reducible refine isEx3 ?_); refine ⟨(_, _, _), rfl, ?_, ?_⟩) | ((with_reducible refine isEx ?_); refine ⟨_, rfl, ?_, ?_⟩)
        all_goals first | rfl | (simp; done) | skip
      | true =>
        rw [hs2] at c3
        obtain ⟨y, hy⟩ : ∃ y : F, by_ = (y.val : Int) := ⟨⟨by_.toNat, by omega⟩, by simp; omega⟩
        subst hy
        obtain ⟨q1, q2⟩ := symsB_of hs1
        obtain ⟨q3, q4⟩ := symsB_of hs2
        have hdl := fs_len d
        have hal := fs_len a
        obtain ⟨u, hu⟩ : ∃ u, fs d = u := ⟨_, rfl⟩
        obtain ⟨v, hv⟩ : ∃ v, fs a = v := ⟨_, rfl⟩
        rw [hu] at q2 hdl
        rw [hv] at q4 hal
        subst q2 q4
        have hul : u.length + p = l := by omega
        have hvl : v.length = u.length := by omega
        have hNl := nzy_len (w := u) (a := v) (by omega)
        have hSl := sclR_len u y
        (try (simp -implicitDefEqProofs only [go_sem, hby1, hby2, hwlp])); repeat' first | with_reducible exact True.intro | with_reducible refine And.intro ?_ ?_ | with_reducible intro _ | (((with_reducible refine isCall ?_); first | refine call_b (c1) rfl ?_ ?_ | refine call_d (c1) rfl ?_ | refine call_sb (c1) rfl ?_ ?_ | refine call_s (c1) rfl rfl ?_ | refine call_b (c2) rfl ?_ ?_ | refine call_d (c2) rfl ?_ | refine call_sb (c2) rfl ?_ ?_ | refine call_s (c2) rfl rfl ?_ | refine call_b (c3) rfl ?_ ?_ | refine call_d (c3) rfl ?_ | refine call_sb (c3) rfl ?_ ?_ | refine call_s (c3) rfl rfl ?_) <;> try (simp -implicitDefEqProofs only [go_sem, hby1, hby2, hwlp])) | (((with_reducible refine vc_b ?_ ?_) <;> intro _) <;> try (simp -implicitDefEqProofs only [go_sem, hby1, hby2, hwlp])) | simp (disch := omega) only [wrapI, wrapU, shl1, shl1', shl1'', shrN, shrN', and_one] | ((with_reducible refine isEx3 ?_); refine ⟨(_, _, _), rfl, ?_, ?_⟩) | ((with_reducible refine isEx ?_); refine ⟨_, rfl, ?_, ?_⟩)
        all_goals first | omega | (simp; done) | (simp; omega) | skip
        refine pw_loopS (α := Nat × Bool × Bool) (l0 := ?l2) (m0 := ?m2) (fun x => [(9, .d (.int .i64 (x.1 : Int)))]) (fun x => [(73, .row 3 1 x.2.1 (ints (iv ((nzy u v).take x.1)))), (83, .row 3 1 x.2.2 (ints (iv ((sclR u y).take x.1))))]) (fun x => x.1 ≤ u.length ∧ x.2.1 = decide (x.1 = 0) ∧ x.2.2 = decide (x.1 = 0)) (fun x => u.length - x.1) (0, true, true) ?h02 ?he2 ?he22 ?hI2 ?step2
        case h02 => (simp -implicitDefEqProofs only [go_sem]; rfl)
        case he2 => rfl
        case he22 => rfl
        case' step2 => (rintro ⟨i, b, e⟩ hI; try dsimp only at hI)
        case' hI2 => try dsimp only
        · exact ⟨Nat.zero_le _, rfl, rfl⟩
        · obtain ⟨h1, hb, he⟩ := hI
          change b = decide (i = 0) at hb
          change e = decide (i = 0) at he
          subst hb he
          by_cases h : i < u.length
          · have h' : (i : Int) < (u.length : Int) := by omega
            have hwi : IntKind.i64.wrap ((i : Int) + 1) = ((i + 1 : Nat) : Int) := by rw [wrapI _ (by omega)]; omega
            have hiv : i < v.length := by omega
            have hk1 : (nzy u v).take i ++ [fa (u[i]?.getD 0) (v[i]?.getD 0)] = (nzy u v).take (i + 1) := by
              rw [← nzy_get (by omega) i h, take_succ_getD _ 0 i (by omega)]
            have hk2 : (sclR u y).take i ++ [fm (u[i]?.getD 0) y] = (sclR u y).take (i + 1) := by
              rw [← sclR_get, take_succ_getD _ 0 i (by omega)]
            have c4 := ref05_Times_ret (u[i]?.getD 0) y
            (try (simp -implicitDefEqProofs only [go_sem, h', hwi, hiv, hk1, hk2])); repeat' first | with_reducible exact True.intro | with_reducible refine And.intro ?_ ?_ | with_reducible intro _ | (((with_reducible refine isCall ?_); first | refine call_b (c4) rfl ?_ ?_ | refine call_d (c4) rfl ?_ | refine call_sb (c4) rfl ?_ ?_ | refine call_s (c4) rfl rfl ?_) <;> try (simp -implicitDefEqProofs only [go_sem, h', hwi, hiv, hk1, hk2])) | (((with_reducible refine vc_b ?_ ?_) <;> intro _) <;> try (simp -implicitDefEqProofs only [go_sem, h', hwi, hiv, hk1, hk2])) | simp (disch := omega) only [wrapI, wrapU, shl1, shl1', shl1'', shrN, shrN', and_one] | ((with_reducible refine isEx3 ?_); refine ⟨(_, _, _), rfl, ?_, ?_⟩) | ((with_reducible refine isEx ?_); refine ⟨_, rfl, ?_, ?_⟩)
            all_goals first | omega | (simp; done) | (simp; omega) | skip
            all_goals first | rfl | (simp; done) | skip
          · have h' : ¬ (i : Int) < (u.length : Int) := by omega
            have hie : i = u.length := by omega
            have hi0 : decide (i = 0) = false := decide_eq_false (by omega)
            have hf1 : (nzy u v).take i = nzy u v := List.take_of_length_le (by omega)
            have hf2 : (sclR u y).take i = sclR u y := List.take_of_length_le (by omega)
            rw [hi0, hf1, hf2]
            have c5 := Encode_in (l := l) (p := p) n1 hc hul
            have c6 := Encode_in (l := l) (p := p) (d := v) n2 hc (by omega)
            have c7 := Encode_in (l := l) (p := p) (d := nzy u v) false hc (by omega)
            have c8 := Encode_in (l := l) (p := p) (d := sclR u y) false hc (by omega)
            have hlA := encS_len p u
            have hlB := encS_len p v
            rw [enc_sum (by omega) hul (by omega)] at c7
            rw [enc_scl (by omega) y hul] at c8
            obtain ⟨A, hA⟩ : ∃ A, encS p u = A := ⟨_, rfl⟩
            obtain ⟨B, hB⟩ : ∃ B, encS p v = B := ⟨_, rfl⟩
            rw [hA] at c5 c7 c8 hlA
            rw [hB] at c6 c7 hlB
            have hAB : A.length = B.length := by omega
            have hlN := nzy_len hAB
            have hlS := sclR_len A y
            have e1 : (A.length : Int) = (l : Int) := by omega
            have e2 : (B.length : Int) = (l : Int) := by omega
            have e3 : ((nzy A B).length : Int) = (l : Int) := by omega
            have e4 : ((sclR A y).length : Int) = (l : Int) := by omega
            (try (simp -implicitDefEqProofs only [go_sem, h', e1, e2, e3, e4])); repeat' first | with_reducible exact True.intro | with_reducible refine And.intro ?_ ?_ | with_reducible intro _ | (((with_reducible refine isCall ?_); first | refine call_b (c5) rfl ?_ ?_ | refine call_d (c5) rfl ?_ | refine call_sb (c5) rfl ?_ ?_ | refine call_s (c5) rfl rfl ?_ | refine call_b (c6) rfl ?_ ?_ | refine call_d (c6) rfl ?_ | refine call_sb (c6) rfl ?_ ?_ | refine call_s (c6) rfl rfl ?_ | refine call_b (c7) rfl ?_ ?_ | refine call_d (c7) rfl ?_ | refine call_sb (c7) rfl ?_ ?_ | refine call_s (c7) rfl rfl ?_ | refine call_b (c8) rfl ?_ ?_ | refine call_d (c8) rfl ?_ | refine call_sb (c8) rfl ?_ ?_ | refine call_s (c8) rfl rfl ?_) <;> try (simp -implicitDefEqProofs only [go_sem, h', e1, e2, e3, e4])) | (((with_reducible refine vc_b ?_ ?_) <;> intro _) <;> try (simp -implicitDefEqProofs only [go_sem, h', e1, e2, e3, e4])) | simp (disch := omega) only [wrapI, wrapU, shl1, shl1', shl1'', shrN, shrN', and_one] | ((with_reducible refine isEx3 ?_); refine ⟨(_, _, _), rfl, ?_, ?_⟩) | ((with_reducible refine isEx ?_); refine ⟨_, rfl, ?_, ?_⟩)
            all_goals first | omega | (simp; done) | (simp; omega) | skip
            refine pw_loopS (α := Nat) (l0 := ?l3) (m0 := ?m3) (fun x => [(18, .d (.int .i64 (x : Int)))]) (fun x => []) (fun x => x ≤ l) (fun x => l - x) 0 ?h03 ?he3 ?he23 ?hI3 ?step3
            case h03 => (simp -implicitDefEqProofs only [go_sem]; rfl)
            case he3 => rfl
            case he23 => rfl
            case' step3 => (rintro j hI2; try dsimp only at hI2)
            case' hI3 => try dsimp only
            · exact Nat.zero_le _
            · by_cases hj : j < l
              · have hj' : (j : Int) < (l : Int) := by omega
                have hwj : IntKind.i64.wrap ((j : Int) + 1) = ((j + 1 : Nat) : Int) := by rw [wrapI _ (by omega)]; omega
                have j1 : j < A.length := by omega
                have j2 : j < B.length := by omega
                have j3 : j < (nzy A B).length := by omega
                have j4 : j < (sclR A y).length := by omega
                have g1 := nzy_get hAB j j1
                have g2 := sclR_get A y j
                have c9 := ref05_Times_ret (A[j]?.getD 0) y
                (try (simp -implicitDefEqProofs only [go_sem, hj', hwj, j1, j2, j3, j4, g1, g2])); repeat' first | with_reducible exact True.intro | with_reducible refine And.intro ?_ ?_ | with_reducible intro _ | (((with_reducible refine isCall ?_); first | refine call_b (c9) rfl ?_ ?_ | refine call_d (c9) rfl ?_ | refine call_sb (c9) rfl ?_ ?_ | refine call_s (c9) rfl rfl ?_) <;> try (simp -implicitDefEqProofs only [go_sem, hj', hwj, j1, j2, j3, j4, g1, g2])) | (((with_reducible refine vc_b ?_ ?_) <;> intro _) <;> try (simp -implicitDefEqProofs only [go_sem, hj', hwj, j1, j2, j3, j4, g1, g2])) | simp (disch := omega) only [wrapI, wrapU, shl1, shl1', shl1'', shrN, shrN', and_one] | ((with_reducible refine isEx3 ?_); refine ⟨(_, _, _), rfl, ?_, ?_⟩) | ((with_reducible refine isEx ?_); refine ⟨_, rfl, ?_, ?_⟩)
                all_goals first | omega | (simp; done) | (simp; omega) | skip
                all_goals first | rfl | skip
              · have hj' : ¬ (j : Int) < (l : Int) := by omega
                (try (simp -implicitDefEqProofs only [go_sem, hj'])); repeat' first | with_reducible exact True.intro | with_reducible refine And.intro ?_ ?_ | with_reducible intro _ | (((with_reducible refine isCall ?_); first | refine call_b (c0) rfl ?_ ?_ | refine call_d (c0) rfl ?_ | refine call_sb (c0) rfl ?_ ?_ | refine call_s (c0) rfl rfl ?_) <;> try (simp -implicitDefEqProofs only [go_sem, hj'])) | (((with_reducible refine vc_b ?_ ?_) <;> intro _) <;> try (simp -implicitDefEqProofs only [go_sem, hj'])) | simp (disch := omega) only [wrapI, wrapU, shl1, shl1', shl1'', shrN, shrN', and_one] | ((with_reducible refine isEx3 ?_); refine ⟨(_, _, _), rfl, ?_, ?_⟩) | ((with_reducible refine isEx ?_); refine ⟨_, rfl, ?_, ?_⟩)
                all_goals first | omega | (simp; done) | (simp; omega) | skip
                all_goals first | rfl | (simp; done) | skip
end Go.Pw
