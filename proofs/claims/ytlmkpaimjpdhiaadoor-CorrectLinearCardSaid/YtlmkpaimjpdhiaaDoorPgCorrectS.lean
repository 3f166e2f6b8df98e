/- A part of the proof. -/
import Derived.Test.YtlmkpaimjpdhiaaDoorPgCorrectQ
set_option linter.all false
section
open Go Go.Pw Go.Proofs
namespace Go.Pw
set_option linter.unusedSimpArgs false
set_option linter.unusedVariables false
set_option maxRecDepth 100000
set_option maxHeartbeats 3200000
def codB (L P : Nat) (w : List F) : Bool := (List.range P).all fun i => decide (dot w (cof L i) = 0)
theorem codB_no {L P i : Nat} {w : List F} (hi : i < P) (h : dot w (cof L i) ≠ 0) : codB L P w = false := by
  cases hc : codB L P w with
  | false => rfl
  | true =>
    have := (List.all_eq_true.1 hc) i (by simpa using hi)
    exact absurd (by simpa using this) h
theorem codB_yes {L P : Nat} {w : List F} (h : ∀ i, i < P → dot w (cof L i) = 0) : codB L P w = true := by
  unfold codB
  rw [List.all_eq_true]
  intro i hi
  simpa using h i (by simpa using hi)
theorem codB_of {L P : Nat} {w : List F} (h : Cod L P w) : codB L P w = true := codB_yes fun i hi => by
  have := h i hi
  rwa [show at0 (synd L P w) i = dot w (cof L i) from synd_get _ _ _ _ hi] at this
def rdyB (L P : Int) : Bool := codOK L P && (decide (L ≤ 10) && decide (P ≤ 6))
theorem rdyB_of {L P : Int} (h : rdyB L P = true) : codOK L P = true ∧ L ≤ 10 ∧ P ≤ 6 := by simpa [rdyB] using h
def noiB (L P : Int) (d a m : List Int) : Bool := decide (m.length ≤ 30) && (symsB d (L - P) && (symsB a L && marksB m L))
theorem noiB_of {L P : Int} {d a m : List Int} (h : noiB L P d a m = true) : m.length ≤ 30 ∧ symsB d (L - P) = true ∧ symsB a L = true ∧ marksB m L = true := by simpa [noiB] using h
def nzy (w a : List F) : List F := List.zipWith fa w a
theorem nzy_len {w a : List F} (h : w.length = a.length) : (nzy w a).length = w.length := by simp [nzy, h]
theorem nzy_get {w a : List F} (h : w.length = a.length) (i : Nat) (hi : i < w.length) : (nzy w a)[i]?.getD 0 = fa (w[i]?.getD 0) (a[i]?.getD 0) := by
  unfold nzy
  rw [List.getElem?_zipWith, List.getElem?_eq_getElem hi, List.getElem?_eq_getElem (by omega)]; rfl
/-- At so many positions from one on two lists differ. -/
def apS (a b m : List Int) (n : Nat) : List Nat := (List.range n).filter fun i => decide (a[i]?.getD 0 ≠ b[i]?.getD 0) && !inB m i
theorem apS_t {a b m : List Int} {n : Nat} (h : a[n]?.getD 0 ≠ b[n]?.getD 0) (h2 : inB m n = false) : (apS a b m (n + 1)).length = (apS a b m n).length + 1 := by
  unfold apS; rw [List.range_succ, List.filter_append]; simp [h, h2]
theorem apS_f1 {a b m : List Int} {n : Nat} (h : a[n]?.getD 0 = b[n]?.getD 0) : (apS a b m (n + 1)).length = (apS a b m n).length := by
  unfold apS; rw [List.range_succ, List.filter_append]; simp [h]
theorem apS_f2 {a b m : List Int} {n : Nat} (h2 : inB m n = true) : (apS a b m (n + 1)).length = (apS a b m n).length := by
  unfold apS; rw [List.range_succ, List.filter_append]; simp [h2]
theorem apS_le (a b m : List Int) (n : Nat) : (apS a b m n).length ≤ n := by
  have := List.length_filter_le (fun i : Nat => decide (a[i]?.getD 0 ≠ b[i]?.getD 0) && !inB m i) (List.range n)
  simpa [apS] using this
theorem apS_dif (L : Nat) (a b : List F) (mk : List Nat) : apS (iv a) (iv b) (ni mk) L = dif L a b mk := by
  unfold apS dif
  congr 1
  funext i
  rw [iv_get, iv_get, inB_ni]
  congr 1
  rw [Bool.eq_iff_iff]
  simp only [ne_eq, decide_eq_true_eq, val_eq]
theorem emp_len {α β : Type} {a : List α} {b : List β} (h : a.length = b.length) : a.isEmpty = b.isEmpty := by
  cases a <;> cases b <;> simp_all
attribute [local congr] cg_pw cg_seqI cg_seqE cg_stepI cg_ev cg_evBin cg_condB cg_condV cg_thenQ cg_blockQ cg_onSome cg_onCells cg_onRow cg_onRow2 cg_onMtx cg_frmV cg_fraV cg_frcV cg_frcO cg_frcX cg_fraO cg_owmV cg_ghosts cg_ghost cg_evCall cg_part cg_rng cg_guardV cg_frzV cg_frpV cg_ownV cg_resK cg_res1
attribute [local irreducible] IntKind.wrap bitsOp Option.getD and or

theorem law05_Far_ret (L P : Int) : Ret E0 F_law05_Far [.agg [.int .i64 L, .int .i64 P]] (.bool (codOK L P && (decide (10 < L) || decide (6 < P)))) := by
  have c1 := ref05_Check_ret L P
  refine ret_of_pw dec_law05_Far mixed (by simp) fun hwf => ?_
  rw [enter_eq]; unfold pc_law05_Far
  cases hc : codOK L P with
  | false =>
    rw [hc] at c1
    simp only [Bool.false_eq_true, if_false] at c1
    (try (simp -implicitDefEqProofs only [go_sem])); repeat' first | with_reducible exact True.intro | with_reducible refine And.intro ?_ ?_ | with_reducible intro _ | (((with_reducible refine isCall ?_); first | refine call_b (c1) rfl ?_ ?_ | refine call_d (c1) rfl ?_ | refine call_sb (c1) rfl ?_ ?_ | refine call_s (c1) rfl rfl ?_) <;> try (simp -implicitDefEqProofs only [go_sem])) | (((with_reducible refine vc_b ?_ ?_) <;> intro _) <;> try (simp -implicitDefEqProofs only [go_sem])) | simp (disch := omega) only [wrapI, wrapU, shl1, shl1', shl1'', shrN, shrN', and_one] 
    all_goals first | rfl | (simp; done) | skip
  | true =>
    rw [hc] at c1
    simp only [if_true] at c1
    by_cases h1 : 10 < L
    · (try (simp -implicitDefEqProofs only [go_sem, h1])); repeat' first | with_reducible exact True.intro | with_reducible refine And.intro ?_ ?_ | with_reducible intro _ | (((with_reducible refine isCall ?_); first | refine call_b (c1) rfl ?_ ?_ | refine call_d (c1) rfl ?_ | refine call_sb (c1) rfl ?_ ?_ | refine call_s (c1) rfl rfl ?_) <;> try (simp -implicitDefEqProofs only [go_sem, h1])) | (((with_reducible refine vc_b ?_ ?_) <;> intro _) <;> try (simp -implicitDefEqProofs only [go_sem, h1])) | simp (disch := omega) only [wrapI, wrapU, shl1, shl1', shl1'', shrN, shrN', and_one] 
      all_goals first | rfl | (simp [h1]; done) | skip
    · by_cases h2 : 6 < P
      · (try (simp -implicitDefEqProofs only [go_sem, h1, h2])); repeat' first | with_reducible exact True.intro | with_reducible refine And.intro ?_ ?_ | with_reducible intro _ | (((with_reducible refine isCall ?_); first | refine call_b (c1) rfl ?_ ?_ | refine call_d (c1) rfl ?_ | refine call_sb (c1) rfl ?_ ?_ | refine call_s (c1) rfl rfl ?_) <;> try (simp -implicitDefEqProofs only [go_sem, h1, h2])) | (((with_reducible refine vc_b ?_ ?_) <;> intro _) <;> try (simp -implicitDefEqProofs only [go_sem, h1, h2])) | simp (disch := omega) only [wrapI, wrapU, shl1, shl1', shl1'', shrN, shrN', and_one] 
        all_goals first | rfl | (simp [h1, h2]; done) | skip
      · (try (simp -implicitDefEqProofs only [go_sem, h1, h2])); repeat' first | with_reducible exact True.intro | with_reducible refine And.intro ?_ ?_ | with_reducible intro _ | (((with_reducible refine isCall ?_); first | refine call_b (c1) rfl ?_ ?_ | refine call_d (c1) rfl ?_ | refine call_sb (c1) rfl ?_ ?_ | refine call_s (c1) rfl rfl ?_) <;> try (simp -implicitDefEqProofs only [go_sem, h1, h2])) | (((with_reducible refine vc_b ?_ ?_) <;> intro _) <;> try (simp -implicitDefEqProofs only [go_sem, h1, h2])) | simp (disch := omega) only [wrapI, wrapU, shl1, shl1', shl1'', shrN, shrN', and_one] 
        all_goals first | rfl | (simp [h1, h2]; done) | skip
theorem law05_ready_ret (L P : Int) : Ret E0 F_law05_ready [.agg [.int .i64 L, .int .i64 P]] (.bool (rdyB L P)) := by
  have c1 := ref05_Check_ret L P
  have c2 := law05_Far_ret L P
  refine ret_of_pw dec_law05_ready mixed (by simp) fun hwf => ?_
  rw [enter_eq]; unfold pc_law05_ready rdyB
  cases hc : codOK L P with
  | false =>
    rw [hc] at c1 c2
    simp only [Bool.false_eq_true, if_false, Bool.false_and] at c1 c2 ⊢
    (try (simp -implicitDefEqProofs only [go_sem])); repeat' first | with_reducible exact True.intro | with_reducible refine And.intro ?_ ?_ | with_reducible intro _ | (((with_reducible refine isCall ?_); first | refine call_b (c1) rfl ?_ ?_ | refine call_d (c1) rfl ?_ | refine call_sb (c1) rfl ?_ ?_ | refine call_s (c1) rfl rfl ?_ | refine call_b (c2) rfl ?_ ?_ | refine call_d (c2) rfl ?_ | refine call_sb (c2) rfl ?_ ?_ | refine call_s (c2) rfl rfl ?_) <;> try (simp -implicitDefEqProofs only [go_sem])) | (((with_reducible refine vc_b ?_ ?_) <;> intro _) <;> try (simp -implicitDefEqProofs only [go_sem])) | simp (disch := omega) only [wrapI, wrapU, shl1, shl1', shl1'', shrN, shrN', and_one] 
    all_goals first | rfl | (simp; done) | skip
  | true =>
    rw [hc] at c1 c2
    simp only [if_true, Bool.true_and] at c1 c2 ⊢
    by_cases h1 : L ≤ 10
    · by_cases h2 : P ≤ 6
      · rw [decide_eq_false (show ¬ 10 < L by omega), decide_eq_false (show ¬ 6 < P by omega), Bool.or_false] at c2
        rw [decide_eq_true h1, decide_eq_true h2]
        (try (simp -implicitDefEqProofs only [go_sem])); repeat' first | with_reducible exact True.intro | with_reducible refine And.intro ?_ ?_ | with_reducible intro _ | (((with_reducible refine isCall ?_); first | refine call_b (c1) rfl ?_ ?_ | refine call_d (c1) rfl ?_ | refine call_sb (c1) rfl ?_ ?_ | refine call_s (c1) rfl rfl ?_ | refine call_b (c2) rfl ?_ ?_ | refine call_d (c2) rfl ?_ | refine call_sb (c2) rfl ?_ ?_ | refine call_s (c2) rfl rfl ?_) <;> try (simp -implicitDefEqProofs only [go_sem])) | (((with_reducible refine vc_b ?_ ?_) <;> intro _) <;> try (simp -implicitDefEqProofs only [go_sem])) | simp (disch := omega) only [wrapI, wrapU, shl1, shl1', shl1'', shrN, shrN', and_one] 
        all_goals first | rfl | (simp; done) | skip
      · rw [decide_eq_true (show 6 < P by omega), Bool.or_true] at c2
        rw [decide_eq_false h2, Bool.and_false]
        (try (simp -implicitDefEqProofs only [go_sem])); repeat' first | with_reducible exact True.intro | with_reducible refine And.intro ?_ ?_ | with_reducible intro _ | (((with_reducible refine isCall ?_); first | refine call_b (c1) rfl ?_ ?_ | refine call_d (c1) rfl ?_ | refine call_sb (c1) rfl ?_ ?_ | refine call_s (c1) rfl rfl ?_ | refine call_b (c2) rfl ?_ ?_ | refine call_d (c2) rfl ?_ | refine call_sb (c2) rfl ?_ ?_ | refine call_s (c2) rfl rfl ?_) <;> try (simp -implicitDefEqProofs only [go_sem])) | (((with_reducible refine vc_b ?_ ?_) <;> intro _) <;> try (simp -implicitDefEqProofs only [go_sem])) | simp (disch := omega) only [wrapI, wrapU, shl1, shl1', shl1'', shrN, shrN', and_one] 
        all_goals first | rfl | (simp; done) | skip
    · rw [decide_eq_true (show 10 < L by omega), Bool.true_or] at c2
      rw [decide_eq_false h1, Bool.false_and]
      (try (simp -implicitDefEqProofs only [go_sem])); repeat' first | with_reducible exact True.intro | with_reducible refine And.intro ?_ ?_ | with_reducible intro _ | (((with_reducible refine isCall ?_); first | refine call_b (c1) rfl ?_ ?_ | refine call_d (c1) rfl ?_ | refine call_sb (c1) rfl ?_ ?_ | refine call_s (c1) rfl rfl ?_ | refine call_b (c2) rfl ?_ ?_ | refine call_d (c2) rfl ?_ | refine call_sb (c2) rfl ?_ ?_ | refine call_s (c2) rfl rfl ?_) <;> try (simp -implicitDefEqProofs only [go_sem])) | (((with_reducible refine vc_b ?_ ?_) <;> intro _) <;> try (simp -implicitDefEqProofs only [go_sem])) | simp (disch := omega) only [wrapI, wrapU, shl1, shl1', shl1'', shrN, shrN', and_one] 
      all_goals first | rfl | (simp; done) | skip
theorem law05_isNoise_ret (L P : Int) (n1 n2 n3 : Bool) (d a m : List Int) (h : codOK L P = true) : Ret E0 F_law05_isNoise [.agg [.int .i64 L, .int .i64 P], .agg [.list n1 (ints d), .list n2 (ints a), .list n3 (ints m)]] (.bool (noiB L P d a m)) := by
  have hb := codOK_of h
  have c1 := ref05_AreSymbols_ret n1 d (L - P)
  have c2 := ref05_AreSymbols_ret n2 a L
  have c3 := ref05_AreMarks_ret n3 m L (by omega)
  have hw : IntKind.i64.wrap (L - P) = L - P := wrapI _ (by omega)
  refine ret_of_pw dec_law05_isNoise mixed (by simp) fun hwf => ?_
  rw [enter_eq]; unfold pc_law05_isNoise noiB
  by_cases h1 : (m.length : Int) ≤ 30
  · rw [decide_eq_true (show m.length ≤ 30 by omega), Bool.true_and]
    obtain ⟨x1, hx1⟩ : ∃ x1, symsB d (L - P) = x1 := ⟨_, rfl⟩
    obtain ⟨x2, hx2⟩ : ∃ x2, symsB a L = x2 := ⟨_, rfl⟩
    obtain ⟨x3, hx3⟩ : ∃ x3, marksB m L = x3 := ⟨_, rfl⟩
    rw [hx1] at c1 ⊢
    rw [hx2] at c2 ⊢
    rw [hx3] at c3 ⊢
    cases x1 <;> cases x2 <;> cases x3 <;>
    · (try (simp -implicitDefEqProofs only [go_sem, h1, hw])); repeat' first | with_reducible exact True.intro | with_reducible refine And.intro ?_ ?_ | with_reducible intro _ | (((with_reducible refine isCall ?_); first | refine call_b (c1) rfl ?_ ?_ | refine call_d (c1) rfl ?_ | refine call_sb (c1) rfl ?_ ?_ | refine call_s (c1) rfl rfl ?_ | refine call_b (c2) rfl ?_ ?_ | refine call_d (c2) rfl ?_ | refine call_sb (c2) rfl ?_ ?_ | refine call_s (c2) rfl rfl ?_ | refine call_b (c3) rfl ?_ ?_ | refine call_d (c3) rfl ?_ | refine call_sb (c3) rfl ?_ ?_ | refine call_s (c3) rfl rfl ?_) <;> try (simp -implicitDefEqProofs only [go_sem, h1, hw])) | (((with_reducible refine vc_b ?_ ?_) <;> intro _) <;> try (simp -implicitDefEqProofs only [go_sem, h1, hw])) | simp (disch := omega) only [wrapI, wrapU, shl1, shl1', shl1'', shrN, shrN', and_one] 
      all_goals first | rfl | (simp; done) | skip
  · rw [decide_eq_false (show ¬ m.length ≤ 30 by omega), Bool.false_and]
    (try (simp -implicitDefEqProofs only [go_sem, h1])); repeat' first | with_reducible exact True.intro | with_reducible refine And.intro ?_ ?_ | with_reducible intro _ | (((with_reducible refine vc_b ?_ ?_) <;> intro _) <;> try (simp -implicitDefEqProofs only [go_sem, h1])) | simp (disch := omega) only [wrapI, wrapU, shl1, shl1', shl1'', shrN, shrN', and_one] 
    all_goals first | rfl | (simp; done) | skip
theorem law05_noisy_ret (n1 n2 : Bool) (w a : List F) (hl : w.length = a.length) (hlen : w.length ≤ 1000) : Ret E0 F_law05_noisy [.list n1 (ints (iv w)), .list n2 (ints (iv a))] (.list w.isEmpty (ints (iv (nzy w a)))) := by
  have hN := nzy_len hl
  refine ret_of_pw dec_law05_noisy mixed (by simp) fun hwf => ?_
  rw [enter_eq]; unfold pc_law05_noisy
  (try (simp -implicitDefEqProofs only [go_sem])); repeat' first | with_reducible exact True.intro | with_reducible refine And.intro ?_ ?_ | with_reducible intro _ | (((with_reducible refine vc_b ?_ ?_) <;> intro _) <;> try (simp -implicitDefEqProofs only [go_sem])) | simp (disch := omega) only [wrapI, wrapU, shl1, shl1', shl1'', shrN, shrN', and_one] | ((with_reducible refine isEx2 ?_); refine ⟨(_, _), rfl, ?_, ?_⟩)
  refine pw_loopS (α := Nat × Bool) (l0 := ?l1) (m0 := ?m1) (fun x => [(6, .d (.int .i64 (x.1 : Int)))]) (fun x => [(24, .row 3 1 x.2 (ints (iv ((nzy w a).take x.1))))]) (fun x => x.1 ≤ w.length ∧ x.2 = ((nzy w a).take x.1).isEmpty) (fun x => w.length - x.1) (0, true) ?h01 ?he1 ?he21 ?hI1 ?step1
  case h01 => (simp -implicitDefEqProofs only [go_sem]; rfl)
  case he1 => rfl
  case he21 => rfl
  case' step1 => (rintro ⟨i, b⟩ hI; try dsimp only at hI)
  case' hI1 => try dsimp only
  · exact ⟨Nat.zero_le _, rfl⟩
  · obtain ⟨h1, h2⟩ := hI
    by_cases h : i < w.length
    · have h' : (i : Int) < (w.length : Int) := by omega
      have hw : IntKind.i64.wrap ((i : Int) + 1) = ((i + 1 : Nat) : Int) := by rw [wrapI _ (by omega)]; omega
      have ha : i < a.length := by omega
      have hk : (nzy w a).take i ++ [fa (w[i]?.getD 0) (a[i]?.getD 0)] = (nzy w a).take (i + 1) := by
        rw [← nzy_get hl i h, take_succ_getD _ 0 i (by omega)]
      have he : ((nzy w a).take (i + 1)).isEmpty = false := by rw [← hk]; exact emp_snoc _ _
      (try (simp -implicitDefEqProofs only [go_sem, h', hw, ha, hk])); repeat' first | with_reducible exact True.intro | with_reducible refine And.intro ?_ ?_ | with_reducible intro _ | (((with_reducible refine vc_b ?_ ?_) <;> intro _) <;> try (simp -implicitDefEqProofs only [go_sem, h', hw, ha, hk])) | simp (disch := omega) only [wrapI, wrapU, shl1, shl1', shl1'', shrN, shrN', and_one] | ((with_reducible refine isEx2 ?_); refine ⟨(_, _), rfl, ?_, ?_⟩)
      all_goals first | omega | (simp; done) | (simp; omega) | skip
      all_goals first | rfl | exact he.symm | skip
    · have h' : ¬ (i : Int) < (w.length : Int) := by omega
      have hf : (nzy w a).take i = nzy w a := List.take_of_length_le (by omega)
      have hfe : (nzy w a).isEmpty = w.isEmpty := emp_len hN
      rw [hf] at h2
      subst h2
      rw [hf, hfe]
      (try (simp -implicitDefEqProofs only [go_sem, h'])); repeat' first | with_reducible exact True.intro | with_reducible refine And.intro ?_ ?_ | with_reducible intro _ | (((with_reducible refine vc_b ?_ ?_) <;> intro _) <;> try (simp -implicitDefEqProofs only [go_sem, h'])) | simp (disch := omega) only [wrapI, wrapU, shl1, shl1', shl1'', shrN, shrN', and_one] | ((with_reducible refine isEx2 ?_); refine ⟨(_, _), rfl, ?_, ?_⟩)
      all_goals first | omega | (simp; done) | (simp; omega) | skip
      all_goals first | rfl | skip
theorem ref05_Apart_ret (n1 n2 n3 : Bool) (a b m : List Int) (hl : a.length ≤ b.length) (hlen : a.length ≤ 1000000) : Ret E0 F_ref05_Apart [.list n1 (ints a), .list n2 (ints b), .list n3 (ints m)] (.int .i64 (apS a b m a.length).length) := by
  refine ret_of_pw dec_ref05_Apart mixed (by simp) fun hwf => ?_
  rw [enter_eq]; unfold pc_ref05_Apart
  (try (simp -implicitDefEqProofs only [go_sem])); repeat' first | with_reducible exact True.intro | with_reducible refine And.intro ?_ ?_ | with_reducible intro _ | (((with_reducible refine vc_b ?_ ?_) <;> intro _) <;> try (simp -implicitDefEqProofs only [go_sem])) | simp (disch := omega) only [wrapI, wrapU, shl1, shl1', shl1'', shrN, shrN', and_one] | ((with_reducible refine isEx ?_); refine ⟨_, rfl, ?_, ?_⟩)
  refine pw_loopS (α := Nat) (l0 := ?l2) (m0 := ?m2) (fun x => [(8, .d (.int .i64 (x : Int))), (7, .d (.int .i64 ((apS a b m x).length : Int)))]) (fun x => []) (fun x => x ≤ a.length) (fun x => a.length - x) 0 ?h02 ?he2 ?he22 ?hI2 ?step2
  case h02 => (simp -implicitDefEqProofs only [go_sem]; rfl)
  case he2 => rfl
  case he22 => rfl
  case' step2 => (rintro i hI; try dsimp only at hI)
  case' hI2 => try dsimp only
  · exact Nat.zero_le _
  · have hap := apS_le a b m i
    by_cases h : i < a.length
    · have h' : (i : Int) < (a.length : Int) := by omega
      have hw : IntKind.i64.wrap ((i : Int) + 1) = ((i + 1 : Nat) : Int) := by rw [wrapI _ (by omega)]; omega
      have hb : i < b.length := by omega
      have c1 := ref05_in_ret n3 m i
      by_cases he : a[i]?.getD 0 = b[i]?.getD 0
      · have hs := @apS_f1 a b m i he
        rw [← hs]
        (try (simp -implicitDefEqProofs only [go_sem, h', hw, hb, he])); repeat' first | with_reducible exact True.intro | with_reducible refine And.intro ?_ ?_ | with_reducible intro _ | (((with_reducible refine vc_b ?_ ?_) <;> intro _) <;> try (simp -implicitDefEqProofs only [go_sem, h', hw, hb, he])) | simp (disch := omega) only [wrapI, wrapU, shl1, shl1', shl1'', shrN, shrN', and_one] | ((with_reducible refine isEx ?_); refine ⟨_, rfl, ?_, ?_⟩)
        all_goals first | omega | (simp; done) | (simp; omega) | skip
        all_goals first | rfl | skip
      · cases hm : inB m i with
        | true =>
          rw [hm] at c1
          have hs := @apS_f2 a b m i hm
          rw [← hs]
          (try (simp -implicitDefEqProofs only [go_sem, h', hw, hb, he])); repeat' first | with_reducible exact True.intro | with_reducible refine And.intro ?_ ?_ | with_reducible intro _ | (((with_reducible refine isCall ?_); first | refine call_b (c1) rfl ?_ ?_ | refine call_d (c1) rfl ?_ | refine call_sb (c1) rfl ?_ ?_ | refine call_s (c1) rfl rfl ?_) <;> try (simp -implicitDefEqProofs only [go_sem, h', hw, hb, he])) | (((with_reducible refine vc_b ?_ ?_) <;> intro _) <;> try (simp -implicitDefEqProofs only [go_sem, h', hw, hb, he])) | simp (disch := omega) only [wrapI, wrapU, shl1, shl1', shl1'', shrN, shrN', and_one] | ((with_reducible refine isEx ?_); refine ⟨_, rfl, ?_, ?_⟩)
          all_goals first | omega | (simp; done) | (simp; omega) | skip
          all_goals first | rfl | skip
        | false =>
          rw [hm] at c1
          have hs := apS_t he hm
          have hw2 : IntKind.i64.wrap (((apS a b m i).length : Int) + 1) = ((apS a b m (i + 1)).length : Int) := by rw [wrapI _ (by omega), hs]; omega
          (try (simp -implicitDefEqProofs only [go_sem, h', hw, hb, he, hw2])); repeat' first | with_reducible exact True.intro | with_reducible refine And.intro ?_ ?_ | with_reducible intro _ | (((with_reducible refine isCall ?_); first | refine call_b (c1) rfl ?_ ?_ | refine call_d (c1) rfl ?_ | refine call_sb (c1) rfl ?_ ?_ | refine call_s (c1) rfl rfl ?_) <;> try (simp -implicitDefEqProofs only [go_sem, h', hw, hb, he, hw2])) | (((with_reducible refine vc_b ?_ ?_) <;> intro _) <;> try (simp -implicitDefEqProofs only [go_sem, h', hw, hb, he, hw2])) | simp (disch := omega) only [wrapI, wrapU, shl1, shl1', shl1'', shrN, shrN', and_one] | ((with_reducible refine isEx ?_); refine ⟨_, rfl, ?_, ?_⟩)
          all_goals first | omega | (simp; done) | (simp; omega) | skip
          all_goals first | rfl | skip
    · have h' : ¬ (i : Int) < (a.length : Int) := by omega
      have hie : i = a.length := by omega
      subst hie
      (try (simp -implicitDefEqProofs only [go_sem, h'])); repeat' first | with_reducible exact True.intro | with_reducible refine And.intro ?_ ?_ | with_reducible intro _ | (((with_reducible refine vc_b ?_ ?_) <;> intro _) <;> try (simp -implicitDefEqProofs only [go_sem, h'])) | simp (disch := omega) only [wrapI, wrapU, shl1, shl1', shl1'', shrN, shrN', and_one] | ((with_reducible refine isEx ?_); refine ⟨_, rfl, ?_, ?_⟩)
      all_goals first | omega | (simp; done) | (simp; omega) | skip
      all_goals first | rfl | skip
theorem ref05_IsCode_ret (L P : Nat) (n1 : Bool) (w : List F) (hL : L ≤ 15) (hL1 : 1 ≤ L) (hP : P ≤ 15) (hw : w.length = L) : Ret E0 F_ref05_IsCode [codD L P, .list n1 (ints (iv w))] (.bool (codB L P w)) := by
  refine ret_of_pw dec_ref05_IsCode mixed (by simp) fun hwf => ?_
  have hwL : IntKind.i64.wrap ((L : Int) - 1) = ((L - 1 : Nat) : Int) := by rw [wrapI _ (by omega)]; omega
  rw [enter_eq]; unfold pc_ref05_IsCode
  rw [codD_eq]
  (try (simp -implicitDefEqProofs only [go_sem])); repeat' first | with_reducible exact True.intro | with_reducible refine And.intro ?_ ?_ | with_reducible intro _ | (((with_reducible refine vc_b ?_ ?_) <;> intro _) <;> try (simp -implicitDefEqProofs only [go_sem])) | simp (disch := omega) only [wrapI, wrapU, shl1, shl1', shl1'', shrN, shrN', and_one] | ((with_reducible refine isEx2 ?_); refine ⟨(_, _), rfl, ?_, ?_⟩) | ((with_reducible refine isEx ?_); refine ⟨_, rfl, ?_, ?_⟩)
  all_goals first | omega | (simp; done) | (simp; omega) | skip
  refine pw_loopS (α := Nat) (l0 := ?l3) (m0 := ?m3) (fun x => [(5, .d (.int .i64 (x : Int)))]) (fun x => []) (fun x => x ≤ P ∧ ∀ k, k < x → dot w (cof L k) = 0) (fun x => P - x) 0 ?h03 ?he3 ?he23 ?hI3 ?step3
  case h03 => (simp -implicitDefEqProofs only [go_sem]; rfl)
  case he3 => rfl
  case he23 => rfl
  case' step3 => (rintro i hI; try dsimp only at hI)
  case' hI3 => try dsimp only
  · exact ⟨Nat.zero_le _, fun k hk => absurd hk (by omega)⟩
  · obtain ⟨h1, h2⟩ := hI
    by_cases h : i < P
    · have h' : (i : Int) < (P : Int) := by omega
      have hwi : IntKind.i64.wrap ((i : Int) + 1) = ((i + 1 : Nat) : Int) := by rw [wrapI _ (by omega)]; omega
      (try (simp -implicitDefEqProofs only [go_sem, h'])); repeat' first | with_reducible exact True.intro | with_reducible refine And.intro ?_ ?_ | with_reducible intro _ | (((with_reducible refine vc_b ?_ ?_) <;> intro _) <;> try (simp -implicitDefEqProofs only [go_sem, h'])) | simp (disch := omega) only [wrapI, wrapU, shl1, shl1', shl1'', shrN, shrN', and_one] | ((with_reducible refine isEx2 ?_); refine ⟨(_, _), rfl, ?_, ?_⟩) | ((with_reducible refine isEx ?_); refine ⟨_, rfl, ?_, ?_⟩)
      all_goals first | omega | (simp; done) | (simp; omega) | skip
      refine pw_loopS (α := Nat × F) (l0 := ?l4) (m0 := ?m4) (fun x => [(7, .d (.int .i64 (x.1 : Int))), (6, .d (.int .i64 (x.2.val : Int)))]) (fun x => []) (fun x => x.1 ≤ L ∧ x.2 = dot (w.take x.1) ((cof L i).take x.1)) (fun x => L - x.1) (0, 0) ?h04 ?he4 ?he24 ?hI4 ?step4
      case h04 => (simp -implicitDefEqProofs only [go_sem]; rfl)
      case he4 => rfl
      case he24 => rfl
      case' step4 => (rintro ⟨t, acc⟩ hI2; try dsimp only at hI2)
      case' hI4 => try dsimp only
      · exact ⟨by omega, rfl⟩
      · obtain ⟨t1, t2⟩ := hI2
        by_cases ht : t < L
        · have ht' : (t : Int) < (L : Int) := by omega
          have hwt : IntKind.i64.wrap ((t : Int) + 1) = ((t + 1 : Nat) : Int) := by rw [wrapI _ (by omega)]; omega
          have hwq : IntKind.i64.wrap (((L - 1 : Nat) : Int) - (t : Int)) = ((L - 1 - t : Nat) : Int) := by rw [wrapI _ (by omega)]; omega
          have hwm := mwrap i (L - 1 - t) (by omega) (by omega)
          have htw : t < w.length := by omega
          have c1 := ref05_Power_ret (i * (L - 1 - t) % 15) (by omega)
          rw [gp_mod] at c1
          have c2 := ref05_Times_ret (w[t]?.getD 0) (gp (i * (L - 1 - t)))
          have hk : fa acc (fm (w[t]?.getD 0) (gp (i * (L - 1 - t)))) = dot (w.take (t + 1)) ((cof L i).take (t + 1)) := by
            rw [t2, ← dot_take w (cof L i) t (by omega) (by rw [cof_len]; omega), cof_get L i t ht]; rfl
          (try (simp -implicitDefEqProofs only [go_sem, ht', hwt, hwL, hwq, hwm, tmod15, htw])); repeat' first | with_reducible exact True.intro | with_reducible refine And.intro ?_ ?_ | with_reducible intro _ | (((with_reducible refine isCall ?_); first | refine call_b (c1) rfl ?_ ?_ | refine call_d (c1) rfl ?_ | refine call_sb (c1) rfl ?_ ?_ | refine call_s (c1) rfl rfl ?_ | refine call_b (c2) rfl ?_ ?_ | refine call_d (c2) rfl ?_ | refine call_sb (c2) rfl ?_ ?_ | refine call_s (c2) rfl rfl ?_) <;> try (simp -implicitDefEqProofs only [go_sem, ht', hwt, hwL, hwq, hwm, tmod15, htw])) | (((with_reducible refine vc_b ?_ ?_) <;> intro _) <;> try (simp -implicitDefEqProofs only [go_sem, ht', hwt, hwL, hwq, hwm, tmod15, htw])) | simp (disch := omega) only [wrapI, wrapU, shl1, shl1', shl1'', shrN, shrN', and_one] | ((with_reducible refine isEx2 ?_); refine ⟨(_, _), rfl, ?_, ?_⟩) | ((with_reducible refine isEx ?_); refine ⟨_, rfl, ?_, ?_⟩)
          all_goals first | omega | (simp; done) | (simp; omega) | skip
          all_goals first | exact hk | (simp at *; done) | (simp at *; omega) | skip
        · have ht' : ¬ (t : Int) < (L : Int) := by omega
          have hte : t = L := by omega
          have hacc : acc = dot w (cof L i) := by
            rw [t2, hte, List.take_of_length_le (by omega), List.take_of_length_le (by rw [cof_len]; omega)]
          by_cases hz : acc = 0
          · subst hz
            have hnx : ∀ k, k < i + 1 → dot w (cof L k) = 0 := fun k hk => by
              rcases Nat.lt_succ_iff_lt_or_eq.1 hk with hk | rfl
              · exact h2 k hk
              · exact hacc.symm
            have hv : (((0 : F).val : Nat) : Int) = 0 := rfl
            (try (simp -implicitDefEqProofs only [go_sem, ht', hwi, hv])); repeat' first | with_reducible exact True.intro | with_reducible refine And.intro ?_ ?_ | with_reducible intro _ | (((with_reducible refine vc_b ?_ ?_) <;> intro _) <;> try (simp -implicitDefEqProofs only [go_sem, ht', hwi, hv])) | simp (disch := omega) only [wrapI, wrapU, shl1, shl1', shl1'', shrN, shrN', and_one] | ((with_reducible refine isEx2 ?_); refine ⟨(_, _), rfl, ?_, ?_⟩) | ((with_reducible refine isEx ?_); refine ⟨_, rfl, ?_, ?_⟩)
            all_goals first | omega | (simp; done) | (simp; omega) | skip
            all_goals first | exact hnx | exact hnx _ (by assumption) | skip
          · have hv : ¬ ((acc.val : Nat) : Int) = 0 := fun e => hz (by have := acc.isLt; exact Fin.ext (by simpa using (by omega : acc.val = 0)))
            have hno := codB_no h (fun e => hz (by rw [hacc, e]))
            rw [hno]
            (try (simp -implicitDefEqProofs only [go_sem, ht', hv])); repeat' first | with_reducible exact True.intro | with_reducible refine And.intro ?_ ?_ | with_reducible intro _ | (((with_reducible refine vc_b ?_ ?_) <;> intro _) <;> try (simp -implicitDefEqProofs only [go_sem, ht', hv])) | simp (disch := omega) only [wrapI, wrapU, shl1, shl1', shl1'', shrN, shrN', and_one] | ((with_reducible refine isEx2 ?_); refine ⟨(_, _), rfl, ?_, ?_⟩) | ((with_reducible refine isEx ?_); refine ⟨_, rfl, ?_, ?_⟩)
            all_goals first | omega | (simp; done) | (simp; omega) | skip
            all_goals first | rfl | skip
    · have h' : ¬ (i : Int) < (P : Int) := by omega
      have hyes := codB_yes (L := L) (P := P) (w := w) fun k hk => h2 k (by omega)
      rw [hyes]
      (try (simp -implicitDefEqProofs only [go_sem, h'])); repeat' first | with_reducible exact True.intro | with_reducible refine And.intro ?_ ?_ | with_reducible intro _ | (((with_reducible refine vc_b ?_ ?_) <;> intro _) <;> try (simp -implicitDefEqProofs only [go_sem, h'])) | simp (disch := omega) only [wrapI, wrapU, shl1, shl1', shl1'', shrN, shrN', and_one] | ((with_reducible refine isEx2 ?_); refine ⟨(_, _), rfl, ?_, ?_⟩) | ((with_reducible refine isEx ?_); refine ⟨_, rfl, ?_, ?_⟩)
      all_goals first | omega | (simp; done) | (simp; omega) | skip
      all_goals first | rfl | skip
end Go.Pw
end
section
namespace Go.Pw
set_option linter.unusedSimpArgs false
set_option linter.unusedVariables false
theorem dif_tri (L : Nat) (a b c : List F) : (dif L a c []).length ≤ (dif L a b []).length + (dif L b c []).length := by
  rw [← List.length_append]
  refine nodup_le _ _ (asc_nodup (dif_set L a c []).asc) fun j hj => ?_
  unfold dif at hj ⊢
  simp only [List.mem_append, List.mem_filter, List.mem_range, ne_eq, List.contains_nil, Bool.not_false, Bool.and_true, decide_eq_true_eq] at hj ⊢
  by_cases h : a[j]?.getD 0 = b[j]?.getD 0
  · exact .inr ⟨hj.1, fun e => hj.2 (h.trans e)⟩
  · exact .inl ⟨hj.1, h⟩
theorem dif_comm (L : Nat) (a b : List F) (mk : List Nat) : dif L a b mk = dif L b a mk := by
  unfold dif
  congr 1
  funext j
  congr 1
  rw [Bool.eq_iff_iff]
  simp only [ne_eq, decide_eq_true_eq]
  exact ⟨fun h e => h e.symm, fun h e => h e.symm⟩
/-- So near two code words are one. -/
theorem near_same {L P : Nat} (hL : L ≤ 15) {a b : List F} (ha : a.length = L) (hb : b.length = L) (h1 : Cod L P a) (h2 : Cod L P b) (h : (dif L a b []).length ≤ P) : a = b := by
  have hp : Pos L (dif L a b []) := by simpa using set_pos (mks_nil L) (dif_set L a b [])
  exact code_uniq hL ha hb hp h h1 h2 fun j hj => dif_out (mk := []) ha hb (by simpa using hj)
theorem few_same {L P : Nat} (hL : L ≤ 15) {w R r : List F} (hw : w.length = L) (hR : R.length = L) (hcod : Cod L P w) (hd : decS L P R [] = some r) (h : (dif L w R []).length + P / 2 ≤ P) : r = w := by
  obtain ⟨h1, h2, h3⟩ := dec_some hR (mks_nil L) hd
  have h4 : ([] : List Nat).length = 0 := rfl
  have h5 := dif_tri L r R w
  rw [dif_comm L R w] at h5
  exact near_same hL h2 hw h1 hcod (by omega)
theorem nzy_addR (a b : List F) (h : a.length = b.length) : nzy a b = addR a b 1 := by
  apply ext0
  · rw [nzy_len h, addR_len _ _ _ h]
  · intro j hj
    rw [nzy_len h] at hj
    rw [at0_addR _ _ _ _ h, fm_one]
    exact nzy_get h j hj
theorem cod_iff {L P : Nat} {w : List F} : Cod L P w ↔ ∀ i, i < P → dot w (cof L i) = 0 := by
  constructor
  · intro h i hi
    have := h i hi
    rwa [show at0 (synd L P w) i = dot w (cof L i) from synd_get _ _ _ _ hi] at this
  · intro h i hi
    rw [show at0 (synd L P w) i = dot w (cof L i) from synd_get _ _ _ _ hi]
    exact h i hi
theorem cod_sum {L P : Nat} {a b : List F} (h : a.length = b.length) (h1 : Cod L P a) (h2 : Cod L P b) : Cod L P (nzy a b) := by
  rw [nzy_addR a b h]
  rw [cod_iff] at h1 h2 ⊢
  intro i hi
  rw [dot_addR _ _ _ _ h, h1 i hi, h2 i hi]; rfl
theorem cod_scl {L P : Nat} {a : List F} (b : F) (h1 : Cod L P a) : Cod L P (sclR a b) := by
  rw [cod_iff] at h1 ⊢
  intro i hi
  rw [dot_sclR, h1 i hi, fm_zero]
theorem sclR_get (a : List F) (b : F) (j : Nat) : (sclR a b)[j]?.getD 0 = fm (a[j]?.getD 0) b := at0_sclR a b j
theorem enc_sum {L P : Nat} (hL : L ≤ 15) {d e : List F} (hd : d.length + P = L) (h : d.length = e.length) : encS P (nzy d e) = nzy (encS P d) (encS P e) := by
  have hl : (encS P d).length = (encS P e).length := by rw [encS_len, encS_len, h]
  refine (encS_uniq hL (by rw [nzy_len hl, encS_len, hd]) (by rw [nzy_len h]; exact hd) ?_ fun j hj => ?_).symm
  · refine cod_sum hl ?_ ?_
    · rw [← hd]; exact encS_cod P d
    · rw [← hd, h]; exact encS_cod P e
  · rw [nzy_len h] at hj
    rw [nzy_get hl j (by rw [encS_len]; omega), nzy_get h j hj, encS_get P d j hj, encS_get P e j (by omega)]
theorem enc_scl {L P : Nat} (hL : L ≤ 15) {d : List F} (b : F) (hd : d.length + P = L) : encS P (sclR d b) = sclR (encS P d) b := by
  refine (encS_uniq hL (by rw [sclR_len, encS_len, hd]) (by rw [sclR_len]; exact hd) ?_ fun j hj => ?_).symm
  · refine cod_scl b ?_
    rw [← hd]; exact encS_cod P d
  · rw [sclR_len] at hj
    rw [sclR_get, sclR_get, encS_get P d j hj]
end Go.Pw
end
