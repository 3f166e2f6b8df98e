/- A part of the proof. -/
import Derived.Test.YtgeodifpcminpaaPgCodesM
set_option linter.all false
section
open Go Go.Pw Go.Proofs
namespace Go.Pw
set_option linter.unusedSimpArgs false
set_option linter.unusedVariables false
set_option maxRecDepth 100000
set_option maxHeartbeats 1600000
attribute [local congr] cg_pw cg_seqI cg_seqE cg_stepI cg_ev cg_evBin cg_condB cg_condV cg_thenQ cg_blockQ cg_onSome cg_onCells cg_onRow cg_onRow2 cg_frhV cg_frhO cg_onMap cg_onOpt cg_ghosts cg_ghost cg_evCall cg_part cg_rng cg_guardV cg_frzV cg_frpV cg_ownV cg_owcV cg_occV cg_occX cg_resK cg_res1 cg_yldP cg_rndE cg_onlyN cg_onHist
attribute [local irreducible] IntKind.wrap bitsOp Option.getD and or

theorem level_good {c : GCode} (h : c.ok = true) (differ : Bool) (l : List Pair) (hl : ∀ p, p ∈ l → c.isState p.1 = true ∧ c.isState p.2 = true) : c.GoodP (c.level l differ) := by
  have hA : ∀ (p : Pair), c.isState p.1 = true ∧ c.isState p.2 = true → ∀ (a : Int), c.isWord a = true → ∀ (n : Nat) (b : Int) (out : List Pair), 0 ≤ b → b + n ≤ c.W → c.GoodP out → c.GoodP (foldN (c.lvl differ p a) n b out) := by
    intro p hp a ha n
    induction n with
    | zero => intro b out _ _ hg; exact hg
    | succ n ih =>
      intro b out h0 h1 hg
      rw [foldN]
      have hW := c.W_eq
      have hbw : c.isWord b = true := by simp only [GCode.isWord, inR, decide_eq_true_eq]; omega
      exact ih (b + 1) _ (by omega) (by omega) (GCode.lvl_good h hp ha hbw hg)
  have hP : ∀ (p : Pair), c.isState p.1 = true ∧ c.isState p.2 = true → ∀ (n : Nat) (a : Int) (out : List Pair), 0 ≤ a → a + n ≤ c.W → c.GoodP out → c.GoodP (foldN (c.lvlA differ p) n a out) := by
    intro p hp n
    induction n with
    | zero => intro b out _ _ hg; exact hg
    | succ n ih =>
      intro a out h0 h1 hg
      rw [foldN]
      have hW := c.W_eq
      have haw : c.isWord a = true := by simp only [GCode.isWord, inR, decide_eq_true_eq]; omega
      exact ih (a + 1) _ (by omega) (by omega) (hA p hp a haw c.W 0 out (by omega) (by omega) hg)
  have : ∀ (l : List Pair) (out : List Pair), (∀ p, p ∈ l → c.isState p.1 = true ∧ c.isState p.2 = true) → c.GoodP out → c.GoodP (l.foldl (c.lvlP differ) out) := by
    intro l
    induction l with
    | nil => intro out _ hg; exact hg
    | cons p l ih =>
      intro out hl hg
      rw [List.foldl_cons]
      exact ih _ (fun q hq => hl q (by simp [hq])) (hP p (hl p (by simp)) c.W 0 out (by omega) (by omega) hg)
  exact this l [] hl ⟨by simp, by simp⟩

theorem codes_Order_ret (c : GCode) : Ret E0 F_codes_Order [codeD c] (.tup [.int .i64 c.order.1, .int .i64 c.order.2]) := by
  refine ret_of_pw dec_codes_Order mixed (by simp) fun hwf => ?_
  have hb57 : hasBody E0.P F_codes_Order_1 = true := by kernel_rfl
  rw [enter_eq]; unfold pc_codes_Order
  cases hok : c.ok with
  | false =>
    have ho : c.order = (0, 40) := by simp [GCode.order, hok]
    rw [ho]
    (try (simp -implicitDefEqProofs only [go_sem, codeD_eq, codeC_eq, rowsD_eq])); repeat' first | with_reducible exact True.intro | with_reducible refine And.intro ?_ ?_ | with_reducible intro _ | (((with_reducible refine isCall ?_); first | refine call_b (codes_Check_ret c) rfl ?_ ?_ | refine call_d (codes_Check_ret c) rfl ?_ | refine call_sb (codes_Check_ret c) rfl ?_ ?_ | refine call_s (codes_Check_ret c) rfl rfl ?_) <;> try (simp -implicitDefEqProofs only [go_sem, codeD_eq, codeC_eq, rowsD_eq])) | (((with_reducible refine vc_b ?_ ?_) <;> intro _) <;> try (simp -implicitDefEqProofs only [go_sem, codeD_eq, codeC_eq, rowsD_eq])) | simp (disch := omega) only [wrapI, wrapU, shl1, shl1', shl1'', shrN, shrN', and_one] | ((with_reducible refine isEx3 ?_); refine ⟨(_, _, _), rfl, ?_, ?_⟩)
    all_goals simp_all [errI]
  | true =>
    have hd := GCode.ok_head hok
    have ho : c.order = c.orderF (c.words.length * c.words.length + 1) 1 c.pairs0 := by simp [GCode.order, hok]
    rw [ho]
    (try (simp -implicitDefEqProofs only [go_sem, codeD_eq, codeC_eq, rowsD_eq])); repeat' first | with_reducible exact True.intro | with_reducible refine And.intro ?_ ?_ | with_reducible intro _ | (((with_reducible refine isCall ?_); first | refine call_b (codes_Check_ret c) rfl ?_ ?_ | refine call_d (codes_Check_ret c) rfl ?_ | refine call_sb (codes_Check_ret c) rfl ?_ ?_ | refine call_s (codes_Check_ret c) rfl rfl ?_) <;> try (simp -implicitDefEqProofs only [go_sem, codeD_eq, codeC_eq, rowsD_eq])) | (((with_reducible refine vc_b ?_ ?_) <;> intro _) <;> try (simp -implicitDefEqProofs only [go_sem, codeD_eq, codeC_eq, rowsD_eq])) | simp (disch := omega) only [wrapI, wrapU, shl1, shl1', shl1'', shrN, shrN', and_one] | ((with_reducible refine isEx3 ?_); refine ⟨(_, _, _), rfl, ?_, ?_⟩)
    all_goals try (exfalso; simp_all [errI]; done)
    refine pw_loopS (α := Int × Bool × (List Pair)) (l0 := ?l1) (m0 := ?m1) (fun x => [(22, .d (.int .i64 x.1))]) (fun x => [(30, .row 88 2 x.2.1 (pairsD x.2.2))]) (fun x => 0 ≤ x.1 ∧ x.1 ≤ c.words.length ∧ x.2.1 = x.2.2.isEmpty ∧ x.2.2 = (List.range x.1.toNat).map fun (s : Nat) => ((s : Int), (s : Int))) (fun x => (c.words.length - x.1).toNat) (?a1_0, ?a1_1, []) ?h01 ?he1 ?he21 ?hI1 ?step1
    case h01 => (simp -implicitDefEqProofs only [go_sem, pairsD_len]; rfl)
    case he1 => rfl
    case he21 => rfl
    case' step1 => (rintro ⟨i, nl, out⟩ hI; try dsimp only at hI)
    case' hI1 => try dsimp only
    · simp
    by_cases hi : i < c.words.length
    · have hlen : out.length = i.toNat := by rw [hI.2.2.2]; simp
      (try (simp -implicitDefEqProofs only [go_sem, pairsD_len, pairsD_snoc, pairsD_unif, pairsD_empty, pairD_eq])); repeat' first | with_reducible exact True.intro | with_reducible refine And.intro ?_ ?_ | with_reducible intro _ | (((with_reducible refine vc_b ?_ ?_) <;> intro _) <;> try (simp -implicitDefEqProofs only [go_sem, pairsD_len, pairsD_snoc, pairsD_unif, pairsD_empty, pairD_eq])) | simp (disch := omega) only [wrapI, wrapU, shl1, shl1', shl1'', shrN, shrN', and_one] | ((with_reducible refine isEx3 ?_); refine ⟨(_, _, _), rfl, ?_, ?_⟩)
      all_goals first | omega | (simp; done) | (simp; omega) | skip
      · rw [hI.2.2.2, show (i + 1).toNat = i.toNat + 1 by omega, List.range_succ, List.map_append]; simp; omega
    · have h0 : out = c.pairs0 := by rw [hI.2.2.2, GCode.pairs0, show i.toNat = c.words.length by omega]
      subst h0
      (try (simp -implicitDefEqProofs only [go_sem, pairsD_len])); repeat' first | with_reducible exact True.intro | with_reducible refine And.intro ?_ ?_ | with_reducible intro _ | (((with_reducible refine vc_b ?_ ?_) <;> intro _) <;> try (simp -implicitDefEqProofs only [go_sem, pairsD_len])) | simp (disch := omega) only [wrapI, wrapU, shl1, shl1', shl1'', shrN, shrN', and_one] | ((with_reducible refine isEx3 ?_); refine ⟨(_, _, _), rfl, ?_, ?_⟩)
      all_goals first | omega | (simp; done) | (simp; omega) | skip
      have hlw : (c.words.length : Int) * c.words.length ≤ 16 ∧ 1 ≤ (c.words.length : Int) * c.words.length := by
        have : c.words.length = 1 ∨ c.words.length = 2 ∨ c.words.length = 3 ∨ c.words.length = 4 := by omega
        rcases this with h | h | h | h <;> rw [h] <;> simp
      have hlwN : ((c.words.length * c.words.length : Nat) : Int) = (c.words.length : Int) * c.words.length := by simp
      generalize hN : c.words.length * c.words.length = N at *
      have hgood0 : ∀ p, p ∈ c.pairs0 → c.isState p.1 = true ∧ c.isState p.2 = true := by
        intro p hp
        simp only [GCode.pairs0, List.mem_map, List.mem_range] at hp
        obtain ⟨s, hs, rfl⟩ := hp
        simp [GCode.isState, inR]; omega
      refine pw_loopS (α := Int × Bool × (List Pair)) (l0 := ?l2) (m0 := ?m2) (fun x => [(9, .d (.int .i64 x.1)), (7, .d (.list x.2.1 (pairsD x.2.2)))]) (fun x => []) (fun x => 1 ≤ x.1 ∧ x.1 ≤ N + 2 ∧ (∀ p, p ∈ x.2.2 → c.isState p.1 = true ∧ c.isState p.2 = true) ∧ c.orderF (N + 2 - x.1).toNat x.1 x.2.2 = c.orderF (N + 1) 1 c.pairs0) (fun x => (N + 2 - x.1).toNat) (?a2_0, ?a2_1, c.pairs0) ?h02 ?he2 ?he22 ?hI2 ?step2
      case h02 => (simp -implicitDefEqProofs only [go_sem, pairsD_len]; rfl)
      case he2 => rfl
      case he22 => rfl
      case' step2 => (rintro ⟨k, nl2, now⟩ hI2; try dsimp only at hI2)
      case' hI2 => try dsimp only
      · refine ⟨by omega, by omega, hgood0, ?_⟩
        rw [show ((N : Int) + 2 - 1).toNat = N + 1 by omega]
      by_cases hk : k ≤ N + 1
      · have hs : (N + 2 - k).toNat = (N + 2 - (k + 1)).toNat + 1 := by omega
        have hst := hI2.2.2.2
        rw [hs, GCode.orderF] at hst
        obtain ⟨d, hdk⟩ : ∃ d, decide (k = 1) = d := ⟨_, rfl⟩
        rw [hdk] at hst
        have c1 := fun nl => codes_Order_1_ret c hok nl now hI2.2.2.1 true
        have c2 := fun nl => codes_Order_1_ret c hok nl now hI2.2.2.1 false
        (try (simp -implicitDefEqProofs only [go_sem, pairsD_len, codeC_eq, rowsD_eq, ← hlwN])); repeat' first | with_reducible exact True.intro | with_reducible refine And.intro ?_ ?_ | with_reducible intro _ | (((with_reducible refine isCall ?_); first | refine call_b (c1 _) rfl ?_ ?_ | refine call_d (c1 _) rfl ?_ | refine call_sb (c1 _) rfl ?_ ?_ | refine call_s (c1 _) rfl rfl ?_ | refine call_b (c2 _) rfl ?_ ?_ | refine call_d (c2 _) rfl ?_ | refine call_sb (c2 _) rfl ?_ ?_ | refine call_s (c2 _) rfl rfl ?_) <;> try (simp -implicitDefEqProofs only [go_sem, pairsD_len, codeC_eq, rowsD_eq, ← hlwN])) | (((with_reducible refine vc_b ?_ ?_) <;> intro _) <;> try (simp -implicitDefEqProofs only [go_sem, pairsD_len, codeC_eq, rowsD_eq, ← hlwN])) | simp (disch := omega) only [wrapI, wrapU, shl1, shl1', shl1'', shrN, shrN', and_one] | ((with_reducible refine isEx3 ?_); refine ⟨(_, _, _), rfl, ?_, ?_⟩)
        all_goals (try simp (disch := omega) only [wrapI, wrapU, shl1, shl1', shl1'', shrN, shrN', and_one] at *)
        all_goals first | omega | (simp; done) | (simp; omega) | skip
        all_goals first
          | exact ((level_good hok true now hI2.2.2.1).2 _ (by assumption)).1
          | exact ((level_good hok true now hI2.2.2.1).2 _ (by assumption)).2
          | (have hdd : d = true := by rw [← hdk]; simp; omega
             subst hdd
             first
               | (have he : c.level now true = [] := List.isEmpty_iff.1 (by assumption)
                  try dsimp only at hst
                  rw [if_pos he] at hst; rw [← hst]; done)
               | (have he : ¬ c.level now true = [] := by intro h; simp_all
                  try dsimp only at hst
                  rw [if_neg he] at hst; exact hst))
          | exact ((level_good hok false now hI2.2.2.1).2 _ (by assumption)).1
          | exact ((level_good hok false now hI2.2.2.1).2 _ (by assumption)).2
          | (have hdd : d = false := by rw [← hdk]; simp; omega
             subst hdd
             first
               | (have he : c.level now false = [] := List.isEmpty_iff.1 (by assumption)
                  try dsimp only at hst
                  rw [if_pos he] at hst; rw [← hst]; done)
               | (have he : ¬ c.level now false = [] := by intro h; simp_all
                  try dsimp only at hst
                  rw [if_neg he] at hst; exact hst))
      · (try (simp -implicitDefEqProofs only [go_sem, pairsD_len, rowsD_eq, ← hlwN])); repeat' first | with_reducible exact True.intro | with_reducible refine And.intro ?_ ?_ | with_reducible intro _ | (((with_reducible refine vc_b ?_ ?_) <;> intro _) <;> try (simp -implicitDefEqProofs only [go_sem, pairsD_len, rowsD_eq, ← hlwN])) | simp (disch := omega) only [wrapI, wrapU, shl1, shl1', shl1'', shrN, shrN', and_one] | ((with_reducible refine isEx3 ?_); refine ⟨(_, _, _), rfl, ?_, ?_⟩)
        all_goals (try simp (disch := omega) only [wrapI, wrapU, shl1, shl1', shl1'', shrN, shrN', and_one] at *)
        all_goals first | omega | (simp; done) | (simp; omega) | skip
        have h0 : (N + 2 - k : Int).toNat = 0 := by omega
        have hst := hI2.2.2.2
        rw [h0, GCode.orderF] at hst
        rw [← hst]
end Go.Pw
end
section
open Go Go.Pw Go.Proofs
namespace Go.Pw
set_option linter.unusedSimpArgs false
set_option linter.unusedVariables false
set_option maxRecDepth 100000
set_option maxHeartbeats 1600000
attribute [local congr] cg_pw cg_seqI cg_seqE cg_stepI cg_ev cg_evBin cg_condB cg_condV cg_thenQ cg_blockQ cg_onSome cg_onCells cg_onRow cg_onRow2 cg_frhV cg_frhO cg_onMap cg_onOpt cg_ghosts cg_ghost cg_evCall cg_part cg_rng cg_guardV cg_frzV cg_frpV cg_ownV cg_owcV cg_occV cg_occX cg_resK cg_res1 cg_yldP cg_rndE cg_onlyN cg_onHist
attribute [local irreducible] IntKind.wrap bitsOp Option.getD and or

theorem law04_sameInts_ret (n1 n2 : Bool) (xs ys : List Int) : Ret E0 F_law04_sameInts [.list n1 (ints xs), .list n2 (ints ys)] (.bool (decide (xs = ys))) := by
  refine ret_of_pw dec_law04_sameInts mixed (by simp) fun hwf => ?_
  simp only [wf_int, wf_bool, wf_ints, wf_list, wf_agg, wf_ptr, wf_fn, wf_tup, wf_all_cons, wf_all_nil, wf_all_map, inK_i64, maxLen_eq, List.length_map, ints_len, true_and, and_true] at hwf
  rw [enter_eq]; unfold pc_law04_sameInts
  (try (simp -implicitDefEqProofs only [go_sem])); repeat' first | with_reducible exact True.intro | with_reducible refine And.intro ?_ ?_ | with_reducible intro _ | (((with_reducible refine vc_b ?_ ?_) <;> intro _) <;> try (simp -implicitDefEqProofs only [go_sem])) | simp (disch := omega) only [wrapI, wrapU, shl1, shl1', shl1'', shrN, shrN', and_one] | ((with_reducible refine isEx ?_); refine ⟨_, rfl, ?_, ?_⟩)
  · refine pw_loopS (α := Int) (l0 := ?l1) (m0 := ?m1) (fun x => [(5, .d (.int .i64 x))]) (fun x => []) (fun x => 0 ≤ x ∧ x ≤ xs.length ∧ xs.take x.toNat = ys.take x.toNat) (fun x => (xs.length - x).toNat) ?a1_0 ?h01 ?he1 ?he21 ?hI1 ?step1
    case h01 => (simp -implicitDefEqProofs only [go_sem]; rfl)
    case he1 => rfl
    case he21 => rfl
    case' step1 => (rintro i hI; try dsimp only at hI)
    case' hI1 => try dsimp only
    · simp
    by_cases hi : i < xs.length
    · (try (simp -implicitDefEqProofs only [go_sem])); repeat' first | with_reducible exact True.intro | with_reducible refine And.intro ?_ ?_ | with_reducible intro _ | (((with_reducible refine vc_b ?_ ?_) <;> intro _) <;> try (simp -implicitDefEqProofs only [go_sem])) | simp (disch := omega) only [wrapI, wrapU, shl1, shl1', shl1'', shrN, shrN', and_one] | ((with_reducible refine isEx ?_); refine ⟨_, rfl, ?_, ?_⟩)
      all_goals first | omega | (simp; done) | (simp; omega) | skip
      · rename_i h
        rw [show (i + 1).toNat = i.toNat + 1 by omega, take_get (by omega), take_get (by omega), hI.2.2, h]
      · have : xs ≠ ys := by rintro rfl; simp_all
        simp [this]
    · (try (simp -implicitDefEqProofs only [go_sem])); repeat' first | with_reducible exact True.intro | with_reducible refine And.intro ?_ ?_ | with_reducible intro _ | (((with_reducible refine vc_b ?_ ?_) <;> intro _) <;> try (simp -implicitDefEqProofs only [go_sem])) | simp (disch := omega) only [wrapI, wrapU, shl1, shl1', shl1'', shrN, shrN', and_one] | ((with_reducible refine isEx ?_); refine ⟨_, rfl, ?_, ?_⟩)
      all_goals first | omega | (simp; done) | (simp; omega) | skip
      have h1 := hI.2.2
      rw [List.take_of_length_le (by omega), List.take_of_length_le (by omega)] at h1
      simp [h1]
  · have : xs ≠ ys := by rintro rfl; simp_all
    simp [this]

theorem ref04_Check_ret (c : GCode) : Ret E0 F_ref04_Check [codeD c] (.int .i64 (errI c.ok 40)) := by
  refine ret_of_pw dec_ref04_Check mixed (by simp) fun hwf => ?_
  simp only [wf_int, wf_bool, wf_ints, wf_list, wf_agg, wf_ptr, wf_fn, wf_tup, wf_all_cons, wf_all_nil, wf_all_map, inK_i64, maxLen_eq, List.length_map, ints_len, true_and, and_true, codeD_eq, codeC_eq, rowsD_eq] at hwf
  have noHead : c.head = false → errI c.ok 40 = 40 := fun h => by simp [errI, GCode.ok, h]
  rw [enter_eq]; unfold pc_ref04_Check
  (try (simp -implicitDefEqProofs only [go_sem, codeD_eq, codeC_eq, rowsD_eq])); repeat' first | with_reducible exact True.intro | with_reducible refine And.intro ?_ ?_ | with_reducible intro _ | (((with_reducible refine isCall ?_); first | refine call_b (ref04_within_ret _ _ _) rfl ?_ ?_ | refine call_d (ref04_within_ret _ _ _) rfl ?_ | refine call_sb (ref04_within_ret _ _ _) rfl ?_ ?_ | refine call_s (ref04_within_ret _ _ _) rfl rfl ?_) <;> try (simp -implicitDefEqProofs only [go_sem, codeD_eq, codeC_eq, rowsD_eq])) | (((with_reducible refine vc_b ?_ ?_) <;> intro _) <;> try (simp -implicitDefEqProofs only [go_sem, codeD_eq, codeC_eq, rowsD_eq])) | simp (disch := omega) only [wrapI, wrapU, shl1, shl1', shl1'', shrN, shrN', and_one] | ((with_reducible refine isEx ?_); refine ⟨_, rfl, ?_, ?_⟩)
  all_goals first | (rw [noHead (by cases hh : c.head; rfl; exfalso; simp only [GCode.head, inR, Bool.and_eq_true, decide_eq_true_eq, decide_eq_false_iff_not] at *; omega)]; done) | skip
  have hh : c.head = true := by simp only [GCode.head, inR, Bool.and_eq_true, decide_eq_true_eq, decide_eq_false_iff_not] at *; omega
  have ho : 1 ≤ c.out ∧ c.out ≤ 5 := by simp_all [inR]
  have hb : 1 ≤ c.bits ∧ c.bits ≤ 2 := by simp_all [inR]
  have hl : c.next.length = c.words.length := by omega
  have h12 := pow_12 hb
  have hp1 := pow_le62 (k := c.out.toNat) (by omega)
  have hp2 := pow_pos2 c.out.toNat
  have bad : ∀ j, j < c.words.length → c.rowsOk j = false → errI c.ok 40 = 40 := fun j hj h => by rw [errI, not_ok c hh j hj h]; rfl
  refine pw_loopS (α := Int) (l0 := ?l2) (m0 := ?m2) (fun x => [(3, .d (.int .i64 x))]) (fun x => []) (fun x => 0 ≤ x ∧ x ≤ c.words.length ∧ ∀ (j : Nat), (j : Int) < x → c.rowsOk j = true) (fun x => (c.words.length - x).toNat) ?a2_0 ?h02 ?he2 ?he22 ?hI2 ?step2
  case h02 => (simp -implicitDefEqProofs only [go_sem, codeD_eq, codeC_eq, rowsD_eq]; rfl)
  case he2 => rfl
  case he22 => rfl
  case' step2 => (rintro i hI; try dsimp only at hI)
  case' hI2 => try dsimp only
  · simp; omega
  by_cases hi : i < c.words.length
  · obtain ⟨rw_, hrw⟩ : ∃ r, c.words[i.toNat]?.getD default = r := ⟨_, rfl⟩
    obtain ⟨rn, hrn⟩ : ∃ r, c.next[i.toNat]?.getD default = r := ⟨_, rfl⟩
    have hrow : c.rowsOk i.toNat = (decide ((rw_.2.length : Int) = 2 ^ c.bits.toNat) && (rw_.2.all fun n => inR n 0 (2 ^ c.out.toNat - 1)) && (decide ((rn.2.length : Int) = 2 ^ c.bits.toNat) && rn.2.all c.isState)) := by rw [rowsOk_eq, hrw, hrn]
    (try (simp -implicitDefEqProofs only [go_sem, rowsD_eq, rowD_eq, hrw, hrn])); repeat' first | with_reducible exact True.intro | with_reducible refine And.intro ?_ ?_ | with_reducible intro _ | (((with_reducible refine isCall ?_); first | refine call_b (ref04_within_ret _ _ _) rfl ?_ ?_ | refine call_d (ref04_within_ret _ _ _) rfl ?_ | refine call_sb (ref04_within_ret _ _ _) rfl ?_ ?_ | refine call_s (ref04_within_ret _ _ _) rfl rfl ?_) <;> try (simp -implicitDefEqProofs only [go_sem, rowsD_eq, rowD_eq, hrw, hrn])) | (((with_reducible refine vc_b ?_ ?_) <;> intro _) <;> try (simp -implicitDefEqProofs only [go_sem, rowsD_eq, rowD_eq, hrw, hrn])) | simp (disch := omega) only [wrapI, wrapU, shl1, shl1', shl1'', shrN, shrN', and_one] | ((with_reducible refine isEx ?_); refine ⟨_, rfl, ?_, ?_⟩)
    all_goals (try simp (disch := omega) only [wrapI, wrapU, shl1, shl1', shl1'', shrN, shrN', and_one] at *)
    all_goals first | omega | (simp; done) | (simp; omega) | skip
    · refine pw_loopS (α := Int) (l0 := ?l3) (m0 := ?m3) (fun x => [(4, .d (.int .i64 x))]) (fun x => []) (fun x => 0 ≤ x ∧ x ≤ rw_.2.length ∧ ∀ (j : Nat), (j : Int) < x → inR (rw_.2[j]?.getD 0) 0 (2 ^ c.out.toNat - 1) = true ∧ c.isState (rn.2[j]?.getD 0) = true) (fun x => (rw_.2.length - x).toNat) ?a3_0 ?h03 ?he3 ?he23 ?hI3 ?step3
      case h03 => (simp -implicitDefEqProofs only [go_sem, codeD_eq, codeC_eq, rowsD_eq]; rfl)
      case he3 => rfl
      case he23 => rfl
      case' step3 => (rintro w hI2; try dsimp only at hI2)
      case' hI3 => try dsimp only
      · simp; omega
      by_cases hw : w < rw_.2.length
      · have hs : inR (rw_.2[w.toNat]?.getD 0) 0 (2 ^ c.out.toNat - 1) = true → c.isState (rn.2[w.toNat]?.getD 0) = true → ∀ (j : Nat), (j : Int) < w + 1 → inR (rw_.2[j]?.getD 0) 0 (2 ^ c.out.toNat - 1) = true ∧ c.isState (rn.2[j]?.getD 0) = true := fun h1 h2 j hj => by
          by_cases hjw : j = w.toNat
          · subst hjw; exact ⟨h1, h2⟩
          · exact hI2.2.2 j (by omega)
        (try (simp -implicitDefEqProofs only [go_sem, rowsD_eq, rowD_eq, hrw, hrn])); repeat' first | with_reducible exact True.intro | with_reducible refine And.intro ?_ ?_ | with_reducible intro _ | (((with_reducible refine isCall ?_); first | refine call_b (ref04_within_ret _ _ _) rfl ?_ ?_ | refine call_d (ref04_within_ret _ _ _) rfl ?_ | refine call_sb (ref04_within_ret _ _ _) rfl ?_ ?_ | refine call_s (ref04_within_ret _ _ _) rfl rfl ?_) <;> try (simp -implicitDefEqProofs only [go_sem, rowsD_eq, rowD_eq, hrw, hrn])) | (((with_reducible refine vc_b ?_ ?_) <;> intro _) <;> try (simp -implicitDefEqProofs only [go_sem, rowsD_eq, rowD_eq, hrw, hrn])) | simp (disch := omega) only [wrapI, wrapU, shl1, shl1', shl1'', shrN, shrN', and_one] | ((with_reducible refine isEx ?_); refine ⟨_, rfl, ?_, ?_⟩)
        all_goals (try simp (disch := omega) only [wrapI, wrapU, shl1, shl1', shl1'', shrN, shrN', and_one] at *)
        all_goals first | omega | (simp; done) | (simp; omega) | skip
        · exact (hs (by assumption) (by show inR _ 0 _ = true; assumption) _ (by assumption)).1
        · exact (hs (by assumption) (by show inR _ 0 _ = true; assumption) _ (by assumption)).2
        · refine congrArg (D.int .i64) (bad i.toNat (by omega) ?_).symm
          rw [hrow, all_bad (l := rn.2) (p := c.isState) (j := w.toNat) (by omega) (by show inR _ 0 _ = false; assumption)]; simp
        · refine congrArg (D.int .i64) (bad i.toNat (by omega) ?_).symm
          rw [hrow, all_bad (l := rw_.2) (p := fun n => inR n 0 (2 ^ c.out.toNat - 1)) (j := w.toNat) (by omega) (by assumption)]; simp
      · have hT : rw_.2.length = 2 ^ c.bits.toNat → rn.2.length = 2 ^ c.bits.toNat → ∀ (j : Nat), (j : Int) < i + 1 → c.rowsOk j = true := fun h1 h2 j hj => by
          by_cases hji : j = i.toNat
          · subst hji
            have e1 : (rw_.2.length : Int) = 2 ^ c.bits.toNat := by omega
            have e2 : (rn.2.length : Int) = 2 ^ c.bits.toNat := by omega
            rw [hrow, all_iff.2 fun k hk => (hI2.2.2 k (by omega)).1, all_iff.2 fun k hk => (hI2.2.2 k (by omega)).2, e1, e2]; simp
          · exact hI.2.2 j (by omega)
        (try (simp -implicitDefEqProofs only [go_sem, rowsD_eq, rowD_eq, hrw, hrn])); repeat' first | with_reducible exact True.intro | with_reducible refine And.intro ?_ ?_ | with_reducible intro _ | (((with_reducible refine isCall ?_); first | refine call_b (ref04_within_ret _ _ _) rfl ?_ ?_ | refine call_d (ref04_within_ret _ _ _) rfl ?_ | refine call_sb (ref04_within_ret _ _ _) rfl ?_ ?_ | refine call_s (ref04_within_ret _ _ _) rfl rfl ?_) <;> try (simp -implicitDefEqProofs only [go_sem, rowsD_eq, rowD_eq, hrw, hrn])) | (((with_reducible refine vc_b ?_ ?_) <;> intro _) <;> try (simp -implicitDefEqProofs only [go_sem, rowsD_eq, rowD_eq, hrw, hrn])) | simp (disch := omega) only [wrapI, wrapU, shl1, shl1', shl1'', shrN, shrN', and_one] | ((with_reducible refine isEx ?_); refine ⟨_, rfl, ?_, ?_⟩)
        all_goals (try simp (disch := omega) only [wrapI, wrapU, shl1, shl1', shl1'', shrN, shrN', and_one] at *)
        all_goals first | omega | (simp; done) | (simp; omega) | skip
        exact hT (by omega) (by omega) _ (by assumption)
    all_goals (refine congrArg (D.int .i64) (bad i.toNat (by omega) ?_).symm; rw [hrow]; simp_all; done)
  · (try (simp -implicitDefEqProofs only [go_sem, rowsD_eq])); repeat' first | with_reducible exact True.intro | with_reducible refine And.intro ?_ ?_ | with_reducible intro _ | (((with_reducible refine vc_b ?_ ?_) <;> intro _) <;> try (simp -implicitDefEqProofs only [go_sem, rowsD_eq])) | simp (disch := omega) only [wrapI, wrapU, shl1, shl1', shl1'', shrN, shrN', and_one] | ((with_reducible refine isEx ?_); refine ⟨_, rfl, ?_, ?_⟩)
    all_goals first | omega | (simp; done) | (simp; omega) | skip
    have : c.ok = true := (ok_iff c hh).2 fun j hj => hI.2.2 j (by omega)
    rw [errI, this]; rfl

theorem ref04_CheckState_ret (c : GCode) (s : Int) : Ret E0 F_ref04_CheckState [codeD c, .int .i64 s] (.int .i64 (if !c.ok then 40 else if !c.isState s then 41 else 0)) := by
  refine ret_of_pw dec_ref04_CheckState mixed (by simp) fun hwf => ?_
  simp only [wf_int, wf_bool, wf_ints, wf_list, wf_agg, wf_ptr, wf_fn, wf_tup, wf_all_cons, wf_all_nil, wf_all_map, inK_i64, maxLen_eq, List.length_map, ints_len, true_and, and_true, codeD_eq, codeC_eq, rowsD_eq] at hwf
  rw [enter_eq]; unfold pc_ref04_CheckState
  (try (simp -implicitDefEqProofs only [go_sem, codeD_eq, codeC_eq, rowsD_eq])); repeat' first | with_reducible exact True.intro | with_reducible refine And.intro ?_ ?_ | with_reducible intro _ | (((with_reducible refine isCall ?_); first | refine call_b (ref04_Check_ret c) rfl ?_ ?_ | refine call_d (ref04_Check_ret c) rfl ?_ | refine call_sb (ref04_Check_ret c) rfl ?_ ?_ | refine call_s (ref04_Check_ret c) rfl rfl ?_ | refine call_b (ref04_within_ret _ _ _) rfl ?_ ?_ | refine call_d (ref04_within_ret _ _ _) rfl ?_ | refine call_sb (ref04_within_ret _ _ _) rfl ?_ ?_ | refine call_s (ref04_within_ret _ _ _) rfl rfl ?_) <;> try (simp -implicitDefEqProofs only [go_sem, codeD_eq, codeC_eq, rowsD_eq])) | (((with_reducible refine vc_b ?_ ?_) <;> intro _) <;> try (simp -implicitDefEqProofs only [go_sem, codeD_eq, codeC_eq, rowsD_eq])) | simp (disch := omega) only [wrapI, wrapU, shl1, shl1', shl1'', shrN, shrN', and_one] 
  all_goals (try simp (disch := omega) only [wrapI, wrapU, shl1, shl1', shl1'', shrN, shrN', and_one] at *)
  all_goals (cases hok : c.ok <;> cases hst : c.isState s <;> simp_all [errI, GCode.isState])

theorem ref04_IsData_ret (c : GCode) (nl : Bool) (l : List Int) (h : 1 ≤ c.bits ∧ c.bits ≤ 2) : Ret E0 F_ref04_IsData [codeD c, .list nl (ints l)] (.bool (c.isData l)) := by
  refine ret_of_pw dec_ref04_IsData mixed (by simp) fun hwf => ?_
  have h12 := pow_12 h
  simp only [wf_int, wf_bool, wf_ints, wf_list, wf_agg, wf_ptr, wf_fn, wf_tup, wf_all_cons, wf_all_nil, wf_all_map, inK_i64, maxLen_eq, List.length_map, ints_len, true_and, and_true, codeD_eq, codeC_eq, rowsD_eq] at hwf
  rw [enter_eq]; unfold pc_ref04_IsData
  simp -implicitDefEqProofs only [go_sem, codeD_eq, codeC_eq]
  refine pw_loopS (α := Int) (l0 := ?l4) (m0 := ?m4) (fun x => [(5, .d (.int .i64 x))]) (fun x => []) (fun x => 0 ≤ x ∧ x ≤ l.length ∧ ∀ (j : Nat), (j : Int) < x → c.isWord (l[j]?.getD 0) = true) (fun x => (l.length - x).toNat) ?a4_0 ?h04 ?he4 ?he24 ?hI4 ?step4
  case h04 => (simp -implicitDefEqProofs only [go_sem, codeD_eq, codeC_eq]; rfl)
  case he4 => rfl
  case he24 => rfl
  case' step4 => (rintro i hI; try dsimp only at hI)
  case' hI4 => try dsimp only
  · simp; omega
  by_cases hi : i < l.length
  · have hs : c.isWord (l[i.toNat]?.getD 0) = true → ∀ (j : Nat), (j : Int) < i + 1 → c.isWord (l[j]?.getD 0) = true := fun h1 j hj => by
      by_cases hji : j = i.toNat
      · subst hji; exact h1
      · exact hI.2.2 j (by omega)
    (try (simp -implicitDefEqProofs only [go_sem])); repeat' first | with_reducible exact True.intro | with_reducible refine And.intro ?_ ?_ | with_reducible intro _ | (((with_reducible refine isCall ?_); first | refine call_b (ref04_within_ret _ _ _) rfl ?_ ?_ | refine call_d (ref04_within_ret _ _ _) rfl ?_ | refine call_sb (ref04_within_ret _ _ _) rfl ?_ ?_ | refine call_s (ref04_within_ret _ _ _) rfl rfl ?_) <;> try (simp -implicitDefEqProofs only [go_sem])) | (((with_reducible refine vc_b ?_ ?_) <;> intro _) <;> try (simp -implicitDefEqProofs only [go_sem])) | simp (disch := omega) only [wrapI, wrapU, shl1, shl1', shl1'', shrN, shrN', and_one] | ((with_reducible refine isEx ?_); refine ⟨_, rfl, ?_, ?_⟩)
    all_goals (try simp (disch := omega) only [wrapI, wrapU, shl1, shl1', shl1'', shrN, shrN', and_one] at *)
    all_goals first | omega | (simp; done) | (simp; omega) | skip
    · exact hs (by show inR _ 0 _ = true; assumption) _ (by assumption)
    · have := all_bad (l := l) (p := c.isWord) (j := i.toNat) (by omega) (by show inR _ 0 _ = false; assumption)
      simp [GCode.isData, this]
  · have hall : l.all c.isWord = true := all_iff.2 fun j hj => hI.2.2 j (by omega)
    (try (simp -implicitDefEqProofs only [go_sem])); repeat' first | with_reducible exact True.intro | with_reducible refine And.intro ?_ ?_ | with_reducible intro _ | (((with_reducible refine vc_b ?_ ?_) <;> intro _) <;> try (simp -implicitDefEqProofs only [go_sem])) | simp (disch := omega) only [wrapI, wrapU, shl1, shl1', shl1'', shrN, shrN', and_one] | ((with_reducible refine isEx ?_); refine ⟨_, rfl, ?_, ?_⟩)
    all_goals first | omega | (simp; done) | (simp; omega) | skip
    all_goals (simp only [GCode.isData, hall]; simp; omega)
end Go.Pw
end
section
open Go Go.Pw Go.Proofs
namespace Go.Pw
set_option linter.unusedSimpArgs false
set_option linter.unusedVariables false
set_option maxRecDepth 100000
set_option maxHeartbeats 1600000
attribute [local congr] cg_pw cg_seqI cg_seqE cg_stepI cg_ev cg_evBin cg_condB cg_condV cg_thenQ cg_blockQ cg_onSome cg_onCells cg_onRow cg_onRow2 cg_frhV cg_frhO cg_onMap cg_onOpt cg_ghosts cg_ghost cg_evCall cg_part cg_rng cg_guardV cg_frzV cg_frpV cg_ownV cg_owcV cg_occV cg_occX cg_resK cg_res1 cg_yldP cg_rndE cg_onlyN cg_onHist
attribute [local irreducible] IntKind.wrap bitsOp Option.getD and or

def GCode.far (c : GCode) : Bool := decide (20 < c.words.length) || decide (20 < c.next.length) || c.words.any (fun r => decide (20 < r.2.length)) || c.next.any (fun r => decide (20 < r.2.length))
theorem any_iff {l : Rows} {p : Bool × List Int → Bool} : l.any p = false ↔ ∀ (j : Nat), j < l.length → p (l[j]?.getD default) = false := by
  rw [List.any_eq_false]
  constructor
  · intro h j hj; simpa using h _ (getD_mem hj)
  · intro h x hx
    obtain ⟨j, hj, rfl⟩ := List.getElem_of_mem hx
    have := h j hj
    rw [List.getElem?_eq_getElem hj, Option.getD_some] at this
    simpa using this
theorem any_bad {l : Rows} {p : Bool × List Int → Bool} {j : Nat} (hj : j < l.length) (h : p (l[j]?.getD default) = true) : l.any p = true := by
  cases ha : l.any p with
  | true => rfl
  | false => rw [any_iff.1 ha j hj] at h; cases h

theorem law04_Far_ret (c : GCode) : Ret E0 F_law04_Far [codeD c] (.bool c.far) := by
  refine ret_of_pw dec_law04_Far mixed (by simp) fun hwf => ?_
  simp only [wf_int, wf_bool, wf_ints, wf_list, wf_agg, wf_ptr, wf_fn, wf_tup, wf_all_cons, wf_all_nil, wf_all_map, inK_i64, maxLen_eq, List.length_map, ints_len, true_and, and_true, codeD_eq, codeC_eq, rowsD_eq] at hwf
  rw [enter_eq]; unfold pc_law04_Far
  (try (simp -implicitDefEqProofs only [go_sem, codeD_eq, codeC_eq, rowsD_eq])); repeat' first | with_reducible exact True.intro | with_reducible refine And.intro ?_ ?_ | with_reducible intro _ | (((with_reducible refine vc_b ?_ ?_) <;> intro _) <;> try (simp -implicitDefEqProofs only [go_sem, codeD_eq, codeC_eq, rowsD_eq])) | simp (disch := omega) only [wrapI, wrapU, shl1, shl1', shl1'', shrN, shrN', and_one] | ((with_reducible refine isEx ?_); refine ⟨_, rfl, ?_, ?_⟩)
  · have : decide (20 < c.words.length) = true := by simp; omega
    simp only [GCode.far, this, Bool.true_or]
  · have : decide (20 < c.next.length) = true := by simp; omega
    simp only [GCode.far, this, Bool.true_or, Bool.or_true]
  · refine pw_loopS (α := Int) (l0 := ?l1) (m0 := ?m1) (fun x => [(3, .d (.int .i64 x))]) (fun x => []) (fun x => 0 ≤ x ∧ x ≤ c.words.length ∧ ∀ (j : Nat), (j : Int) < x → (c.words[j]?.getD default).2.length ≤ 20) (fun x => (c.words.length - x).toNat) ?a1_0 ?h01 ?he1 ?he21 ?hI1 ?step1
    case h01 => (simp -implicitDefEqProofs only [go_sem, codeD_eq, codeC_eq, rowsD_eq]; rfl)
    case he1 => rfl
    case he21 => rfl
    case' step1 => (rintro i hI; try dsimp only at hI)
    case' hI1 => try dsimp only
    · simp; omega
    by_cases hi : i < c.words.length
    · have hs : (c.words[i.toNat]?.getD default).2.length ≤ 20 → ∀ (j : Nat), (j : Int) < i + 1 → (c.words[j]?.getD default).2.length ≤ 20 := fun h1 j hj => by
        by_cases hji : j = i.toNat
        · subst hji; exact h1
        · exact hI.2.2 j (by omega)
      (try (simp -implicitDefEqProofs only [go_sem, rowsD_eq, rowD_eq])); repeat' first | with_reducible exact True.intro | with_reducible refine And.intro ?_ ?_ | with_reducible intro _ | (((with_reducible refine vc_b ?_ ?_) <;> intro _) <;> try (simp -implicitDefEqProofs only [go_sem, rowsD_eq, rowD_eq])) | simp (disch := omega) only [wrapI, wrapU, shl1, shl1', shl1'', shrN, shrN', and_one] | ((with_reducible refine isEx ?_); refine ⟨_, rfl, ?_, ?_⟩)
      all_goals (try simp (disch := omega) only [wrapI, wrapU, shl1, shl1', shl1'', shrN, shrN', and_one] at *)
      all_goals first | omega | (simp; done) | (simp; omega) | skip
      · have := any_bad (l := c.words) (p := fun r => decide (20 < r.2.length)) (j := i.toNat) (by omega) (by simp; omega)
        simp only [GCode.far, this, Bool.true_or, Bool.or_true]
      · exact hs (by omega) _ (by assumption)
    · have h1 : c.words.any (fun r => decide (20 < r.2.length)) = false := any_iff.2 fun j hj => by simpa using hI.2.2 j (by omega)
      (try (simp -implicitDefEqProofs only [go_sem, rowsD_eq])); repeat' first | with_reducible exact True.intro | with_reducible refine And.intro ?_ ?_ | with_reducible intro _ | (((with_reducible refine vc_b ?_ ?_) <;> intro _) <;> try (simp -implicitDefEqProofs only [go_sem, rowsD_eq])) | simp (disch := omega) only [wrapI, wrapU, shl1, shl1', shl1'', shrN, shrN', and_one] | ((with_reducible refine isEx ?_); refine ⟨_, rfl, ?_, ?_⟩)
      all_goals first | omega | (simp; done) | (simp; omega) | skip
      refine pw_loopS (α := Int) (l0 := ?l2) (m0 := ?m2) (fun x => [(4, .d (.int .i64 x))]) (fun x => []) (fun x => 0 ≤ x ∧ x ≤ c.next.length ∧ ∀ (j : Nat), (j : Int) < x → (c.next[j]?.getD default).2.length ≤ 20) (fun x => (c.next.length - x).toNat) ?a2_0 ?h02 ?he2 ?he22 ?hI2 ?step2
      case h02 => (simp -implicitDefEqProofs only [go_sem, codeD_eq, codeC_eq, rowsD_eq]; rfl)
      case he2 => rfl
      case he22 => rfl
      case' step2 => (rintro k hI2; try dsimp only at hI2)
      case' hI2 => try dsimp only
      · simp; omega
      by_cases hk : k < c.next.length
      · have hs : (c.next[k.toNat]?.getD default).2.length ≤ 20 → ∀ (j : Nat), (j : Int) < k + 1 → (c.next[j]?.getD default).2.length ≤ 20 := fun h1 j hj => by
          by_cases hji : j = k.toNat
          · subst hji; exact h1
          · exact hI2.2.2 j (by omega)
        (try (simp -implicitDefEqProofs only [go_sem, rowsD_eq, rowD_eq])); repeat' first | with_reducible exact True.intro | with_reducible refine And.intro ?_ ?_ | with_reducible intro _ | (((with_reducible refine vc_b ?_ ?_) <;> intro _) <;> try (simp -implicitDefEqProofs only [go_sem, rowsD_eq, rowD_eq])) | simp (disch := omega) only [wrapI, wrapU, shl1, shl1', shl1'', shrN, shrN', and_one] | ((with_reducible refine isEx ?_); refine ⟨_, rfl, ?_, ?_⟩)
        all_goals (try simp (disch := omega) only [wrapI, wrapU, shl1, shl1', shl1'', shrN, shrN', and_one] at *)
        all_goals first | omega | (simp; done) | (simp; omega) | skip
        · have := any_bad (l := c.next) (p := fun r => decide (20 < r.2.length)) (j := k.toNat) (by omega) (by simp; omega)
          simp only [GCode.far, this, Bool.true_or, Bool.or_true]
        · exact hs (by omega) _ (by assumption)
      · have h2 : c.next.any (fun r => decide (20 < r.2.length)) = false := any_iff.2 fun j hj => by simpa using hI2.2.2 j (by omega)
        (try (simp -implicitDefEqProofs only [go_sem, rowsD_eq])); repeat' first | with_reducible exact True.intro | with_reducible refine And.intro ?_ ?_ | with_reducible intro _ | (((with_reducible refine vc_b ?_ ?_) <;> intro _) <;> try (simp -implicitDefEqProofs only [go_sem, rowsD_eq])) | simp (disch := omega) only [wrapI, wrapU, shl1, shl1', shl1'', shrN, shrN', and_one] | ((with_reducible refine isEx ?_); refine ⟨_, rfl, ?_, ?_⟩)
        all_goals first | omega | (simp; done) | (simp; omega) | skip
        have h3 : decide (20 < c.words.length) = false := by simp; omega
        have h4 : decide (20 < c.next.length) = false := by simp; omega
        simp only [GCode.far, h1, h2, h3, h4]; simp

theorem law04_valid_ret (c : GCode) (s : Int) : Ret E0 F_law04_valid [codeD c, .int .i64 s] (.bool (!c.far && (c.ok && c.isState s))) := by
  refine ret_of_pw dec_law04_valid mixed (by simp) fun hwf => ?_
  rw [enter_eq]; unfold pc_law04_valid
  (try (simp -implicitDefEqProofs only [go_sem, codeD_eq, codeC_eq])); repeat' first | with_reducible exact True.intro | with_reducible refine And.intro ?_ ?_ | with_reducible intro _ | (((with_reducible refine isCall ?_); first | refine call_b (law04_Far_ret c) rfl ?_ ?_ | refine call_d (law04_Far_ret c) rfl ?_ | refine call_sb (law04_Far_ret c) rfl ?_ ?_ | refine call_s (law04_Far_ret c) rfl rfl ?_ | refine call_b (ref04_CheckState_ret c s) rfl ?_ ?_ | refine call_d (ref04_CheckState_ret c s) rfl ?_ | refine call_sb (ref04_CheckState_ret c s) rfl ?_ ?_ | refine call_s (ref04_CheckState_ret c s) rfl rfl ?_) <;> try (simp -implicitDefEqProofs only [go_sem, codeD_eq, codeC_eq])) | (((with_reducible refine vc_b ?_ ?_) <;> intro _) <;> try (simp -implicitDefEqProofs only [go_sem, codeD_eq, codeC_eq])) | simp (disch := omega) only [wrapI, wrapU, shl1, shl1', shl1'', shrN, shrN', and_one] 
  all_goals (cases hok : c.ok <;> cases hst : c.isState s <;> simp_all)

def exCode : GCode := ⟨1, 2, 1, 3, false, [(false, [2, 1]), (false, [0, 1])], false, [(false, [0, 1]), (false, [0, 1])]⟩
theorem law04_Example_ret : Ret E0 F_law04_Example [] (codeD exCode) := by
  refine ret_of_pw dec_law04_Example mixed (by simp) fun hwf => ?_
  rw [enter_eq]; unfold pc_law04_Example
  (try (simp -implicitDefEqProofs only [go_sem])); repeat' first | with_reducible exact True.intro | with_reducible refine And.intro ?_ ?_ | with_reducible intro _ | (((with_reducible refine vc_b ?_ ?_) <;> intro _) <;> try (simp -implicitDefEqProofs only [go_sem])) | simp (disch := omega) only [wrapI, wrapU, shl1, shl1', shl1'', shrN, shrN', and_one] 
  rfl

theorem ex_eq : codeD exCode = .agg [.int .i64 1, .int .i64 2, .int .i64 1, .int .i64 3, .list false [.list false [.int .i64 2, .int .i64 1], .list false [.int .i64 0, .int .i64 1]], .list false [.list false [.int .i64 0, .int .i64 1], .list false [.int .i64 0, .int .i64 1]]] := rfl
theorem law04_works_ret : Ret E0 F_law04_works [] (.bool true) := by
  refine ret_of_pw dec_law04_works mixed (by simp) fun hwf => ?_
  have ce := codes_Encode_ret exCode 0 false [1, 0, 1]
  have co := codes_Order_ret exCode
  have cf := codes_Find_ret false false [1, 0, 0, 0, 0, 1] [0, 1, 0, 0, 0, 0, 1, 0, 1] 2
  have e1 : exCode.encode 0 [1, 0, 1] = ([0, 1, 0, 0, 0, 1], 1, 0) := by decide +kernel
  have e2 : exCode.order = (1, 0) := by decide +kernel
  have e3 : findR [1, 0, 0, 0, 0, 1] [0, 1, 0, 0, 0, 0, 1, 0, 1] 2 = ([1, 3], 0) := by decide +kernel
  rw [e1] at ce
  rw [e2] at co
  rw [e3] at cf
  have s1 := law04_sameInts_ret false false [0, 1, 0, 0, 0, 1] [0, 1, 0, 0, 0, 1]
  have s2 := law04_sameInts_ret false false [1, 3] [1, 3]
  rw [enter_eq]; unfold pc_law04_works
  (try (simp -implicitDefEqProofs only [go_sem, ex_eq])); repeat' first | with_reducible exact True.intro | with_reducible refine And.intro ?_ ?_ | with_reducible intro _ | (((with_reducible refine isCall ?_); first | refine call_b (law04_Example_ret) rfl ?_ ?_ | refine call_d (law04_Example_ret) rfl ?_ | refine call_sb (law04_Example_ret) rfl ?_ ?_ | refine call_s (law04_Example_ret) rfl rfl ?_ | refine call_b (ce) rfl ?_ ?_ | refine call_d (ce) rfl ?_ | refine call_sb (ce) rfl ?_ ?_ | refine call_s (ce) rfl rfl ?_ | refine call_b (co) rfl ?_ ?_ | refine call_d (co) rfl ?_ | refine call_sb (co) rfl ?_ ?_ | refine call_s (co) rfl rfl ?_ | refine call_b (cf) rfl ?_ ?_ | refine call_d (cf) rfl ?_ | refine call_sb (cf) rfl ?_ ?_ | refine call_s (cf) rfl rfl ?_ | refine call_b (s1) rfl ?_ ?_ | refine call_d (s1) rfl ?_ | refine call_sb (s1) rfl ?_ ?_ | refine call_s (s1) rfl rfl ?_ | refine call_b (s2) rfl ?_ ?_ | refine call_d (s2) rfl ?_ | refine call_sb (s2) rfl ?_ ?_ | refine call_s (s2) rfl rfl ?_) <;> try (simp -implicitDefEqProofs only [go_sem, ex_eq])) | (((with_reducible refine vc_b ?_ ?_) <;> intro _) <;> try (simp -implicitDefEqProofs only [go_sem, ex_eq])) | simp (disch := omega) only [wrapI, wrapU, shl1, shl1', shl1'', shrN, shrN', and_one] 
  all_goals simp at *
end Go.Pw
end
