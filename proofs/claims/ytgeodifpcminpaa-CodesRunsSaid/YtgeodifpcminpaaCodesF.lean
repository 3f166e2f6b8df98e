/- A part of the proof. -/
import Derived.Test.YtgeodifpcminpaaCodesE
set_option linter.all false
open Go Go.Pw Go.Proofs
namespace Go.Pw
set_option linter.unusedSimpArgs false
set_option linter.unusedVariables false
set_option maxRecDepth 100000
set_option maxHeartbeats 1600000
attribute [local congr] cg_pw cg_seqI cg_seqE cg_stepI cg_ev cg_evBin cg_condB cg_condV cg_thenQ cg_blockQ cg_onSome cg_onCells cg_onRow cg_onMap cg_onOpt cg_ghosts cg_ghost cg_evCall cg_part cg_rng cg_guardV cg_frzV cg_frpV cg_ownV cg_owcV cg_occV cg_occX cg_resK cg_res1
attribute [local irreducible] IntKind.wrap bitsOp Option.getD and or

theorem level_good {c : GCode} (h : c.ok = true) (differ : Bool) (l : List Pair) (hl : ∀ p, p ∈ l → c.isState p.1 = true ∧ c.isState p.2 = true) : c.GoodP (c.level l differ) := by
  have hA : ∀ (p : Pair), c.isState p.1 = true ∧ c.isState p.2 = true → ∀ (a : Int), c.isWord a = true → ∀ (n : Nat) (b : Int) (out : List Pair), 0 ≤ b → b + n ≤ c.W → c.GoodP out → c.GoodP (foldN (c.lvl differ p a) n b out) := by
    intro p hp a ha n
    induction n with
    | zero => intro b out _ _ hg; exact hg
    | succ n ih =>
      intro b out h0 h1 hg
      rw [foldN]
      have hW := c.W_eq
      have hbw : c.isWord b = true := by simp only [GCode.isWord, inR, decide_eq_true_eq]; omega
      exact ih (b + 1) _ (by omega) (by omega) (GCode.lvl_good h hp ha hbw hg)
  have hP : ∀ (p : Pair), c.isState p.1 = true ∧ c.isState p.2 = true → ∀ (n : Nat) (a : Int) (out : List Pair), 0 ≤ a → a + n ≤ c.W → c.GoodP out → c.GoodP (foldN (c.lvlA differ p) n a out) := by
    intro p hp n
    induction n with
    | zero => intro b out _ _ hg; exact hg
    | succ n ih =>
      intro a out h0 h1 hg
      rw [foldN]
      have hW := c.W_eq
      have haw : c.isWord a = true := by simp only [GCode.isWord, inR, decide_eq_true_eq]; omega
      exact ih (a + 1) _ (by omega) (by omega) (hA p hp a haw c.W 0 out (by omega) (by omega) hg)
  have : ∀ (l : List Pair) (out : List Pair), (∀ p, p ∈ l → c.isState p.1 = true ∧ c.isState p.2 = true) → c.GoodP out → c.GoodP (l.foldl (c.lvlP differ) out) := by
    intro l
    induction l with
    | nil => intro out _ hg; exact hg
    | cons p l ih =>
      intro out hl hg
      rw [List.foldl_cons]
      exact ih _ (fun q hq => hl q (by simp [hq])) (hP p (hl p (by simp)) c.W 0 out (by omega) (by omega) hg)
  exact this l [] hl ⟨by simp, by simp⟩

theorem codes_Order_ret (c : GCode) : Ret E0 F_codes_Order [codeD c] (.tup [.int .i64 c.order.1, .int .i64 c.order.2]) := by
  refine ret_of_pw dec_codes_Order mixed (by simp) fun hwf => ?_
  have hb57 : hasBody E0.P F_codes_Order_1 = true := by kernel_rfl
  rw [enter_eq]; unfold pc_codes_Order
  cases hok : c.ok with
  | false =>
    have ho : c.order = (0, 40) := by simp [GCode.order, hok]
    rw [ho]
    (try (simp -implicitDefEqProofs only [go_sem, codeD_eq, codeC_eq, rowsD_eq])); repeat' first | with_reducible exact True.intro | with_reducible refine And.intro ?_ ?_ | with_reducible intro _ | (((with_reducible refine isCall ?_); first | refine call_b (codes_Check_ret c) rfl ?_ ?_ | refine call_d (codes_Check_ret c) rfl ?_ | refine call_sb (codes_Check_ret c) rfl ?_ ?_ | refine call_s (codes_Check_ret c) rfl rfl ?_) <;> try (simp -implicitDefEqProofs only [go_sem, codeD_eq, codeC_eq, rowsD_eq])) | (((with_reducible refine vc_b ?_ ?_) <;> intro _) <;> try (simp -implicitDefEqProofs only [go_sem, codeD_eq, codeC_eq, rowsD_eq])) | simp (disch := omega) only [wrapI, wrapU, shl1, shl1', shl1'', shrN, shrN', and_one] | ((with_reducible refine isEx8 ?_); refine ⟨(_, _, _, _, _, _, _, _), rfl, ?_, ?_⟩) | ((with_reducible refine isEx7 ?_); refine ⟨(_, _, _, _, _, _, _), rfl, ?_, ?_⟩) | ((with_reducible refine isEx6 ?_); refine ⟨(_, _, _, _, _, _), rfl, ?_, ?_⟩) | ((with_reducible refine isEx5 ?_); refine ⟨(_, _, _, _, _), rfl, ?_, ?_⟩) | ((with_reducible refine isEx4 ?_); refine ⟨(_, _, _, _), rfl, ?_, ?_⟩) | ((with_reducible refine isEx3 ?_); refine ⟨(_, _, _), rfl, ?_, ?_⟩) | ((with_reducible refine isEx2 ?_); refine ⟨(_, _), rfl, ?_, ?_⟩) | ((with_reducible refine isEx ?_); refine ⟨_, rfl, ?_, ?_⟩)
    all_goals simp_all [errI]
  | true =>
    have hd := GCode.ok_head hok
    have ho : c.order = c.orderF (c.words.length * c.words.length + 1) 1 c.pairs0 := by simp [GCode.order, hok]
    rw [ho]
    (try (simp -implicitDefEqProofs only [go_sem, codeD_eq, codeC_eq, rowsD_eq])); repeat' first | with_reducible exact True.intro | with_reducible refine And.intro ?_ ?_ | with_reducible intro _ | (((with_reducible refine isCall ?_); first | refine call_b (codes_Check_ret c) rfl ?_ ?_ | refine call_d (codes_Check_ret c) rfl ?_ | refine call_sb (codes_Check_ret c) rfl ?_ ?_ | refine call_s (codes_Check_ret c) rfl rfl ?_) <;> try (simp -implicitDefEqProofs only [go_sem, codeD_eq, codeC_eq, rowsD_eq])) | (((with_reducible refine vc_b ?_ ?_) <;> intro _) <;> try (simp -implicitDefEqProofs only [go_sem, codeD_eq, codeC_eq, rowsD_eq])) | simp (disch := omega) only [wrapI, wrapU, shl1, shl1', shl1'', shrN, shrN', and_one] | ((with_reducible refine isEx8 ?_); refine ⟨(_, _, _, _, _, _, _, _), rfl, ?_, ?_⟩) | ((with_reducible refine isEx7 ?_); refine ⟨(_, _, _, _, _, _, _), rfl, ?_, ?_⟩) | ((with_reducible refine isEx6 ?_); refine ⟨(_, _, _, _, _, _), rfl, ?_, ?_⟩) | ((with_reducible refine isEx5 ?_); refine ⟨(_, _, _, _, _), rfl, ?_, ?_⟩) | ((with_reducible refine isEx4 ?_); refine ⟨(_, _, _, _), rfl, ?_, ?_⟩) | ((with_reducible refine isEx3 ?_); refine ⟨(_, _, _), rfl, ?_, ?_⟩) | ((with_reducible refine isEx2 ?_); refine ⟨(_, _), rfl, ?_, ?_⟩) | ((with_reducible refine isEx ?_); refine ⟨_, rfl, ?_, ?_⟩)
    all_goals try (exfalso; simp_all [errI]; done)
    refine pw_loopS (α := Int × Bool × (List Pair)) (l0 := ?l1) (m0 := ?m1) (fun x => [(22, .d (.int .i64 x.1))]) (fun x => [(30, .row 88 2 x.2.1 (pairsD x.2.2))]) (fun x => 0 ≤ x.1 ∧ x.1 ≤ c.words.length ∧ x.2.1 = x.2.2.isEmpty ∧ x.2.2 = (List.range x.1.toNat).map fun (s : Nat) => ((s : Int), (s : Int))) (fun x => (c.words.length - x.1).toNat) (?a1_0, ?a1_1, []) ?h01 ?he1 ?he21 ?hI1 ?step1
    case h01 => (simp -implicitDefEqProofs only [go_sem, pairsD_len]; rfl)
    case he1 => rfl
    case he21 => rfl
    case' step1 => (rintro ⟨i, nl, out⟩ hI; try dsimp only at hI)
    case' hI1 => try dsimp only
    · simp
    by_cases hi : i < c.words.length
    · have hlen : out.length = i.toNat := by rw [hI.2.2.2]; simp
      (try (simp -implicitDefEqProofs only [go_sem, pairsD_len, pairsD_snoc, pairsD_unif, pairsD_empty, pairD_eq])); repeat' first | with_reducible exact True.intro | with_reducible refine And.intro ?_ ?_ | with_reducible intro _ | (((with_reducible refine vc_b ?_ ?_) <;> intro _) <;> try (simp -implicitDefEqProofs only [go_sem, pairsD_len, pairsD_snoc, pairsD_unif, pairsD_empty, pairD_eq])) | simp (disch := omega) only [wrapI, wrapU, shl1, shl1', shl1'', shrN, shrN', and_one] | ((with_reducible refine isEx8 ?_); refine ⟨(_, _, _, _, _, _, _, _), rfl, ?_, ?_⟩) | ((with_reducible refine isEx7 ?_); refine ⟨(_, _, _, _, _, _, _), rfl, ?_, ?_⟩) | ((with_reducible refine isEx6 ?_); refine ⟨(_, _, _, _, _, _), rfl, ?_, ?_⟩) | ((with_reducible refine isEx5 ?_); refine ⟨(_, _, _, _, _), rfl, ?_, ?_⟩) | ((with_reducible refine isEx4 ?_); refine ⟨(_, _, _, _), rfl, ?_, ?_⟩) | ((with_reducible refine isEx3 ?_); refine ⟨(_, _, _), rfl, ?_, ?_⟩) | ((with_reducible refine isEx2 ?_); refine ⟨(_, _), rfl, ?_, ?_⟩) | ((with_reducible refine isEx ?_); refine ⟨_, rfl, ?_, ?_⟩)
      all_goals first | omega | (simp; done) | (simp; omega) | skip
      · rw [hI.2.2.2, show (i + 1).toNat = i.toNat + 1 by omega, List.range_succ, List.map_append]; simp; omega
    · have h0 : out = c.pairs0 := by rw [hI.2.2.2, GCode.pairs0, show i.toNat = c.words.length by omega]
      subst h0
      (try (simp -implicitDefEqProofs only [go_sem, pairsD_len])); repeat' first | with_reducible exact True.intro | with_reducible refine And.intro ?_ ?_ | with_reducible intro _ | (((with_reducible refine vc_b ?_ ?_) <;> intro _) <;> try (simp -implicitDefEqProofs only [go_sem, pairsD_len])) | simp (disch := omega) only [wrapI, wrapU, shl1, shl1', shl1'', shrN, shrN', and_one] | ((with_reducible refine isEx8 ?_); refine ⟨(_, _, _, _, _, _, _, _), rfl, ?_, ?_⟩) | ((with_reducible refine isEx7 ?_); refine ⟨(_, _, _, _, _, _, _), rfl, ?_, ?_⟩) | ((with_reducible refine isEx6 ?_); refine ⟨(_, _, _, _, _, _), rfl, ?_, ?_⟩) | ((with_reducible refine isEx5 ?_); refine ⟨(_, _, _, _, _), rfl, ?_, ?_⟩) | ((with_reducible refine isEx4 ?_); refine ⟨(_, _, _, _), rfl, ?_, ?_⟩) | ((with_reducible refine isEx3 ?_); refine ⟨(_, _, _), rfl, ?_, ?_⟩) | ((with_reducible refine isEx2 ?_); refine ⟨(_, _), rfl, ?_, ?_⟩) | ((with_reducible refine isEx ?_); refine ⟨_, rfl, ?_, ?_⟩)
      all_goals first | omega | (simp; done) | (simp; omega) | skip
      have hlw : (c.words.length : Int) * c.words.length ≤ 16 ∧ 1 ≤ (c.words.length : Int) * c.words.length := by
        have : c.words.length = 1 ∨ c.words.length = 2 ∨ c.words.length = 3 ∨ c.words.length = 4 := by omega
        rcases this with h | h | h | h <;> rw [h] <;> simp
      have hlwN : ((c.words.length * c.words.length : Nat) : Int) = (c.words.length : Int) * c.words.length := by simp
      generalize hN : c.words.length * c.words.length = N at *
      have hgood0 : ∀ p, p ∈ c.pairs0 → c.isState p.1 = true ∧ c.isState p.2 = true := by
        intro p hp
        simp only [GCode.pairs0, List.mem_map, List.mem_range] at hp
        obtain ⟨s, hs, rfl⟩ := hp
        simp [GCode.isState, inR]; omega
      refine pw_loopS (α := Int × Bool × (List Pair)) (l0 := ?l2) (m0 := ?m2) (fun x => [(9, .d (.int .i64 x.1)), (7, .d (.list x.2.1 (pairsD x.2.2)))]) (fun x => []) (fun x => 1 ≤ x.1 ∧ x.1 ≤ N + 2 ∧ (∀ p, p ∈ x.2.2 → c.isState p.1 = true ∧ c.isState p.2 = true) ∧ c.orderF (N + 2 - x.1).toNat x.1 x.2.2 = c.orderF (N + 1) 1 c.pairs0) (fun x => (N + 2 - x.1).toNat) (?a2_0, ?a2_1, c.pairs0) ?h02 ?he2 ?he22 ?hI2 ?step2
      case h02 => (simp -implicitDefEqProofs only [go_sem, pairsD_len]; rfl)
      case he2 => rfl
      case he22 => rfl
      case' step2 => (rintro ⟨k, nl2, now⟩ hI2; try dsimp only at hI2)
      case' hI2 => try dsimp only
      · refine ⟨by omega, by omega, hgood0, ?_⟩
        rw [show ((N : Int) + 2 - 1).toNat = N + 1 by omega]
      by_cases hk : k ≤ N + 1
      · have hs : (N + 2 - k).toNat = (N + 2 - (k + 1)).toNat + 1 := by omega
        have hst := hI2.2.2.2
        rw [hs, GCode.orderF] at hst
        obtain ⟨d, hdk⟩ : ∃ d, decide (k = 1) = d := ⟨_, rfl⟩
        rw [hdk] at hst
        have c1 := fun nl => codes_Order_1_ret c hok nl now hI2.2.2.1 true
        have c2 := fun nl => codes_Order_1_ret c hok nl now hI2.2.2.1 false
        (try (simp -implicitDefEqProofs only [go_sem, pairsD_len, codeC_eq, rowsD_eq, ← hlwN])); repeat' first | with_reducible exact True.intro | with_reducible refine And.intro ?_ ?_ | with_reducible intro _ | (((with_reducible refine isCall ?_); first | refine call_b (c1 _) rfl ?_ ?_ | refine call_d (c1 _) rfl ?_ | refine call_sb (c1 _) rfl ?_ ?_ | refine call_s (c1 _) rfl rfl ?_ | refine call_b (c2 _) rfl ?_ ?_ | refine call_d (c2 _) rfl ?_ | refine call_sb (c2 _) rfl ?_ ?_ | refine call_s (c2 _) rfl rfl ?_) <;> try (simp -implicitDefEqProofs only [go_sem, pairsD_len, codeC_eq, rowsD_eq, ← hlwN])) | (((with_reducible refine vc_b ?_ ?_) <;> intro _) <;> try (simp -implicitDefEqProofs only [go_sem, pairsD_len, codeC_eq, rowsD_eq, ← hlwN])) | simp (disch := omega) only [wrapI, wrapU, shl1, shl1', shl1'', shrN, shrN', and_one] | ((with_reducible refine isEx8 ?_); refine ⟨(_, _, _, _, _, _, _, _), rfl, ?_, ?_⟩) | ((with_reducible refine isEx7 ?_); refine ⟨(_, _, _, _, _, _, _), rfl, ?_, ?_⟩) | ((with_reducible refine isEx6 ?_); refine ⟨(_, _, _, _, _, _), rfl, ?_, ?_⟩) | ((with_reducible refine isEx5 ?_); refine ⟨(_, _, _, _, _), rfl, ?_, ?_⟩) | ((with_reducible refine isEx4 ?_); refine ⟨(_, _, _, _), rfl, ?_, ?_⟩) | ((with_reducible refine isEx3 ?_); refine ⟨(_, _, _), rfl, ?_, ?_⟩) | ((with_reducible refine isEx2 ?_); refine ⟨(_, _), rfl, ?_, ?_⟩) | ((with_reducible refine isEx ?_); refine ⟨_, rfl, ?_, ?_⟩)
        all_goals (try simp (disch := omega) only [wrapI, wrapU, shl1, shl1', shl1'', shrN, shrN', and_one] at *)
        all_goals first | omega | (simp; done) | (simp; omega) | skip
        all_goals first
          | exact ((level_good hok true now hI2.2.2.1).2 _ (by assumption)).1
          | exact ((level_good hok true now hI2.2.2.1).2 _ (by assumption)).2
          | (have hdd : d = true := by rw [← hdk]; simp; omega
             subst hdd
             first
               | (have he : c.level now true = [] := List.isEmpty_iff.1 (by assumption)
                  try dsimp only at hst
                  rw [if_pos he] at hst; rw [← hst]; done)
               | (have he : ¬ c.level now true = [] := by intro h; simp_all
                  try dsimp only at hst
                  rw [if_neg he] at hst; exact hst))
          | exact ((level_good hok false now hI2.2.2.1).2 _ (by assumption)).1
          | exact ((level_good hok false now hI2.2.2.1).2 _ (by assumption)).2
          | (have hdd : d = false := by rw [← hdk]; simp; omega
             subst hdd
             first
               | (have he : c.level now false = [] := List.isEmpty_iff.1 (by assumption)
                  try dsimp only at hst
                  rw [if_pos he] at hst; rw [← hst]; done)
               | (have he : ¬ c.level now false = [] := by intro h; simp_all
                  try dsimp only at hst
                  rw [if_neg he] at hst; exact hst))
      · (try (simp -implicitDefEqProofs only [go_sem, pairsD_len, rowsD_eq, ← hlwN])); repeat' first | with_reducible exact True.intro | with_reducible refine And.intro ?_ ?_ | with_reducible intro _ | (((with_reducible refine vc_b ?_ ?_) <;> intro _) <;> try (simp -implicitDefEqProofs only [go_sem, pairsD_len, rowsD_eq, ← hlwN])) | simp (disch := omega) only [wrapI, wrapU, shl1, shl1', shl1'', shrN, shrN', and_one] | ((with_reducible refine isEx8 ?_); refine ⟨(_, _, _, _, _, _, _, _), rfl, ?_, ?_⟩) | ((with_reducible refine isEx7 ?_); refine ⟨(_, _, _, _, _, _, _), rfl, ?_, ?_⟩) | ((with_reducible refine isEx6 ?_); refine ⟨(_, _, _, _, _, _), rfl, ?_, ?_⟩) | ((with_reducible refine isEx5 ?_); refine ⟨(_, _, _, _, _), rfl, ?_, ?_⟩) | ((with_reducible refine isEx4 ?_); refine ⟨(_, _, _, _), rfl, ?_, ?_⟩) | ((with_reducible refine isEx3 ?_); refine ⟨(_, _, _), rfl, ?_, ?_⟩) | ((with_reducible refine isEx2 ?_); refine ⟨(_, _), rfl, ?_, ?_⟩) | ((with_reducible refine isEx ?_); refine ⟨_, rfl, ?_, ?_⟩)
        all_goals (try simp (disch := omega) only [wrapI, wrapU, shl1, shl1', shl1'', shrN, shrN', and_one] at *)
        all_goals first | omega | (simp; done) | (simp; omega) | skip
        have h0 : (N + 2 - k : Int).toNat = 0 := by omega
        have hst := hI2.2.2.2
        rw [h0, GCode.orderF] at hst
        rw [← hst]
end Go.Pw
