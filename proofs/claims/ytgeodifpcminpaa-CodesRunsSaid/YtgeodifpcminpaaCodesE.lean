/- A part of the proof. -/
import Derived.Test.YtgeodifpcminpaaCodesD
set_option linter.all false
open Go Go.Pw Go.Proofs
namespace Go.Pw
set_option linter.unusedSimpArgs false
set_option linter.unusedVariables false
set_option maxRecDepth 100000
set_option maxHeartbeats 1600000
attribute [local congr] cg_pw cg_seqI cg_seqE cg_stepI cg_ev cg_evBin cg_condB cg_condV cg_thenQ cg_blockQ cg_onSome cg_onCells cg_onRow cg_onMap cg_onOpt cg_ghosts cg_ghost cg_evCall cg_part cg_rng cg_guardV cg_frzV cg_frpV cg_ownV cg_owcV cg_occV cg_occX cg_resK cg_res1
attribute [local irreducible] IntKind.wrap bitsOp Option.getD and or

theorem GCode.lvl_good {c : GCode} (h : c.ok = true) {differ : Bool} {p : Pair} {a b : Int} {out : List Pair} (hp : c.isState p.1 = true ∧ c.isState p.2 = true) (ha : c.isWord a = true) (hb : c.isWord b = true) (hg : c.GoodP out) : c.GoodP (c.lvl differ p a out b) := by
  unfold GCode.lvl
  split
  · rename_i hc
    refine ⟨?_, fun q hq => ?_⟩
    · rw [List.nodup_append]
      exact ⟨hg.1, by simp, fun x hx y hy => by simp at hy; subst hy; intro he; subst he; exact hc.2.2 hx⟩
    · simp only [List.mem_append, List.mem_singleton] at hq
      rcases hq with hq | rfl
      · exact hg.2 q hq
      · exact ⟨GCode.nxt_state h hp.1 ha, GCode.nxt_state h hp.2 hb⟩
  · exact hg
theorem GCode.W_eq (c : GCode) : (c.W : Int) = 2 ^ c.bits.toNat := by simp [GCode.W]
theorem foldN_step {β : Type} (f : β → Int → β) {w : Nat} {i : Int} (b : β) (h0 : 0 ≤ i) (h : i < w) : foldN f (w - i.toNat) i b = foldN f (w - (i + 1).toNat) (i + 1) (f b i) := by
  rw [show w - i.toNat = (w - (i + 1).toNat) + 1 by omega, foldN]
theorem foldN_end {β : Type} (f : β → Int → β) {w : Nat} {i : Int} (b : β) (h0 : 0 ≤ i) (h : ¬ i < w) : foldN f (w - i.toNat) i b = b := by
  rw [show w - i.toNat = 0 by omega, foldN]

theorem codes_Order_1_ret (c : GCode) (h : c.ok = true) (nl : Bool) (l : List Pair) (hl : ∀ p, p ∈ l → c.isState p.1 = true ∧ c.isState p.2 = true) (differ : Bool) :
    Ret E0 F_codes_Order_1 [.list nl (pairsD l), .bool differ, .ptr (codeC c)] (.list (c.level l differ).isEmpty (pairsD (c.level l differ))) := by
  refine ret_of_pw dec_codes_Order_1 mixed (by simp) fun hwf => ?_
  have hd := GCode.ok_head h
  have h12 := pow_12 (b := c.bits) (by omega)
  have hW := c.W_eq
  simp only [wf_int, wf_bool, wf_ints, wf_list, wf_agg, wf_ptr, wf_fn, wf_tup, wf_all_cons, wf_all_nil, wf_all_map, inK_i64, maxLen_eq, List.length_map, ints_len, true_and, and_true, pairsD_len] at hwf
  rw [enter_eq]; unfold pc_codes_Order_1
  simp -implicitDefEqProofs only [go_sem, pairsD_len]
  refine pw_loopS (α := Int × Bool × (List Pair)) (l0 := ?l1) (m0 := ?m1) (fun x => [(14, .d (.int .i64 x.1))]) (fun x => [(88, .row 88 2 x.2.1 (pairsD x.2.2))]) (fun x => 0 ≤ x.1 ∧ x.1 ≤ l.length ∧ x.2.1 = x.2.2.isEmpty ∧ c.GoodP x.2.2 ∧ (l.drop x.1.toNat).foldl (c.lvlP differ) x.2.2 = c.level l differ) (fun x => (l.length - x.1).toNat) (?a1_0, ?a1_1, []) ?h01 ?he1 ?he21 ?hI1 ?step1
  case h01 => (simp -implicitDefEqProofs only [go_sem, pairsD_len]; rfl)
  case he1 => rfl
  case he21 => rfl
  case' step1 => (rintro ⟨i, nl', out⟩ hI; try dsimp only at hI)
  case' hI1 => try dsimp only
  · simp [GCode.GoodP, GCode.level]
  by_cases hi : i < l.length
  · obtain ⟨p, hpe⟩ : ∃ p, l[i.toNat]?.getD default = p := ⟨_, rfl⟩
    have hpm : p ∈ l := by rw [← hpe]; exact getD_mem (by omega)
    have hp := hl p hpm
    have hstep : (l.drop i.toNat).foldl (c.lvlP differ) out = (l.drop (i + 1).toNat).foldl (c.lvlP differ) (c.lvlP differ out p) := by
      rw [show (i + 1).toNat = i.toNat + 1 by omega, List.drop_eq_getElem_cons (by omega), List.foldl_cons]
      rw [List.getElem?_eq_getElem (by omega), Option.getD_some] at hpe
      rw [hpe]
    (try (simp -implicitDefEqProofs only [go_sem, pairsD_len, onSome_pairs, hpe, pairD_eq, codeD_eq, codeC_eq])); repeat' first | with_reducible exact True.intro | with_reducible refine And.intro ?_ ?_ | with_reducible intro _ | (((with_reducible refine isCall ?_); first | refine call_b (codes_code_words_ret c (by omega)) rfl ?_ ?_ | refine call_d (codes_code_words_ret c (by omega)) rfl ?_ | refine call_sb (codes_code_words_ret c (by omega)) rfl ?_ ?_ | refine call_s (codes_code_words_ret c (by omega)) rfl rfl ?_) <;> try (simp -implicitDefEqProofs only [go_sem, pairsD_len, onSome_pairs, hpe, pairD_eq, codeD_eq, codeC_eq])) | (((with_reducible refine vc_b ?_ ?_) <;> intro _) <;> try (simp -implicitDefEqProofs only [go_sem, pairsD_len, onSome_pairs, hpe, pairD_eq, codeD_eq, codeC_eq])) | simp (disch := omega) only [wrapI, wrapU, shl1, shl1', shl1'', shrN, shrN', and_one] | ((with_reducible refine isEx8 ?_); refine ⟨(_, _, _, _, _, _, _, _), rfl, ?_, ?_⟩) | ((with_reducible refine isEx7 ?_); refine ⟨(_, _, _, _, _, _, _), rfl, ?_, ?_⟩) | ((with_reducible refine isEx6 ?_); refine ⟨(_, _, _, _, _, _), rfl, ?_, ?_⟩) | ((with_reducible refine isEx5 ?_); refine ⟨(_, _, _, _, _), rfl, ?_, ?_⟩) | ((with_reducible refine isEx4 ?_); refine ⟨(_, _, _, _), rfl, ?_, ?_⟩) | ((with_reducible refine isEx3 ?_); refine ⟨(_, _, _), rfl, ?_, ?_⟩) | ((with_reducible refine isEx2 ?_); refine ⟨(_, _), rfl, ?_, ?_⟩) | ((with_reducible refine isEx ?_); refine ⟨_, rfl, ?_, ?_⟩)
    all_goals first | omega | (simp; done) | (simp; omega) | skip
    · have hp1 := hp.1
      have hp2 := hp.2
      simp only [GCode.isState, inR, decide_eq_true_eq] at hp1 hp2
      have hn1 := GCode.ok_next h p.1.toNat (by omega)
      have hn2 := GCode.ok_next h p.2.toNat (by omega)
      have hw1 := GCode.ok_words h p.1.toNat (by omega)
      have hw2 := GCode.ok_words h p.2.toNat (by omega)
      refine pw_loopS (α := Int × Bool × (List Pair)) (l0 := ?l2) (m0 := ?m2) (fun x => [(20, .d (.int .i64 x.1))]) (fun x => [(88, .row 88 2 x.2.1 (pairsD x.2.2))]) (fun x => 0 ≤ x.1 ∧ x.1 ≤ c.W ∧ x.2.1 = x.2.2.isEmpty ∧ c.GoodP x.2.2 ∧ foldN (c.lvlA differ p) (c.W - x.1.toNat) x.1 x.2.2 = c.lvlP differ out p) (fun x => (c.W - x.1).toNat) (?a2_0, ?a2_1, out) ?h02 ?he2 ?he22 ?hI2 ?step2
      case h02 => (simp -implicitDefEqProofs only [go_sem, pairsD_len, hpe, pairD_eq]; rfl)
      case he2 => rfl
      case he22 => rfl
      case' step2 => (rintro ⟨a, nl2, out2⟩ hI2; try dsimp only at hI2)
      case' hI2 => try dsimp only
      · simp [GCode.lvlP]; simp_all
      by_cases ha : a < c.W
      · have haw : c.isWord a = true := by simp only [GCode.isWord, inR, decide_eq_true_eq]; omega
        have hsA := foldN_step (c.lvlA differ p) out2 hI2.1 ha
        (try (simp -implicitDefEqProofs only [go_sem, pairsD_len, onSome_pairs, hpe, pairD_eq, codeD_eq, codeC_eq])); repeat' first | with_reducible exact True.intro | with_reducible refine And.intro ?_ ?_ | with_reducible intro _ | (((with_reducible refine isCall ?_); first | refine call_b (codes_code_words_ret c (by omega)) rfl ?_ ?_ | refine call_d (codes_code_words_ret c (by omega)) rfl ?_ | refine call_sb (codes_code_words_ret c (by omega)) rfl ?_ ?_ | refine call_s (codes_code_words_ret c (by omega)) rfl rfl ?_) <;> try (simp -implicitDefEqProofs only [go_sem, pairsD_len, onSome_pairs, hpe, pairD_eq, codeD_eq, codeC_eq])) | (((with_reducible refine vc_b ?_ ?_) <;> intro _) <;> try (simp -implicitDefEqProofs only [go_sem, pairsD_len, onSome_pairs, hpe, pairD_eq, codeD_eq, codeC_eq])) | simp (disch := omega) only [wrapI, wrapU, shl1, shl1', shl1'', shrN, shrN', and_one] | ((with_reducible refine isEx8 ?_); refine ⟨(_, _, _, _, _, _, _, _), rfl, ?_, ?_⟩) | ((with_reducible refine isEx7 ?_); refine ⟨(_, _, _, _, _, _, _), rfl, ?_, ?_⟩) | ((with_reducible refine isEx6 ?_); refine ⟨(_, _, _, _, _, _), rfl, ?_, ?_⟩) | ((with_reducible refine isEx5 ?_); refine ⟨(_, _, _, _, _), rfl, ?_, ?_⟩) | ((with_reducible refine isEx4 ?_); refine ⟨(_, _, _, _), rfl, ?_, ?_⟩) | ((with_reducible refine isEx3 ?_); refine ⟨(_, _, _), rfl, ?_, ?_⟩) | ((with_reducible refine isEx2 ?_); refine ⟨(_, _), rfl, ?_, ?_⟩) | ((with_reducible refine isEx ?_); refine ⟨_, rfl, ?_, ?_⟩)
        all_goals first | omega | (simp; done) | (simp; omega) | skip
        · refine pw_loopS (α := Int × Bool × (List Pair)) (l0 := ?l3) (m0 := ?m3) (fun x => [(25, .d (.int .i64 x.1))]) (fun x => [(88, .row 88 2 x.2.1 (pairsD x.2.2))]) (fun x => 0 ≤ x.1 ∧ x.1 ≤ c.W ∧ x.2.1 = x.2.2.isEmpty ∧ c.GoodP x.2.2 ∧ foldN (c.lvl differ p a) (c.W - x.1.toNat) x.1 x.2.2 = c.lvlA differ p out2 a) (fun x => (c.W - x.1).toNat) (?a3_0, ?a3_1, out2) ?h03 ?he3 ?he23 ?hI3 ?step3
          case h03 => (simp -implicitDefEqProofs only [go_sem, pairsD_len, hpe, pairD_eq]; rfl)
          case he3 => rfl
          case he23 => rfl
          case' step3 => (rintro ⟨b, nl3, out3⟩ hI3; try dsimp only at hI3)
          case' hI3 => try dsimp only
          · simp [GCode.lvlA]; simp_all
          by_cases hb : b < c.W
          · have hbw : c.isWord b = true := by simp only [GCode.isWord, inR, decide_eq_true_eq]; omega
            have hsB := foldN_step (c.lvl differ p a) out3 hI3.1 hb
            have hg' := GCode.lvl_good (differ := differ) h hp haw hbw hI3.2.2.2.1
            have hlen := GCode.GoodP.len h hI3.2.2.2.1
            have cc := fun nl l => slices_Contains_pair_ret nl l (c.nxt p.1 a, c.nxt p.2 b)
            cases differ
            all_goals
              (try (simp -implicitDefEqProofs only [go_sem, pairsD_len, pairsD_snoc, pairsD_unif, pairsD_empty, onSome_pairs, rowsD_eq, rowD_eq, hpe, pairD_eq, codeC_eq, c.nxt_eq, c.wrd_eq])); repeat' first | with_reducible exact True.intro | with_reducible refine And.intro ?_ ?_ | with_reducible intro _ | (((with_reducible refine isCall ?_); first | refine call_b (cc _ _) rfl ?_ ?_ | refine call_d (cc _ _) rfl ?_ | refine call_sb (cc _ _) rfl ?_ ?_ | refine call_s (cc _ _) rfl rfl ?_) <;> try (simp -implicitDefEqProofs only [go_sem, pairsD_len, pairsD_snoc, pairsD_unif, pairsD_empty, onSome_pairs, rowsD_eq, rowD_eq, hpe, pairD_eq, codeC_eq, c.nxt_eq, c.wrd_eq])) | (((with_reducible refine vc_b ?_ ?_) <;> intro _) <;> try (simp -implicitDefEqProofs only [go_sem, pairsD_len, pairsD_snoc, pairsD_unif, pairsD_empty, onSome_pairs, rowsD_eq, rowD_eq, hpe, pairD_eq, codeC_eq, c.nxt_eq, c.wrd_eq])) | simp (disch := omega) only [wrapI, wrapU, shl1, shl1', shl1'', shrN, shrN', and_one] | ((with_reducible refine isEx8 ?_); refine ⟨(_, _, _, _, _, _, _, _), rfl, ?_, ?_⟩) | ((with_reducible refine isEx7 ?_); refine ⟨(_, _, _, _, _, _, _), rfl, ?_, ?_⟩) | ((with_reducible refine isEx6 ?_); refine ⟨(_, _, _, _, _, _), rfl, ?_, ?_⟩) | ((with_reducible refine isEx5 ?_); refine ⟨(_, _, _, _, _), rfl, ?_, ?_⟩) | ((with_reducible refine isEx4 ?_); refine ⟨(_, _, _, _), rfl, ?_, ?_⟩) | ((with_reducible refine isEx3 ?_); refine ⟨(_, _, _), rfl, ?_, ?_⟩) | ((with_reducible refine isEx2 ?_); refine ⟨(_, _), rfl, ?_, ?_⟩) | ((with_reducible refine isEx ?_); refine ⟨_, rfl, ?_, ?_⟩)
              all_goals first | omega | (simp; done) | (simp; omega) | skip
              all_goals first
                | exact hI3.2.2.1
                | exact hI3.2.2.2.1
                | (rw [← hI3.2.2.2.2, hsB]; refine congrArg (foldN _ _ _) ?_; unfold GCode.lvl; simp_all; done)
                | (refine cast (congrArg c.GoodP ?_) hg'; unfold GCode.lvl; simp_all; done)
          · (try (simp -implicitDefEqProofs only [go_sem])); repeat' first | with_reducible exact True.intro | with_reducible refine And.intro ?_ ?_ | with_reducible intro _ | (((with_reducible refine vc_b ?_ ?_) <;> intro _) <;> try (simp -implicitDefEqProofs only [go_sem])) | simp (disch := omega) only [wrapI, wrapU, shl1, shl1', shl1'', shrN, shrN', and_one] | ((with_reducible refine isEx8 ?_); refine ⟨(_, _, _, _, _, _, _, _), rfl, ?_, ?_⟩) | ((with_reducible refine isEx7 ?_); refine ⟨(_, _, _, _, _, _, _), rfl, ?_, ?_⟩) | ((with_reducible refine isEx6 ?_); refine ⟨(_, _, _, _, _, _), rfl, ?_, ?_⟩) | ((with_reducible refine isEx5 ?_); refine ⟨(_, _, _, _, _), rfl, ?_, ?_⟩) | ((with_reducible refine isEx4 ?_); refine ⟨(_, _, _, _), rfl, ?_, ?_⟩) | ((with_reducible refine isEx3 ?_); refine ⟨(_, _, _), rfl, ?_, ?_⟩) | ((with_reducible refine isEx2 ?_); refine ⟨(_, _), rfl, ?_, ?_⟩) | ((with_reducible refine isEx ?_); refine ⟨_, rfl, ?_, ?_⟩)
            all_goals first | omega | (simp; done) | (simp; omega) | skip
            · exact hI3.2.2.1
            · exact hI3.2.2.2.1
            · rw [← hI2.2.2.2.2, hsA, ← hI3.2.2.2.2, foldN_end _ _ hI3.1 hb]
      · (try (simp -implicitDefEqProofs only [go_sem, pairsD_len, onSome_pairs, hpe, pairD_eq, codeD_eq, codeC_eq])); repeat' first | with_reducible exact True.intro | with_reducible refine And.intro ?_ ?_ | with_reducible intro _ | (((with_reducible refine isCall ?_); first | refine call_b (codes_code_words_ret c (by omega)) rfl ?_ ?_ | refine call_d (codes_code_words_ret c (by omega)) rfl ?_ | refine call_sb (codes_code_words_ret c (by omega)) rfl ?_ ?_ | refine call_s (codes_code_words_ret c (by omega)) rfl rfl ?_) <;> try (simp -implicitDefEqProofs only [go_sem, pairsD_len, onSome_pairs, hpe, pairD_eq, codeD_eq, codeC_eq])) | (((with_reducible refine vc_b ?_ ?_) <;> intro _) <;> try (simp -implicitDefEqProofs only [go_sem, pairsD_len, onSome_pairs, hpe, pairD_eq, codeD_eq, codeC_eq])) | simp (disch := omega) only [wrapI, wrapU, shl1, shl1', shl1'', shrN, shrN', and_one] | ((with_reducible refine isEx8 ?_); refine ⟨(_, _, _, _, _, _, _, _), rfl, ?_, ?_⟩) | ((with_reducible refine isEx7 ?_); refine ⟨(_, _, _, _, _, _, _), rfl, ?_, ?_⟩) | ((with_reducible refine isEx6 ?_); refine ⟨(_, _, _, _, _, _), rfl, ?_, ?_⟩) | ((with_reducible refine isEx5 ?_); refine ⟨(_, _, _, _, _), rfl, ?_, ?_⟩) | ((with_reducible refine isEx4 ?_); refine ⟨(_, _, _, _), rfl, ?_, ?_⟩) | ((with_reducible refine isEx3 ?_); refine ⟨(_, _, _), rfl, ?_, ?_⟩) | ((with_reducible refine isEx2 ?_); refine ⟨(_, _), rfl, ?_, ?_⟩) | ((with_reducible refine isEx ?_); refine ⟨_, rfl, ?_, ?_⟩)
        all_goals first | omega | (simp; done) | (simp; omega) | skip
        · exact hI2.2.2.1
        · exact hI2.2.2.2.1
        · rw [← hI.2.2.2.2, hstep, ← hI2.2.2.2.2, foldN_end _ _ hI2.1 ha]
  · (try (simp -implicitDefEqProofs only [go_sem])); repeat' first | with_reducible exact True.intro | with_reducible refine And.intro ?_ ?_ | with_reducible intro _ | (((with_reducible refine vc_b ?_ ?_) <;> intro _) <;> try (simp -implicitDefEqProofs only [go_sem])) | simp (disch := omega) only [wrapI, wrapU, shl1, shl1', shl1'', shrN, shrN', and_one] | ((with_reducible refine isEx8 ?_); refine ⟨(_, _, _, _, _, _, _, _), rfl, ?_, ?_⟩) | ((with_reducible refine isEx7 ?_); refine ⟨(_, _, _, _, _, _, _), rfl, ?_, ?_⟩) | ((with_reducible refine isEx6 ?_); refine ⟨(_, _, _, _, _, _), rfl, ?_, ?_⟩) | ((with_reducible refine isEx5 ?_); refine ⟨(_, _, _, _, _), rfl, ?_, ?_⟩) | ((with_reducible refine isEx4 ?_); refine ⟨(_, _, _, _), rfl, ?_, ?_⟩) | ((with_reducible refine isEx3 ?_); refine ⟨(_, _, _), rfl, ?_, ?_⟩) | ((with_reducible refine isEx2 ?_); refine ⟨(_, _), rfl, ?_, ?_⟩) | ((with_reducible refine isEx ?_); refine ⟨_, rfl, ?_, ?_⟩)
    all_goals first | omega | (simp; done) | (simp; omega) | skip
    have h0 : l.drop i.toNat = [] := List.drop_eq_nil_of_le (by omega)
    have := hI.2.2.2.2
    rw [h0, List.foldl_nil] at this
    rw [← this, hI.2.2.1]

end Go.Pw
