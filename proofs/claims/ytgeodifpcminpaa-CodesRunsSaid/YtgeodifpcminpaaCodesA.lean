/- A part of the proof. -/
import Derived.Test.YtgeodifpcminpaaCodesPC
import Derived.Test.YtgeodifpcminpaaPwVC
import Derived.Test.YtgeodifpcminpaaCodesSpec
set_option linter.all false
open Go Go.Pw Go.Proofs
namespace Go.Pw
set_option linter.unusedSimpArgs false
set_option linter.unusedVariables false
set_option maxRecDepth 100000
set_option maxHeartbeats 400000
attribute [local congr] cg_pw cg_seqI cg_seqE cg_stepI cg_ev cg_evBin cg_condB cg_condV cg_thenQ cg_blockQ cg_onSome cg_onCells cg_onRow cg_onMap cg_onOpt cg_ghosts cg_ghost cg_evCall cg_part cg_rng cg_guardV cg_frzV cg_frpV cg_ownV cg_owcV cg_occV cg_occX cg_resK cg_res1
attribute [local irreducible] IntKind.wrap bitsOp Option.getD and or

theorem codes_within_ret (n lo hi : Int) : Ret E0 F_codes_within [.int .i64 n, .int .i64 lo, .int .i64 hi] (.bool (inR n lo hi)) := by
  refine ret_of_pw dec_codes_within mixed (by simp) fun hwf => ?_
  rw [enter_eq]; unfold pc_codes_within inR
  (try (simp -implicitDefEqProofs only [go_sem])); repeat' first | with_reducible exact True.intro | with_reducible refine And.intro ?_ ?_ | with_reducible intro _ | (((with_reducible refine vc_b ?_ ?_) <;> intro _) <;> try (simp -implicitDefEqProofs only [go_sem])) | simp (disch := omega) only [wrapI, wrapU, shl1, shl1', shl1'', shrN, shrN', and_one] | ((with_reducible refine isEx8 ?_); refine ⟨(_, _, _, _, _, _, _, _), rfl, ?_, ?_⟩) | ((with_reducible refine isEx7 ?_); refine ⟨(_, _, _, _, _, _, _), rfl, ?_, ?_⟩) | ((with_reducible refine isEx6 ?_); refine ⟨(_, _, _, _, _, _), rfl, ?_, ?_⟩) | ((with_reducible refine isEx5 ?_); refine ⟨(_, _, _, _, _), rfl, ?_, ?_⟩) | ((with_reducible refine isEx4 ?_); refine ⟨(_, _, _, _), rfl, ?_, ?_⟩) | ((with_reducible refine isEx3 ?_); refine ⟨(_, _, _), rfl, ?_, ?_⟩) | ((with_reducible refine isEx2 ?_); refine ⟨(_, _), rfl, ?_, ?_⟩) | ((with_reducible refine isEx ?_); refine ⟨_, rfl, ?_, ?_⟩)
  all_goals first | omega | (simp_all [inR]; done) | (simp_all [inR]; omega) | grind

theorem ref04_within_ret (n lo hi : Int) : Ret E0 F_ref04_within [.int .i64 n, .int .i64 lo, .int .i64 hi] (.bool (inR n lo hi)) := by
  refine ret_of_pw dec_ref04_within mixed (by simp) fun hwf => ?_
  rw [enter_eq]; unfold pc_ref04_within inR
  (try (simp -implicitDefEqProofs only [go_sem])); repeat' first | with_reducible exact True.intro | with_reducible refine And.intro ?_ ?_ | with_reducible intro _ | (((with_reducible refine vc_b ?_ ?_) <;> intro _) <;> try (simp -implicitDefEqProofs only [go_sem])) | simp (disch := omega) only [wrapI, wrapU, shl1, shl1', shl1'', shrN, shrN', and_one] | ((with_reducible refine isEx8 ?_); refine ⟨(_, _, _, _, _, _, _, _), rfl, ?_, ?_⟩) | ((with_reducible refine isEx7 ?_); refine ⟨(_, _, _, _, _, _, _), rfl, ?_, ?_⟩) | ((with_reducible refine isEx6 ?_); refine ⟨(_, _, _, _, _, _), rfl, ?_, ?_⟩) | ((with_reducible refine isEx5 ?_); refine ⟨(_, _, _, _, _), rfl, ?_, ?_⟩) | ((with_reducible refine isEx4 ?_); refine ⟨(_, _, _, _), rfl, ?_, ?_⟩) | ((with_reducible refine isEx3 ?_); refine ⟨(_, _, _), rfl, ?_, ?_⟩) | ((with_reducible refine isEx2 ?_); refine ⟨(_, _), rfl, ?_, ?_⟩) | ((with_reducible refine isEx ?_); refine ⟨_, rfl, ?_, ?_⟩)
  all_goals first | omega | (simp_all [inR]; done) | (simp_all [inR]; omega) | grind

theorem codes_code_words_ret (c : GCode) (h : 0 ≤ c.bits ∧ c.bits ≤ 2) : Ret E0 F_codes_code_words [codeD c] (.int .i64 (2 ^ c.bits.toNat)) := by
  refine ret_of_pw dec_codes_code_words mixed (by simp) fun hwf => ?_
  rw [enter_eq]; unfold pc_codes_code_words
  simp -implicitDefEqProofs only [go_sem, codeD_eq, codeC_eq]
  exact ⟨h.1, by simp (disch := omega) only [wrapI, wrapU, shl1, shl1', shl1'', shrN, shrN', and_one]⟩

theorem codes_code_state_ret (c : GCode) (n : Int) : Ret E0 F_codes_code_state [codeD c, .int .i64 n] (.bool (c.isState n)) := by
  refine ret_of_pw dec_codes_code_state mixed (by simp) fun hwf => ?_
  simp only [wf_int, wf_bool, wf_ints, wf_list, wf_agg, wf_ptr, wf_fn, wf_tup, wf_all_cons, wf_all_nil, wf_all_map, inK_i64, maxLen_eq, List.length_map, ints_len, true_and, and_true, codeD_eq, codeC_eq, rowsD_eq] at hwf
  rw [enter_eq]; unfold pc_codes_code_state
  simp -implicitDefEqProofs only [go_sem, codeD_eq, codeC_eq, rowsD_eq]
  simp (disch := omega) only [wrapI, wrapU, shl1, shl1', shl1'', shrN, shrN', and_one]
  refine call_d (codes_within_ret _ _ _) rfl ?_
  simp -implicitDefEqProofs only [go_sem, GCode.isState]

theorem codes_IndexFunc_ret (nl : Bool) (xs : List Int) (f : FuncId) (cs : List D) (p : Int → Bool) (hb : hasBody E0.P f = true) (hcs : listM AV.toD1 (cs.map .d) = some cs) (h : ∀ x, x ∈ xs → Ret E0 f (.int .i64 x :: cs) (.bool (p x))) :
    Ret E0 F_slices_IndexFunc_int_int [.list nl (ints xs), .fn f cs] (.int .i64 (match xs.findIdx? p with | some i => i | none => -1)) := by
  refine ret_of_pw dec_slices_IndexFunc_int_int mixed (by simp) fun hwf => ?_
  simp only [wf_int, wf_bool, wf_ints, wf_list, wf_agg, wf_ptr, wf_fn, wf_tup, wf_all_cons, wf_all_nil, wf_all_map, inK_i64, maxLen_eq, List.length_map, ints_len, true_and, and_true] at hwf
  rw [enter_eq]; unfold pc_slices_IndexFunc_int_int
  simp -implicitDefEqProofs only [go_sem]
  refine pw_loopS (α := Int) (l0 := ?l1) (m0 := ?m1) (fun x => [(8, .d (.int .i64 x))]) (fun x => []) (fun x => 0 ≤ x ∧ x ≤ xs.length ∧ ∀ (j : Nat) (hj : j < xs.length), (j : Int) < x → p xs[j] = false) (fun x => (xs.length - x).toNat) ?a1_0 ?h01 ?he1 ?he21 ?hI1 ?step1
  case h01 => (simp -implicitDefEqProofs only [go_sem]; rfl)
  case he1 => rfl
  case he21 => rfl
  case' step1 => (rintro i hI; try dsimp only at hI)
  case' hI1 => try dsimp only
  · simp
    omega
  · (try (simp -implicitDefEqProofs only [go_sem])); repeat' first | with_reducible exact True.intro | with_reducible refine And.intro ?_ ?_ | with_reducible intro _ | (((with_reducible refine vc_b ?_ ?_) <;> intro _) <;> try (simp -implicitDefEqProofs only [go_sem])) | simp (disch := omega) only [wrapI, wrapU, shl1, shl1', shl1'', shrN, shrN', and_one] | ((with_reducible refine isEx8 ?_); refine ⟨(_, _, _, _, _, _, _, _), rfl, ?_, ?_⟩) | ((with_reducible refine isEx7 ?_); refine ⟨(_, _, _, _, _, _, _), rfl, ?_, ?_⟩) | ((with_reducible refine isEx6 ?_); refine ⟨(_, _, _, _, _, _), rfl, ?_, ?_⟩) | ((with_reducible refine isEx5 ?_); refine ⟨(_, _, _, _, _), rfl, ?_, ?_⟩) | ((with_reducible refine isEx4 ?_); refine ⟨(_, _, _, _), rfl, ?_, ?_⟩) | ((with_reducible refine isEx3 ?_); refine ⟨(_, _, _), rfl, ?_, ?_⟩) | ((with_reducible refine isEx2 ?_); refine ⟨(_, _), rfl, ?_, ?_⟩) | ((with_reducible refine isEx ?_); refine ⟨_, rfl, ?_, ?_⟩)
    all_goals first | omega | (simp; done) | (simp; omega) | skip
    · have hx : xs[i.toNat]?.getD 0 = xs[i.toNat]'(by omega) := by rw [List.getElem?_eq_getElem (by omega), Option.getD_some]
      rw [hx]
      refine call_b (h _ (List.getElem_mem _)) (argsD0_cons rfl hcs) (fun hp => ?_) (fun hp => ?_)
      · simp -implicitDefEqProofs only [go_sem]
        have : xs.findIdx? p = some i.toNat := by rw [List.findIdx?_eq_some_iff_getElem]; exact ⟨by omega, hp, fun j hj => by simp [hI.2.2 j (by omega) (by omega)]⟩
        rw [this]; simp; omega
      · (try (simp -implicitDefEqProofs only [go_sem])); repeat' first | with_reducible exact True.intro | with_reducible refine And.intro ?_ ?_ | with_reducible intro _ | (((with_reducible refine vc_b ?_ ?_) <;> intro _) <;> try (simp -implicitDefEqProofs only [go_sem])) | simp (disch := omega) only [wrapI, wrapU, shl1, shl1', shl1'', shrN, shrN', and_one] | ((with_reducible refine isEx8 ?_); refine ⟨(_, _, _, _, _, _, _, _), rfl, ?_, ?_⟩) | ((with_reducible refine isEx7 ?_); refine ⟨(_, _, _, _, _, _, _), rfl, ?_, ?_⟩) | ((with_reducible refine isEx6 ?_); refine ⟨(_, _, _, _, _, _), rfl, ?_, ?_⟩) | ((with_reducible refine isEx5 ?_); refine ⟨(_, _, _, _, _), rfl, ?_, ?_⟩) | ((with_reducible refine isEx4 ?_); refine ⟨(_, _, _, _), rfl, ?_, ?_⟩) | ((with_reducible refine isEx3 ?_); refine ⟨(_, _, _), rfl, ?_, ?_⟩) | ((with_reducible refine isEx2 ?_); refine ⟨(_, _), rfl, ?_, ?_⟩) | ((with_reducible refine isEx ?_); refine ⟨_, rfl, ?_, ?_⟩)
        all_goals first | omega | (simp; done) | (simp; omega) | skip
        rename_i j hj hlt
        by_cases hjk : j = i.toNat
        · subst hjk; exact hp
        · exact hI.2.2 j hj (by omega)
    · have : xs.findIdx? p = none := by
        rw [List.findIdx?_eq_none_iff]; intro x hx; obtain ⟨j, hj, rfl⟩ := List.getElem_of_mem hx; exact hI.2.2 j hj (by omega)
      rw [this]

theorem codes_ContainsFunc_ret (nl : Bool) (xs : List Int) (f : FuncId) (cs : List D) (p : Int → Bool) (hb : hasBody E0.P f = true) (hcs : listM AV.toD1 (cs.map .d) = some cs) (h : ∀ x, x ∈ xs → Ret E0 f (.int .i64 x :: cs) (.bool (p x))) :
    Ret E0 F_slices_ContainsFunc_int_int [.list nl (ints xs), .fn f cs] (.bool (xs.any p)) := by
  refine ret_of_pw dec_slices_ContainsFunc_int_int mixed (by simp) fun hwf => ?_
  rw [enter_eq]; unfold pc_slices_ContainsFunc_int_int
  simp -implicitDefEqProofs only [go_sem]
  refine call_d (codes_IndexFunc_ret nl xs f cs p hb hcs h) rfl ?_
  simp -implicitDefEqProofs only [go_sem]
  have key : (0 : Int) ≤ (match xs.findIdx? p with | some i => (i : Int) | none => -1) ↔ xs.any p = true := by
    cases hf : xs.findIdx? p with
    | none => rw [List.findIdx?_eq_none_iff] at hf; simp; intro x hx; simp [hf x hx]
    | some i => rw [List.findIdx?_eq_some_iff_getElem] at hf; simp; exact ⟨_, List.getElem_mem hf.1, hf.2.1⟩
  grind

theorem codes_are_1_ret (n : Int) : Ret E0 F_codes_are_1 [.int .i64 n] (.bool (!inR n 0 1)) := by
  refine ret_of_pw dec_codes_are_1 mixed (by simp) fun hwf => ?_
  rw [enter_eq]; unfold pc_codes_are_1 inR
  (try (simp -implicitDefEqProofs only [go_sem])); repeat' first | with_reducible exact True.intro | with_reducible refine And.intro ?_ ?_ | with_reducible intro _ | (((with_reducible refine vc_b ?_ ?_) <;> intro _) <;> try (simp -implicitDefEqProofs only [go_sem])) | simp (disch := omega) only [wrapI, wrapU, shl1, shl1', shl1'', shrN, shrN', and_one] | ((with_reducible refine isEx8 ?_); refine ⟨(_, _, _, _, _, _, _, _), rfl, ?_, ?_⟩) | ((with_reducible refine isEx7 ?_); refine ⟨(_, _, _, _, _, _, _), rfl, ?_, ?_⟩) | ((with_reducible refine isEx6 ?_); refine ⟨(_, _, _, _, _, _), rfl, ?_, ?_⟩) | ((with_reducible refine isEx5 ?_); refine ⟨(_, _, _, _, _), rfl, ?_, ?_⟩) | ((with_reducible refine isEx4 ?_); refine ⟨(_, _, _, _), rfl, ?_, ?_⟩) | ((with_reducible refine isEx3 ?_); refine ⟨(_, _, _), rfl, ?_, ?_⟩) | ((with_reducible refine isEx2 ?_); refine ⟨(_, _), rfl, ?_, ?_⟩) | ((with_reducible refine isEx ?_); refine ⟨_, rfl, ?_, ?_⟩)
  all_goals first | omega | (simp_all [inR]; done) | (simp_all [inR]; omega) | grind

theorem any_not {α : Type} (xs : List α) (p : α → Bool) : xs.any (fun x => !p x) = !xs.all p := by
  induction xs with
  | nil => rfl
  | cons x xs ih => simp only [List.any_cons, List.all_cons, ih, Bool.not_and]

theorem codes_are_ret (nl : Bool) (xs : List Int) : Ret E0 F_codes_are [.list nl (ints xs)] (.bool (areBits xs)) := by
  refine ret_of_pw dec_codes_are mixed (by simp) fun hwf => ?_
  rw [enter_eq]; unfold pc_codes_are
  simp -implicitDefEqProofs only [go_sem]
  refine call_d (codes_ContainsFunc_ret nl xs F_codes_are_1 [] (fun n => !inR n 0 1) (by kernel_rfl) rfl fun x _ => codes_are_1_ret x) rfl ?_
  simp -implicitDefEqProofs only [go_sem, any_not, Bool.not_not, areBits]

theorem codes_isMark_ret (nl : Bool) (xs : List Int) : Ret E0 F_codes_isMark [.list nl (ints xs)] (.bool (inR xs.length 1 16 && areBits xs)) := by
  refine ret_of_pw dec_codes_isMark mixed (by simp) fun hwf => ?_
  rw [enter_eq]; unfold pc_codes_isMark
  (try (simp -implicitDefEqProofs only [go_sem])); repeat' first | with_reducible exact True.intro | with_reducible refine And.intro ?_ ?_ | with_reducible intro _ | (((with_reducible refine isCall ?_); first | refine call_b (codes_within_ret _ _ _) rfl ?_ ?_ | refine call_d (codes_within_ret _ _ _) rfl ?_ | refine call_sb (codes_within_ret _ _ _) rfl ?_ ?_ | refine call_s (codes_within_ret _ _ _) rfl rfl ?_ | refine call_b (codes_are_ret nl xs) rfl ?_ ?_ | refine call_d (codes_are_ret nl xs) rfl ?_ | refine call_sb (codes_are_ret nl xs) rfl ?_ ?_ | refine call_s (codes_are_ret nl xs) rfl rfl ?_) <;> try (simp -implicitDefEqProofs only [go_sem])) | (((with_reducible refine vc_b ?_ ?_) <;> intro _) <;> try (simp -implicitDefEqProofs only [go_sem])) | simp (disch := omega) only [wrapI, wrapU, shl1, shl1', shl1'', shrN, shrN', and_one] | ((with_reducible refine isEx8 ?_); refine ⟨(_, _, _, _, _, _, _, _), rfl, ?_, ?_⟩) | ((with_reducible refine isEx7 ?_); refine ⟨(_, _, _, _, _, _, _), rfl, ?_, ?_⟩) | ((with_reducible refine isEx6 ?_); refine ⟨(_, _, _, _, _, _), rfl, ?_, ?_⟩) | ((with_reducible refine isEx5 ?_); refine ⟨(_, _, _, _, _), rfl, ?_, ?_⟩) | ((with_reducible refine isEx4 ?_); refine ⟨(_, _, _, _), rfl, ?_, ?_⟩) | ((with_reducible refine isEx3 ?_); refine ⟨(_, _, _), rfl, ?_, ?_⟩) | ((with_reducible refine isEx2 ?_); refine ⟨(_, _), rfl, ?_, ?_⟩) | ((with_reducible refine isEx ?_); refine ⟨_, rfl, ?_, ?_⟩)
  all_goals first | omega | (simp_all [inR]; done) | (simp_all [inR]; omega) | grind

theorem codes_Check_1_ret (c : GCode) (n : Int) (h : 1 ≤ c.out ∧ c.out ≤ 5) : Ret E0 F_codes_Check_1 [.int .i64 n, .ptr (codeC c)] (.bool (!inR n 0 (2 ^ c.out.toNat - 1))) := by
  refine ret_of_pw dec_codes_Check_1 mixed (by simp) fun hwf => ?_
  rw [enter_eq]; unfold pc_codes_Check_1
  simp -implicitDefEqProofs only [go_sem, codeC_eq]
  have h1 := pow_le62 (k := c.out.toNat) (by omega)
  have h2 := pow_pos2 c.out.toNat
  refine ⟨by omega, ?_⟩
  simp (disch := omega) only [wrapI, wrapU, shl1, shl1', shl1'', shrN, shrN', and_one]
  refine call_d (codes_within_ret _ _ _) rfl ?_
  simp -implicitDefEqProofs only [go_sem]

theorem codes_Check_2_ret (c : GCode) (n : Int) : Ret E0 F_codes_Check_2 [.int .i64 n, .ptr (codeC c)] (.bool (!c.isState n)) := by
  refine ret_of_pw dec_codes_Check_2 mixed (by simp) fun hwf => ?_
  rw [enter_eq]; unfold pc_codes_Check_2
  simp -implicitDefEqProofs only [go_sem, codeC_eq]
  refine call_d (codes_code_state_ret c n) rfl ?_
  simp -implicitDefEqProofs only [go_sem]

theorem codes_Encode_1_ret (c : GCode) (n : Int) (h : 1 ≤ c.bits ∧ c.bits ≤ 2) : Ret E0 F_codes_Encode_1 [.int .i64 n, .ptr (codeC c)] (.bool (!c.isWord n)) := by
  refine ret_of_pw dec_codes_Encode_1 mixed (by simp) fun hwf => ?_
  rw [enter_eq]; unfold pc_codes_Encode_1
  simp -implicitDefEqProofs only [go_sem, codeC_eq]
  refine call_d (codes_code_words_ret c (by omega)) rfl ?_
  simp -implicitDefEqProofs only [go_sem]
  have := pow_12 h
  simp (disch := omega) only [wrapI, wrapU, shl1, shl1', shl1'', shrN, shrN', and_one]
  refine call_d (codes_within_ret _ _ _) rfl ?_
  simp -implicitDefEqProofs only [go_sem, GCode.isWord]

theorem codes_code_bits_ret (c : GCode) (s w : Int) (h : c.ok = true) (hs : c.isState s = true) (hw : c.isWord w = true) :
    Ret E0 F_codes_code_bits [codeD c, .int .i64 s, .int .i64 w] (.list false (ints (bitsOf c.out.toNat (c.wrd s w)))) := by
  refine ret_of_pw dec_codes_code_bits mixed (by simp) fun hwf => ?_
  have hd := GCode.ok_head h
  simp only [GCode.isState, GCode.isWord, inR, decide_eq_true_eq] at hs hw
  have hrow := GCode.ok_words h s.toNat (by omega)
  have h12 := pow_12 (b := c.bits) (by omega)
  rw [enter_eq]; unfold pc_codes_code_bits
  simp -implicitDefEqProofs only [go_sem, codeD_eq, codeC_eq, rowsD_eq]
  simp (disch := omega) only [wrapI, wrapU, shl1, shl1', shl1'', shrN, shrN', and_one]
  refine pw_loopS (α := Int × Bool × (List Int)) (l0 := ?l2) (m0 := ?m2) (fun x => [(8, .d (.int .i64 x.1))]) (fun x => [(31, .row T_int 1 x.2.1 (ints x.2.2))]) (fun x => -1 ≤ x.1 ∧ x.1 < c.out ∧ x.2.2.length + x.1 = c.out - 1 ∧ x.2.1 = x.2.2.isEmpty ∧ x.2.2 ++ bitsOf (x.1+1).toNat (c.wrd s w) = bitsOf c.out.toNat (c.wrd s w)) (fun x => (x.1+1).toNat) (?a2_0, ?a2_1, []) ?h02 ?he2 ?he22 ?hI2 ?step2
  case h02 => (simp -implicitDefEqProofs only [go_sem, codeD_eq, codeC_eq, rowsD_eq]; rfl)
  case he2 => rfl
  case he22 => rfl
  case' step2 => (rintro ⟨i, nl, acc⟩ hI; try dsimp only at hI)
  case' hI2 => try dsimp only
  · simp; (try omega)
  · (try (simp -implicitDefEqProofs only [go_sem, rowsD_eq, rowD_eq])); repeat' first | with_reducible exact True.intro | with_reducible refine And.intro ?_ ?_ | with_reducible intro _ | (((with_reducible refine vc_b ?_ ?_) <;> intro _) <;> try (simp -implicitDefEqProofs only [go_sem, rowsD_eq, rowD_eq])) | simp (disch := omega) only [wrapI, wrapU, shl1, shl1', shl1'', shrN, shrN', and_one] | ((with_reducible refine isEx8 ?_); refine ⟨(_, _, _, _, _, _, _, _), rfl, ?_, ?_⟩) | ((with_reducible refine isEx7 ?_); refine ⟨(_, _, _, _, _, _, _), rfl, ?_, ?_⟩) | ((with_reducible refine isEx6 ?_); refine ⟨(_, _, _, _, _, _), rfl, ?_, ?_⟩) | ((with_reducible refine isEx5 ?_); refine ⟨(_, _, _, _, _), rfl, ?_, ?_⟩) | ((with_reducible refine isEx4 ?_); refine ⟨(_, _, _, _), rfl, ?_, ?_⟩) | ((with_reducible refine isEx3 ?_); refine ⟨(_, _, _), rfl, ?_, ?_⟩) | ((with_reducible refine isEx2 ?_); refine ⟨(_, _), rfl, ?_, ?_⟩) | ((with_reducible refine isEx ?_); refine ⟨_, rfl, ?_, ?_⟩)
    all_goals first | omega | (simp; done) | (simp; omega) | skip
    · rw [← hI.2.2.2.2, show (i - 1 + 1).toNat = i.toNat by omega, show (i + 1).toNat = i.toNat + 1 by omega, bitsOf, c.wrd_eq]
      simp
    · have h0 : (i + 1).toNat = 0 := by omega
      have h1 : acc = bitsOf c.out.toNat (c.wrd s w) := by rw [← hI.2.2.2.2, h0, bitsOf, List.append_nil]
      have h2 : acc ≠ [] := by rintro rfl; simp at hI; omega
      rw [← h1, hI.2.2.2.1]; cases acc with
      | nil => exact absurd rfl h2
      | cons _ _ => rfl
end Go.Pw
