/- A part of the proof. -/
import Derived.Test.YtgeodifpcminpaaCodesPC
import Derived.Test.YtgeodifpcminpaaPwVC
import Derived.Test.YtgeodifpcminpaaCodesSpec
set_option linter.all false
section
open Go Go.Pw Go.Proofs
namespace Go.Pw
set_option linter.unusedSimpArgs false
set_option linter.unusedVariables false
set_option maxRecDepth 100000
set_option maxHeartbeats 400000
attribute [local congr] cg_pw cg_seqI cg_seqE cg_stepI cg_ev cg_evBin cg_condB cg_condV cg_thenQ cg_blockQ cg_onSome cg_onCells cg_onRow cg_onRow2 cg_frhV cg_frhO cg_onMap cg_onOpt cg_ghosts cg_ghost cg_evCall cg_part cg_rng cg_guardV cg_frzV cg_frpV cg_ownV cg_owcV cg_occV cg_occX cg_resK cg_res1 cg_yldP cg_rndE cg_onlyN cg_onHist
attribute [local irreducible] IntKind.wrap bitsOp Option.getD and or

theorem codes_within_ret (n lo hi : Int) : Ret E0 F_codes_within [.int .i64 n, .int .i64 lo, .int .i64 hi] (.bool (inR n lo hi)) := by
  refine ret_of_pw dec_codes_within mixed (by simp) fun hwf => ?_
  rw [enter_eq]; unfold pc_codes_within inR
  (try (simp -implicitDefEqProofs only [go_sem])); repeat' first | with_reducible exact True.intro | with_reducible refine And.intro ?_ ?_ | with_reducible intro _ | (((with_reducible refine vc_b ?_ ?_) <;> intro _) <;> try (simp -implicitDefEqProofs only [go_sem])) | simp (disch := omega) only [wrapI, wrapU, shl1, shl1', shl1'', shrN, shrN', and_one] 
  all_goals first | omega | (simp_all [inR]; done) | (simp_all [inR]; omega) | grind

theorem ref04_within_ret (n lo hi : Int) : Ret E0 F_ref04_within [.int .i64 n, .int .i64 lo, .int .i64 hi] (.bool (inR n lo hi)) := by
  refine ret_of_pw dec_ref04_within mixed (by simp) fun hwf => ?_
  rw [enter_eq]; unfold pc_ref04_within inR
  (try (simp -implicitDefEqProofs only [go_sem])); repeat' first | with_reducible exact True.intro | with_reducible refine And.intro ?_ ?_ | with_reducible intro _ | (((with_reducible refine vc_b ?_ ?_) <;> intro _) <;> try (simp -implicitDefEqProofs only [go_sem])) | simp (disch := omega) only [wrapI, wrapU, shl1, shl1', shl1'', shrN, shrN', and_one] 
  all_goals first | omega | (simp_all [inR]; done) | (simp_all [inR]; omega) | grind

theorem codes_code_words_ret (c : GCode) (h : 0 ≤ c.bits ∧ c.bits ≤ 2) : Ret E0 F_codes_code_words [codeD c] (.int .i64 (2 ^ c.bits.toNat)) := by
  refine ret_of_pw dec_codes_code_words mixed (by simp) fun hwf => ?_
  rw [enter_eq]; unfold pc_codes_code_words
  simp -implicitDefEqProofs only [go_sem, codeD_eq, codeC_eq]
  exact ⟨h.1, by simp (disch := omega) only [wrapI, wrapU, shl1, shl1', shl1'', shrN, shrN', and_one]⟩

theorem codes_code_state_ret (c : GCode) (n : Int) : Ret E0 F_codes_code_state [codeD c, .int .i64 n] (.bool (c.isState n)) := by
  refine ret_of_pw dec_codes_code_state mixed (by simp) fun hwf => ?_
  simp only [wf_int, wf_bool, wf_ints, wf_list, wf_agg, wf_ptr, wf_fn, wf_tup, wf_all_cons, wf_all_nil, wf_all_map, inK_i64, maxLen_eq, List.length_map, ints_len, true_and, and_true, codeD_eq, codeC_eq, rowsD_eq] at hwf
  rw [enter_eq]; unfold pc_codes_code_state
  simp -implicitDefEqProofs only [go_sem, codeD_eq, codeC_eq, rowsD_eq]
  simp (disch := omega) only [wrapI, wrapU, shl1, shl1', shl1'', shrN, shrN', and_one]
  refine call_d (codes_within_ret _ _ _) rfl ?_
  simp -implicitDefEqProofs only [go_sem, GCode.isState]

theorem codes_IndexFunc_ret (nl : Bool) (xs : List Int) (f : FuncId) (cs : List D) (p : Int → Bool) (hb : hasBody E0.P f = true) (hcs : listM AV.toD1 (cs.map .d) = some cs) (h : ∀ x, x ∈ xs → Ret E0 f (.int .i64 x :: cs) (.bool (p x))) :
    Ret E0 F_slices_IndexFunc_int_int [.list nl (ints xs), .fn f cs] (.int .i64 (match xs.findIdx? p with | some i => i | none => -1)) := by
  refine ret_of_pw dec_slices_IndexFunc_int_int mixed (by simp) fun hwf => ?_
  simp only [wf_int, wf_bool, wf_ints, wf_list, wf_agg, wf_ptr, wf_fn, wf_tup, wf_all_cons, wf_all_nil, wf_all_map, inK_i64, maxLen_eq, List.length_map, ints_len, true_and, and_true] at hwf
  rw [enter_eq]; unfold pc_slices_IndexFunc_int_int
  simp -implicitDefEqProofs only [go_sem]
  refine pw_loopS (α := Int) (l0 := ?l1) (m0 := ?m1) (fun x => [(8, .d (.int .i64 x))]) (fun x => []) (fun x => 0 ≤ x ∧ x ≤ xs.length ∧ ∀ (j : Nat) (hj : j < xs.length), (j : Int) < x → p xs[j] = false) (fun x => (xs.length - x).toNat) ?a1_0 ?h01 ?he1 ?he21 ?hI1 ?step1
  case h01 => (simp -implicitDefEqProofs only [go_sem]; rfl)
  case he1 => rfl
  case he21 => rfl
  case' step1 => (rintro i hI; try dsimp only at hI)
  case' hI1 => try dsimp only
  · simp
    omega
  · (try (simp -implicitDefEqProofs only [go_sem])); repeat' first | with_reducible exact True.intro | with_reducible refine And.intro ?_ ?_ | with_reducible intro _ | (((with_reducible refine vc_b ?_ ?_) <;> intro _) <;> try (simp -implicitDefEqProofs only [go_sem])) | simp (disch := omega) only [wrapI, wrapU, shl1, shl1', shl1'', shrN, shrN', and_one] | ((with_reducible refine isEx ?_); refine ⟨_, rfl, ?_, ?_⟩)
    all_goals first | omega | (simp; done) | (simp; omega) | skip
    · have hx : xs[i.toNat]?.getD 0 = xs[i.toNat]'(by omega) := by rw [List.getElem?_eq_getElem (by omega), Option.getD_some]
      rw [hx]
      refine call_b (h _ (List.getElem_mem _)) (argsD0_cons rfl hcs) (fun hp => ?_) (fun hp => ?_)
      · simp -implicitDefEqProofs only [go_sem]
        have : xs.findIdx? p = some i.toNat := by rw [List.findIdx?_eq_some_iff_getElem]; exact ⟨by omega, hp, fun j hj => by simp [hI.2.2 j (by omega) (by omega)]⟩
        rw [this]; simp; omega
      · (try (simp -implicitDefEqProofs only [go_sem])); repeat' first | with_reducible exact True.intro | with_reducible refine And.intro ?_ ?_ | with_reducible intro _ | (((with_reducible refine vc_b ?_ ?_) <;> intro _) <;> try (simp -implicitDefEqProofs only [go_sem])) | simp (disch := omega) only [wrapI, wrapU, shl1, shl1', shl1'', shrN, shrN', and_one] | ((with_reducible refine isEx ?_); refine ⟨_, rfl, ?_, ?_⟩)
        all_goals first | omega | (simp; done) | (simp; omega) | skip
        rename_i j hj hlt
        by_cases hjk : j = i.toNat
        · subst hjk; exact hp
        · exact hI.2.2 j hj (by omega)
    · have : xs.findIdx? p = none := by
        rw [List.findIdx?_eq_none_iff]; intro x hx; obtain ⟨j, hj, rfl⟩ := List.getElem_of_mem hx; exact hI.2.2 j hj (by omega)
      rw [this]

theorem codes_ContainsFunc_ret (nl : Bool) (xs : List Int) (f : FuncId) (cs : List D) (p : Int → Bool) (hb : hasBody E0.P f = true) (hcs : listM AV.toD1 (cs.map .d) = some cs) (h : ∀ x, x ∈ xs → Ret E0 f (.int .i64 x :: cs) (.bool (p x))) :
    Ret E0 F_slices_ContainsFunc_int_int [.list nl (ints xs), .fn f cs] (.bool (xs.any p)) := by
  refine ret_of_pw dec_slices_ContainsFunc_int_int mixed (by simp) fun hwf => ?_
  rw [enter_eq]; unfold pc_slices_ContainsFunc_int_int
  simp -implicitDefEqProofs only [go_sem]
  refine call_d (codes_IndexFunc_ret nl xs f cs p hb hcs h) rfl ?_
  simp -implicitDefEqProofs only [go_sem]
  have key : (0 : Int) ≤ (match xs.findIdx? p with | some i => (i : Int) | none => -1) ↔ xs.any p = true := by
    cases hf : xs.findIdx? p with
    | none => rw [List.findIdx?_eq_none_iff] at hf; simp; intro x hx; simp [hf x hx]
    | some i => rw [List.findIdx?_eq_some_iff_getElem] at hf; simp; exact ⟨_, List.getElem_mem hf.1, hf.2.1⟩
  grind

theorem codes_are_1_ret (n : Int) : Ret E0 F_codes_are_1 [.int .i64 n] (.bool (!inR n 0 1)) := by
  refine ret_of_pw dec_codes_are_1 mixed (by simp) fun hwf => ?_
  rw [enter_eq]; unfold pc_codes_are_1 inR
  (try (simp -implicitDefEqProofs only [go_sem])); repeat' first | with_reducible exact True.intro | with_reducible refine And.intro ?_ ?_ | with_reducible intro _ | (((with_reducible refine vc_b ?_ ?_) <;> intro _) <;> try (simp -implicitDefEqProofs only [go_sem])) | simp (disch := omega) only [wrapI, wrapU, shl1, shl1', shl1'', shrN, shrN', and_one] 
  all_goals first | omega | (simp_all [inR]; done) | (simp_all [inR]; omega) | grind

theorem any_not {α : Type} (xs : List α) (p : α → Bool) : xs.any (fun x => !p x) = !xs.all p := by
  induction xs with
  | nil => rfl
  | cons x xs ih => simp only [List.any_cons, List.all_cons, ih, Bool.not_and]

theorem codes_are_ret (nl : Bool) (xs : List Int) : Ret E0 F_codes_are [.list nl (ints xs)] (.bool (areBits xs)) := by
  refine ret_of_pw dec_codes_are mixed (by simp) fun hwf => ?_
  rw [enter_eq]; unfold pc_codes_are
  simp -implicitDefEqProofs only [go_sem]
  refine call_d (codes_ContainsFunc_ret nl xs F_codes_are_1 [] (fun n => !inR n 0 1) (by kernel_rfl) rfl fun x _ => codes_are_1_ret x) rfl ?_
  simp -implicitDefEqProofs only [go_sem, any_not, Bool.not_not, areBits]

theorem codes_isMark_ret (nl : Bool) (xs : List Int) : Ret E0 F_codes_isMark [.list nl (ints xs)] (.bool (inR xs.length 1 16 && areBits xs)) := by
  refine ret_of_pw dec_codes_isMark mixed (by simp) fun hwf => ?_
  rw [enter_eq]; unfold pc_codes_isMark
  (try (simp -implicitDefEqProofs only [go_sem])); repeat' first | with_reducible exact True.intro | with_reducible refine And.intro ?_ ?_ | with_reducible intro _ | (((with_reducible refine isCall ?_); first | refine call_b (codes_within_ret _ _ _) rfl ?_ ?_ | refine call_d (codes_within_ret _ _ _) rfl ?_ | refine call_sb (codes_within_ret _ _ _) rfl ?_ ?_ | refine call_s (codes_within_ret _ _ _) rfl rfl ?_ | refine call_b (codes_are_ret nl xs) rfl ?_ ?_ | refine call_d (codes_are_ret nl xs) rfl ?_ | refine call_sb (codes_are_ret nl xs) rfl ?_ ?_ | refine call_s (codes_are_ret nl xs) rfl rfl ?_) <;> try (simp -implicitDefEqProofs only [go_sem])) | (((with_reducible refine vc_b ?_ ?_) <;> intro _) <;> try (simp -implicitDefEqProofs only [go_sem])) | simp (disch := omega) only [wrapI, wrapU, shl1, shl1', shl1'', shrN, shrN', and_one] 
  all_goals first | omega | (simp_all [inR]; done) | (simp_all [inR]; omega) | grind

theorem codes_Check_1_ret (c : GCode) (n : Int) (h : 1 ≤ c.out ∧ c.out ≤ 5) : Ret E0 F_codes_Check_1 [.int .i64 n, .ptr (codeC c)] (.bool (!inR n 0 (2 ^ c.out.toNat - 1))) := by
  refine ret_of_pw dec_codes_Check_1 mixed (by simp) fun hwf => ?_
  rw [enter_eq]; unfold pc_codes_Check_1
  simp -implicitDefEqProofs only [go_sem, codeC_eq]
  have h1 := pow_le62 (k := c.out.toNat) (by omega)
  have h2 := pow_pos2 c.out.toNat
  refine ⟨by omega, ?_⟩
  simp (disch := omega) only [wrapI, wrapU, shl1, shl1', shl1'', shrN, shrN', and_one]
  refine call_d (codes_within_ret _ _ _) rfl ?_
  simp -implicitDefEqProofs only [go_sem]

theorem codes_Check_2_ret (c : GCode) (n : Int) : Ret E0 F_codes_Check_2 [.int .i64 n, .ptr (codeC c)] (.bool (!c.isState n)) := by
  refine ret_of_pw dec_codes_Check_2 mixed (by simp) fun hwf => ?_
  rw [enter_eq]; unfold pc_codes_Check_2
  simp -implicitDefEqProofs only [go_sem, codeC_eq]
  refine call_d (codes_code_state_ret c n) rfl ?_
  simp -implicitDefEqProofs only [go_sem]

theorem codes_Encode_1_ret (c : GCode) (n : Int) (h : 1 ≤ c.bits ∧ c.bits ≤ 2) : Ret E0 F_codes_Encode_1 [.int .i64 n, .ptr (codeC c)] (.bool (!c.isWord n)) := by
  refine ret_of_pw dec_codes_Encode_1 mixed (by simp) fun hwf => ?_
  rw [enter_eq]; unfold pc_codes_Encode_1
  simp -implicitDefEqProofs only [go_sem, codeC_eq]
  refine call_d (codes_code_words_ret c (by omega)) rfl ?_
  simp -implicitDefEqProofs only [go_sem]
  have := pow_12 h
  simp (disch := omega) only [wrapI, wrapU, shl1, shl1', shl1'', shrN, shrN', and_one]
  refine call_d (codes_within_ret _ _ _) rfl ?_
  simp -implicitDefEqProofs only [go_sem, GCode.isWord]

theorem codes_code_bits_ret (c : GCode) (s w : Int) (h : c.ok = true) (hs : c.isState s = true) (hw : c.isWord w = true) :
    Ret E0 F_codes_code_bits [codeD c, .int .i64 s, .int .i64 w] (.list false (ints (bitsOf c.out.toNat (c.wrd s w)))) := by
  refine ret_of_pw dec_codes_code_bits mixed (by simp) fun hwf => ?_
  have hd := GCode.ok_head h
  simp only [GCode.isState, GCode.isWord, inR, decide_eq_true_eq] at hs hw
  have hrow := GCode.ok_words h s.toNat (by omega)
  have h12 := pow_12 (b := c.bits) (by omega)
  rw [enter_eq]; unfold pc_codes_code_bits
  simp -implicitDefEqProofs only [go_sem, codeD_eq, codeC_eq, rowsD_eq]
  simp (disch := omega) only [wrapI, wrapU, shl1, shl1', shl1'', shrN, shrN', and_one]
  refine pw_loopS (α := Int × Bool × (List Int)) (l0 := ?l2) (m0 := ?m2) (fun x => [(8, .d (.int .i64 x.1))]) (fun x => [(31, .row T_int 1 x.2.1 (ints x.2.2))]) (fun x => -1 ≤ x.1 ∧ x.1 < c.out ∧ x.2.2.length + x.1 = c.out - 1 ∧ x.2.1 = x.2.2.isEmpty ∧ x.2.2 ++ bitsOf (x.1+1).toNat (c.wrd s w) = bitsOf c.out.toNat (c.wrd s w)) (fun x => (x.1+1).toNat) (?a2_0, ?a2_1, []) ?h02 ?he2 ?he22 ?hI2 ?step2
  case h02 => (simp -implicitDefEqProofs only [go_sem, codeD_eq, codeC_eq, rowsD_eq]; rfl)
  case he2 => rfl
  case he22 => rfl
  case' step2 => (rintro ⟨i, nl, acc⟩ hI; try dsimp only at hI)
  case' hI2 => try dsimp only
  · simp; (try omega)
  · (try (simp -implicitDefEqProofs only [go_sem, rowsD_eq, rowD_eq])); repeat' first | with_reducible exact True.intro | with_reducible refine And.intro ?_ ?_ | with_reducible intro _ | (((with_reducible refine vc_b ?_ ?_) <;> intro _) <;> try (simp -implicitDefEqProofs only [go_sem, rowsD_eq, rowD_eq])) | simp (disch := omega) only [wrapI, wrapU, shl1, shl1', shl1'', shrN, shrN', and_one] | ((with_reducible refine isEx3 ?_); refine ⟨(_, _, _), rfl, ?_, ?_⟩)
    all_goals first | omega | (simp; done) | (simp; omega) | skip
    · rw [← hI.2.2.2.2, show (i - 1 + 1).toNat = i.toNat by omega, show (i + 1).toNat = i.toNat + 1 by omega, bitsOf, c.wrd_eq]
      simp
    · have h0 : (i + 1).toNat = 0 := by omega
      have h1 : acc = bitsOf c.out.toNat (c.wrd s w) := by rw [← hI.2.2.2.2, h0, bitsOf, List.append_nil]
      have h2 : acc ≠ [] := by rintro rfl; simp at hI; omega
      rw [← h1, hI.2.2.2.1]; cases acc with
      | nil => exact absurd rfl h2
      | cons _ _ => rfl
end Go.Pw
end
section
open Go Go.Pw Go.Proofs
namespace Go.Pw
set_option linter.unusedSimpArgs false
set_option linter.unusedVariables false
set_option maxRecDepth 100000
set_option maxHeartbeats 800000
attribute [local congr] cg_pw cg_seqI cg_seqE cg_stepI cg_ev cg_evBin cg_condB cg_condV cg_thenQ cg_blockQ cg_onSome cg_onCells cg_onRow cg_onRow2 cg_frhV cg_frhO cg_onMap cg_onOpt cg_ghosts cg_ghost cg_evCall cg_part cg_rng cg_guardV cg_frzV cg_frpV cg_ownV cg_owcV cg_occV cg_occX cg_resK cg_res1 cg_yldP cg_rndE cg_onlyN cg_onHist
attribute [local irreducible] IntKind.wrap bitsOp Option.getD and or

def GCode.rowsOk (c : GCode) (j : Nat) : Bool := rowOk (2 ^ c.bits.toNat) (2 ^ c.out.toNat - 1) (c.words[j]?.getD default) && rowOk (2 ^ c.bits.toNat) (c.words.length - 1) (c.next[j]?.getD default)
theorem rowsOk_eq (c : GCode) (j : Nat) : c.rowsOk j = (decide (((c.words[j]?.getD default).2.length : Int) = 2 ^ c.bits.toNat) && ((c.words[j]?.getD default).2.all fun n => inR n 0 (2 ^ c.out.toNat - 1)) &&
    (decide (((c.next[j]?.getD default).2.length : Int) = 2 ^ c.bits.toNat) && (c.next[j]?.getD default).2.all c.isState)) := by
  have h : ∀ (n k : Nat), decide (n = 2 ^ k) = decide ((n : Int) = 2 ^ k) := fun n k => by
    have : ((2 ^ k : Nat) : Int) = (2 : Int) ^ k := by simp
    rw [← this, decide_eq_decide]; omega
  simp only [GCode.rowsOk, rowOk, h]; rfl
theorem ok_iff (c : GCode) (hh : c.head = true) : c.ok = true ↔ ∀ (j : Nat), j < c.words.length → c.rowsOk j = true := by
  have hl : c.next.length = c.words.length := by simp [GCode.head] at hh; exact hh.2
  simp only [GCode.ok, GCode.rowsOk, hh, Bool.true_and, Bool.and_eq_true, List.all_eq_true]
  constructor
  · intro h j h1
    exact ⟨h.1 _ (getD_mem h1), h.2 _ (getD_mem (by omega))⟩
  · intro h
    constructor
    · intro x hx; obtain ⟨j, hj, rfl⟩ := List.getElem_of_mem hx; have := (h j hj).1; simpa [hj] using this
    · intro x hx; obtain ⟨j, hj, rfl⟩ := List.getElem_of_mem hx; have := (h j (by omega)).2; simpa [hj] using this
theorem not_ok (c : GCode) (hh : c.head = true) (j : Nat) (hj : j < c.words.length) (hb : c.rowsOk j = false) : c.ok = false := by
  cases h : c.ok with
  | false => rfl
  | true => have := (ok_iff c hh).1 h j hj; rw [this] at hb; cases hb

theorem codes_Check_ret (c : GCode) : Ret E0 F_codes_Check [codeD c] (.int .i64 (errI c.ok 40)) := by
  refine ret_of_pw dec_codes_Check mixed (by simp) fun hwf => ?_
  simp only [wf_int, wf_bool, wf_ints, wf_list, wf_agg, wf_ptr, wf_fn, wf_tup, wf_all_cons, wf_all_nil, wf_all_map, inK_i64, maxLen_eq, List.length_map, ints_len, true_and, and_true, codeD_eq, codeC_eq, rowsD_eq] at hwf
  have noHead : c.head = false → errI c.ok 40 = 40 := fun h => by simp [errI, GCode.ok, h]
  rw [enter_eq]; unfold pc_codes_Check
  (try (simp -implicitDefEqProofs only [go_sem, codeD_eq, codeC_eq, rowsD_eq])); repeat' first | with_reducible exact True.intro | with_reducible refine And.intro ?_ ?_ | with_reducible intro _ | (((with_reducible refine isCall ?_); first | refine call_b (codes_within_ret _ _ _) rfl ?_ ?_ | refine call_d (codes_within_ret _ _ _) rfl ?_ | refine call_sb (codes_within_ret _ _ _) rfl ?_ ?_ | refine call_s (codes_within_ret _ _ _) rfl rfl ?_) <;> try (simp -implicitDefEqProofs only [go_sem, codeD_eq, codeC_eq, rowsD_eq])) | (((with_reducible refine vc_b ?_ ?_) <;> intro _) <;> try (simp -implicitDefEqProofs only [go_sem, codeD_eq, codeC_eq, rowsD_eq])) | simp (disch := omega) only [wrapI, wrapU, shl1, shl1', shl1'', shrN, shrN', and_one] | ((with_reducible refine isEx ?_); refine ⟨_, rfl, ?_, ?_⟩)
  all_goals first | (rw [noHead (by cases hh : c.head; rfl; exfalso; simp only [GCode.head, inR, Bool.and_eq_true, decide_eq_true_eq, decide_eq_false_iff_not] at *; omega)]; done) | skip
  have hh : c.head = true := by simp only [GCode.head, inR, Bool.and_eq_true, decide_eq_true_eq, decide_eq_false_iff_not] at *; omega
  have ho : 1 ≤ c.out ∧ c.out ≤ 5 := by simp_all [inR]
  have hb : 1 ≤ c.bits ∧ c.bits ≤ 2 := by simp_all [inR]
  have hl : c.next.length = c.words.length := by omega
  have h12 := pow_12 hb
  have c1 := fun nl xs => codes_ContainsFunc_ret nl xs F_codes_Check_1 [.ptr (codeC c)] (fun n => !inR n 0 (2 ^ c.out.toNat - 1)) (by kernel_rfl) rfl (fun x _ => codes_Check_1_ret c x ho)
  have c2 := fun nl xs => codes_ContainsFunc_ret nl xs F_codes_Check_2 [.ptr (codeC c)] (fun n => !c.isState n) (by kernel_rfl) rfl (fun x _ => codes_Check_2_ret c x)
  simp only [any_not] at c1 c2
  have bad : ∀ j, j < c.words.length → c.rowsOk j = false → errI c.ok 40 = 40 := fun j hj h => by rw [errI, not_ok c hh j hj h]; rfl
  refine pw_loopS (α := Int) (l0 := ?l1) (m0 := ?m1) (fun x => [(63, .d (.int .i64 x))]) (fun x => []) (fun x => 0 ≤ x ∧ x ≤ c.words.length ∧ ∀ (j : Nat), (j : Int) < x → c.rowsOk j = true) (fun x => (c.words.length - x).toNat) ?a1_0 ?h01 ?he1 ?he21 ?hI1 ?step1
  case h01 => (simp -implicitDefEqProofs only [go_sem, codeD_eq, codeC_eq, rowsD_eq]; rfl)
  case he1 => rfl
  case he21 => rfl
  case' step1 => (rintro i hI; try dsimp only at hI)
  case' hI1 => try dsimp only
  · simp; omega
  · (try (simp -implicitDefEqProofs only [go_sem, rowsD_eq, rowD_eq])); repeat' first | with_reducible exact True.intro | with_reducible refine And.intro ?_ ?_ | with_reducible intro _ | (((with_reducible refine isCall ?_); first | refine call_b (codes_code_words_ret c (by omega)) rfl ?_ ?_ | refine call_d (codes_code_words_ret c (by omega)) rfl ?_ | refine call_sb (codes_code_words_ret c (by omega)) rfl ?_ ?_ | refine call_s (codes_code_words_ret c (by omega)) rfl rfl ?_ | refine call_b (c1 _ _) rfl ?_ ?_ | refine call_d (c1 _ _) rfl ?_ | refine call_sb (c1 _ _) rfl ?_ ?_ | refine call_s (c1 _ _) rfl rfl ?_ | refine call_b (c2 _ _) rfl ?_ ?_ | refine call_d (c2 _ _) rfl ?_ | refine call_sb (c2 _ _) rfl ?_ ?_ | refine call_s (c2 _ _) rfl rfl ?_) <;> try (simp -implicitDefEqProofs only [go_sem, rowsD_eq, rowD_eq])) | (((with_reducible refine vc_b ?_ ?_) <;> intro _) <;> try (simp -implicitDefEqProofs only [go_sem, rowsD_eq, rowD_eq])) | simp (disch := omega) only [wrapI, wrapU, shl1, shl1', shl1'', shrN, shrN', and_one] | ((with_reducible refine isEx ?_); refine ⟨_, rfl, ?_, ?_⟩)
    all_goals first | omega | (simp; done) | (simp; omega) | skip
    all_goals try (refine congrArg (D.int .i64) (bad i.toNat (by omega) ?_).symm; rw [rowsOk_eq]; generalize ((c.words[i.toNat]?.getD default).2.all fun n => inR n 0 (2 ^ c.out.toNat - 1)) = A at *; generalize (c.next[i.toNat]?.getD default).2.all c.isState = B at *; cases A <;> cases B <;> simp_all; done)
    · rename_i j hj
      by_cases hji : j = i.toNat
      · subst hji; rw [rowsOk_eq]; generalize ((c.words[i.toNat]?.getD default).2.all fun n => inR n 0 (2 ^ c.out.toNat - 1)) = A at *; generalize (c.next[i.toNat]?.getD default).2.all c.isState = B at *; cases A <;> cases B <;> simp_all
      · exact hI.2.2 j (by omega)
    · have : c.ok = true := (ok_iff c hh).2 fun j hj => hI.2.2 j (by omega)
      rw [errI, this]; rfl

theorem codes_open_ret (c : GCode) (s : Int) : Ret E0 F_codes_open [codeD c, .int .i64 s] (.tup [codeD c, .int .i64 (if !c.ok then 40 else if !c.isState s then 41 else 0)]) := by
  refine ret_of_pw dec_codes_open mixed (by simp) fun hwf => ?_
  rw [enter_eq]; unfold pc_codes_open
  (try (simp -implicitDefEqProofs only [go_sem, codeD_eq, codeC_eq])); repeat' first | with_reducible exact True.intro | with_reducible refine And.intro ?_ ?_ | with_reducible intro _ | (((with_reducible refine isCall ?_); first | refine call_b (codes_Check_ret c) rfl ?_ ?_ | refine call_d (codes_Check_ret c) rfl ?_ | refine call_sb (codes_Check_ret c) rfl ?_ ?_ | refine call_s (codes_Check_ret c) rfl rfl ?_ | refine call_b (codes_code_state_ret c s) rfl ?_ ?_ | refine call_d (codes_code_state_ret c s) rfl ?_ | refine call_sb (codes_code_state_ret c s) rfl ?_ ?_ | refine call_s (codes_code_state_ret c s) rfl rfl ?_) <;> try (simp -implicitDefEqProofs only [go_sem, codeD_eq, codeC_eq])) | (((with_reducible refine vc_b ?_ ?_) <;> intro _) <;> try (simp -implicitDefEqProofs only [go_sem, codeD_eq, codeC_eq])) | simp (disch := omega) only [wrapI, wrapU, shl1, shl1', shl1'', shrN, shrN', and_one] 
  all_goals (cases hok : c.ok <;> cases hst : c.isState s <;> simp_all [errI, codeD_eq, codeC_eq])

end Go.Pw
end
section
open Go Go.Pw Go.Proofs
namespace Go.Pw
set_option linter.unusedSimpArgs false
set_option linter.unusedVariables false
set_option maxRecDepth 100000
set_option maxHeartbeats 800000
attribute [local congr] cg_pw cg_seqI cg_seqE cg_stepI cg_ev cg_evBin cg_condB cg_condV cg_thenQ cg_blockQ cg_onSome cg_onCells cg_onRow cg_onRow2 cg_frhV cg_frhO cg_onMap cg_onOpt cg_ghosts cg_ghost cg_evCall cg_part cg_rng cg_guardV cg_frzV cg_frpV cg_ownV cg_owcV cg_occV cg_occX cg_resK cg_res1 cg_yldP cg_rndE cg_onlyN cg_onHist
attribute [local irreducible] IntKind.wrap bitsOp Option.getD and or

theorem codes_Encode_ret (c : GCode) (s : Int) (nl : Bool) (l : List Int) : Ret E0 F_codes_Encode [codeD c, .int .i64 s, .list nl (ints l)] (.tup [.list (c.encode s l).1.isEmpty (ints (c.encode s l).1), .int .i64 (c.encode s l).2.1, .int .i64 (c.encode s l).2.2]) := by
  refine ret_of_pw dec_codes_Encode mixed (by simp) fun hwf => ?_
  rw [enter_eq]; unfold pc_codes_Encode
  simp -implicitDefEqProofs only [go_sem, codeD_eq, codeC_eq]
  refine call_d (codes_open_ret c s) rfl ?_
  simp -implicitDefEqProofs only [go_sem, codeD_eq, codeC_eq]
  by_cases hok : c.ok = true ∧ c.isState s = true
  · obtain ⟨h1, h2⟩ := hok
    have hd := GCode.ok_head h1
    have c1 := fun nl xs => codes_ContainsFunc_ret nl xs F_codes_Encode_1 [.ptr (codeC c)] (fun n => !c.isWord n) (by kernel_rfl) rfl (fun x _ => codes_Encode_1_ret c x (by omega))
    simp only [any_not] at c1
    simp only [h1, h2, Bool.not_true, Bool.false_eq_true, if_false]
    (try (simp -implicitDefEqProofs only [go_sem])); repeat' first | with_reducible exact True.intro | with_reducible refine And.intro ?_ ?_ | with_reducible intro _ | (((with_reducible refine isCall ?_); first | refine call_b (c1 _ _) rfl ?_ ?_ | refine call_d (c1 _ _) rfl ?_ | refine call_sb (c1 _ _) rfl ?_ ?_ | refine call_s (c1 _ _) rfl rfl ?_) <;> try (simp -implicitDefEqProofs only [go_sem])) | (((with_reducible refine vc_b ?_ ?_) <;> intro _) <;> try (simp -implicitDefEqProofs only [go_sem])) | simp (disch := omega) only [wrapI, wrapU, shl1, shl1', shl1'', shrN, shrN', and_one] | ((with_reducible refine isEx4 ?_); refine ⟨(_, _, _, _), rfl, ?_, ?_⟩)
    · have : c.isData l = false := by simp [GCode.isData]; omega
      simp [GCode.encode, h1, h2, this]
    · have : c.isData l = false := by simp only [GCode.isData]; simp_all
      simp [GCode.encode, h1, h2, this]
    · have hdt : c.isData l = true := by simp only [GCode.isData]; simp_all; omega
      have hen : c.encode s l = ((c.stream s l).1, (c.stream s l).2, 0) := by simp [GCode.encode, h1, h2, hdt]
      have hlw : ∀ w, w ∈ l → c.isWord w = true := by simp only [GCode.isData, Bool.and_eq_true, List.all_eq_true] at hdt; exact hdt.2
      have hl24 : l.length ≤ 24 := by simp [GCode.isData] at hdt; exact hdt.1
      rw [hen]
      refine pw_loopS (α := Int × Int × Bool × (List Int)) (l0 := ?l1) (m0 := ?m1) (fun x => [(31, .d (.int .i64 x.1)), (1, .d (.int .i64 x.2.1))]) (fun x => [(40, .row T_int 1 x.2.2.1 (ints x.2.2.2))]) (fun x => 0 ≤ x.1 ∧ x.1 ≤ l.length ∧ c.isState x.2.1 = true ∧ x.2.2.1 = x.2.2.2.isEmpty ∧ x.2.2.2.length = c.out.toNat * x.1.toNat ∧ c.stream s l = (x.2.2.2 ++ (c.stream x.2.1 (l.drop x.1.toNat)).1, (c.stream x.2.1 (l.drop x.1.toNat)).2)) (fun x => (l.length - x.1).toNat) (?a1_0, ?a1_1, ?a1_2, []) ?h01 ?he1 ?he21 ?hI1 ?step1
      case h01 => (simp -implicitDefEqProofs only [go_sem, codeD_eq, codeC_eq]; rfl)
      case he1 => rfl
      case he21 => rfl
      case' step1 => (rintro ⟨i, t, nl', acc⟩ hI; try dsimp only at hI)
      case' hI1 => try dsimp only
      · simp [h2]
      · have hcb : ∀ w, w ∈ l → Ret E0 F_codes_code_bits [codeD c, .int .i64 t, .int .i64 w] (.list false (ints (bitsOf c.out.toNat (c.wrd t w)))) := fun w hw => codes_code_bits_ret c t w h1 hI.2.2.1 (hlw w hw)
        by_cases hi : i < l.length
        · have hm : l[i.toNat]?.getD 0 ∈ l := getD_mem0 (by omega)
          have hcb := hcb _ hm
          have hst := hI.2.2.1
          simp only [GCode.isState, inR, decide_eq_true_eq] at hst
          have hn := GCode.ok_next h1 t.toNat (by omega)
          have h12 := pow_12 (b := c.bits) (by omega)
          have hwd := hlw _ hm
          simp only [GCode.isWord, inR, decide_eq_true_eq] at hwd
          have hbl := bitsOf_length c.out.toNat (c.wrd t (l[i.toNat]?.getD 0))
          have hbig : c.out.toNat * i.toNat ≤ 5 * 24 := Nat.mul_le_mul (by omega) (by omega)
          (try (simp -implicitDefEqProofs only [go_sem, rowsD_eq, rowD_eq])); repeat' first | with_reducible exact True.intro | with_reducible refine And.intro ?_ ?_ | with_reducible intro _ | (((with_reducible refine isCall ?_); first | refine call_b (hcb) rfl ?_ ?_ | refine call_d (hcb) rfl ?_ | refine call_sb (hcb) rfl ?_ ?_ | refine call_s (hcb) rfl rfl ?_) <;> try (simp -implicitDefEqProofs only [go_sem, rowsD_eq, rowD_eq])) | (((with_reducible refine vc_b ?_ ?_) <;> intro _) <;> try (simp -implicitDefEqProofs only [go_sem, rowsD_eq, rowD_eq])) | simp (disch := omega) only [wrapI, wrapU, shl1, shl1', shl1'', shrN, shrN', and_one] | ((with_reducible refine isEx4 ?_); refine ⟨(_, _, _, _), rfl, ?_, ?_⟩)
          all_goals first | omega | (simp; done) | (simp; omega) | skip
          · exact GCode.nxt_state h1 hI.2.2.1 (hlw _ hm)
          · rw [hI.2.2.2.1]; cases acc <;> simp
          · rw [List.length_append, hI.2.2.2.2.1, hbl, show (i + 1).toNat = i.toNat + 1 by omega, Nat.mul_succ]
          · have hdrop : l.drop i.toNat = (l[i.toNat]?.getD 0) :: l.drop (i+1).toNat := by
              rw [show (i+1).toNat = i.toNat+1 by omega, List.drop_eq_getElem_cons (by omega), List.getElem?_eq_getElem (by omega), Option.getD_some]
            rw [hI.2.2.2.2.2, hdrop, GCode.stream]
            simp [c.nxt_eq, List.append_assoc]
        · (try (simp -implicitDefEqProofs only [go_sem])); repeat' first | with_reducible exact True.intro | with_reducible refine And.intro ?_ ?_ | with_reducible intro _ | (((with_reducible refine vc_b ?_ ?_) <;> intro _) <;> try (simp -implicitDefEqProofs only [go_sem])) | simp (disch := omega) only [wrapI, wrapU, shl1, shl1', shl1'', shrN, shrN', and_one] | ((with_reducible refine isEx4 ?_); refine ⟨(_, _, _, _), rfl, ?_, ?_⟩)
          all_goals first | omega | (simp; done) | (simp; omega) | skip
          have h0 : l.drop i.toNat = [] := List.drop_eq_nil_of_le (by omega)
          rw [hI.2.2.2.2.2, h0, GCode.stream, hI.2.2.2.1]
          simp
  · have hk : c.encode s l = ([], 0, if !c.ok then 40 else 41) := by
      simp only [GCode.encode]; cases hok1 : c.ok <;> cases hst : c.isState s <;> simp_all
    rw [hk]
    (try (simp -implicitDefEqProofs only [go_sem])); repeat' first | with_reducible exact True.intro | with_reducible refine And.intro ?_ ?_ | with_reducible intro _ | (((with_reducible refine vc_b ?_ ?_) <;> intro _) <;> try (simp -implicitDefEqProofs only [go_sem])) | simp (disch := omega) only [wrapI, wrapU, shl1, shl1', shl1'', shrN, shrN', and_one] | ((with_reducible refine isEx4 ?_); refine ⟨(_, _, _, _), rfl, ?_, ?_⟩)
    all_goals (cases hok1 : c.ok <;> cases hst : c.isState s <;> simp_all)

theorem codes_distance_ret (n1 n2 : Bool) (xs ys : List Int) (hx : areBits xs = true) (hy : areBits ys = true) (hl : xs.length ≤ ys.length) (h128 : xs.length ≤ 1000000) :
    Ret E0 F_codes_distance [.list n1 (ints xs), .list n2 (ints ys)] (.int .i64 (dist xs ys)) := by
  refine ret_of_pw dec_codes_distance mixed (by simp) fun hwf => ?_
  rw [enter_eq]; unfold pc_codes_distance
  simp -implicitDefEqProofs only [go_sem]
  refine pw_loopS (α := Int × Int) (l0 := ?l2) (m0 := ?m2) (fun x => [(9, .d (.int .i64 x.1)), (4, .d (.int .i64 x.2))]) (fun x => []) (fun x => 0 ≤ x.1 ∧ x.1 ≤ xs.length ∧ 0 ≤ x.2 ∧ x.2 ≤ x.1 ∧ x.2 + dist (xs.drop x.1.toNat) (ys.drop x.1.toNat) = dist xs ys) (fun x => (xs.length - x.1).toNat) (?a2_0, ?a2_1) ?h02 ?he2 ?he22 ?hI2 ?step2
  case h02 => (simp -implicitDefEqProofs only [go_sem]; rfl)
  case he2 => rfl
  case he22 => rfl
  case' step2 => (rintro ⟨i, n⟩ hI; try dsimp only at hI)
  case' hI2 => try dsimp only
  · simp
  · by_cases hi : i < xs.length
    · obtain ⟨e, he⟩ : ∃ e : Int, (if xs[i.toNat]?.getD 0 = ys[i.toNat]?.getD 0 then 0 else 1) = e := ⟨_, rfl⟩
      have hxor := xor_bit (areBits_get hx (i := i.toNat) (by omega)) (areBits_get hy (i := i.toNat) (by omega))
      have hd : dist (xs.drop i.toNat) (ys.drop i.toNat) = e + dist (xs.drop (i + 1).toNat) (ys.drop (i + 1).toNat) := by
        rw [drop_get (xs := xs) (i := i.toNat) (by omega), drop_get (xs := ys) (i := i.toNat) (by omega), dist, he, show (i + 1).toNat = i.toNat + 1 by omega]
      rw [he] at hxor
      have he1 : e = 0 ∨ e = 1 := by rw [← he]; split <;> simp
      (try (simp -implicitDefEqProofs only [go_sem])); repeat' first | with_reducible exact True.intro | with_reducible refine And.intro ?_ ?_ | with_reducible intro _ | (((with_reducible refine vc_b ?_ ?_) <;> intro _) <;> try (simp -implicitDefEqProofs only [go_sem])) | simp (disch := omega) only [wrapI, wrapU, shl1, shl1', shl1'', shrN, shrN', and_one] | ((with_reducible refine isEx2 ?_); refine ⟨(_, _), rfl, ?_, ?_⟩)
      all_goals (try simp only [hxor])
      all_goals (try rw [wrapI _ (by omega)])
      all_goals omega
    · (try (simp -implicitDefEqProofs only [go_sem])); repeat' first | with_reducible exact True.intro | with_reducible refine And.intro ?_ ?_ | with_reducible intro _ | (((with_reducible refine vc_b ?_ ?_) <;> intro _) <;> try (simp -implicitDefEqProofs only [go_sem])) | simp (disch := omega) only [wrapI, wrapU, shl1, shl1', shl1'', shrN, shrN', and_one] | ((with_reducible refine isEx2 ?_); refine ⟨(_, _), rfl, ?_, ?_⟩)
      all_goals first | omega | (simp; done) | (simp; omega) | skip
      have h0 : xs.drop i.toNat = [] := List.drop_eq_nil_of_le (by omega)
      have h1 : dist [] (ys.drop i.toNat) = 0 := by simp [dist]
      rw [h0, h1] at hI
      rw [← hI.2.2.2.2]; simp

def findF (mark bits : List Int) (e : Int) : Nat → Int → List Int
  | 0, _ => []
  | n + 1, i => if dist mark (bits.drop i.toNat) ≤ e then i :: findF mark bits e n (i + 1) else findF mark bits e n (i + 1)
def isMarkB (mark : List Int) : Bool := inR mark.length 1 16 && areBits mark
def findR (mark bits : List Int) (e : Int) : List Int × Int :=
  if !(isMarkB mark && decide (bits.length ≤ 128) && areBits bits && inR e 0 16) then ([], 1)
  else (findF mark bits e (bits.length + 1 - mark.length) 0, 0)

theorem areBits_drop {xs : List Int} (h : areBits xs = true) (n : Nat) : areBits (xs.drop n) = true := by
  simp only [areBits, List.all_eq_true] at *
  exact fun x hx => h x (List.mem_of_mem_drop hx)

theorem codes_Find_ret (n1 n2 : Bool) (mark bits : List Int) (e : Int) : Ret E0 F_codes_Find [.list n1 (ints mark), .list n2 (ints bits), .int .i64 e]
    (.tup [.list (findR mark bits e).1.isEmpty (ints (findR mark bits e).1), .int .i64 (findR mark bits e).2]) := by
  refine ret_of_pw dec_codes_Find mixed (by simp) fun hwf => ?_
  simp only [wf_int, wf_bool, wf_ints, wf_list, wf_agg, wf_ptr, wf_fn, wf_tup, wf_all_cons, wf_all_nil, wf_all_map, inK_i64, maxLen_eq, List.length_map, ints_len, true_and, and_true] at hwf
  have bad : (isMarkB mark && decide (bits.length ≤ 128) && areBits bits && inR e 0 16) = false → findR mark bits e = ([], 1) := fun h => by simp only [findR, h]; rfl
  have bad2 : ¬ bits.length ≤ 128 → findR mark bits e = ([], 1) := fun h => bad (by have : decide (bits.length ≤ 128) = false := by simpa using h
                                                                                    simp [this])
  rw [enter_eq]; unfold pc_codes_Find
  (try (simp -implicitDefEqProofs only [go_sem])); repeat' first | with_reducible exact True.intro | with_reducible refine And.intro ?_ ?_ | with_reducible intro _ | (((with_reducible refine isCall ?_); first | refine call_b (codes_isMark_ret _ _) rfl ?_ ?_ | refine call_d (codes_isMark_ret _ _) rfl ?_ | refine call_sb (codes_isMark_ret _ _) rfl ?_ ?_ | refine call_s (codes_isMark_ret _ _) rfl rfl ?_ | refine call_b (codes_are_ret _ _) rfl ?_ ?_ | refine call_d (codes_are_ret _ _) rfl ?_ | refine call_sb (codes_are_ret _ _) rfl ?_ ?_ | refine call_s (codes_are_ret _ _) rfl rfl ?_ | refine call_b (codes_within_ret _ _ _) rfl ?_ ?_ | refine call_d (codes_within_ret _ _ _) rfl ?_ | refine call_sb (codes_within_ret _ _ _) rfl ?_ ?_ | refine call_s (codes_within_ret _ _ _) rfl rfl ?_) <;> try (simp -implicitDefEqProofs only [go_sem])) | (((with_reducible refine vc_b ?_ ?_) <;> intro _) <;> try (simp -implicitDefEqProofs only [go_sem])) | simp (disch := omega) only [wrapI, wrapU, shl1, shl1', shl1'', shrN, shrN', and_one] | ((with_reducible refine isEx3 ?_); refine ⟨(_, _, _), rfl, ?_, ?_⟩)
  all_goals first | (have hx : ¬ bits.length ≤ 128 := by omega
                     rw [bad2 hx]; rfl) | skip
  all_goals first | (have hx : (isMarkB mark && decide (bits.length ≤ 128) && areBits bits && inR e 0 16) = false := by (simp_all [isMarkB]; done)
                     rw [bad hx]; rfl) | skip
  have hm : isMarkB mark = true := by assumption
  have hb : areBits bits = true := by assumption
  have h128 : bits.length ≤ 128 := by omega
  have hgood : findR mark bits e = (findF mark bits e (bits.length + 1 - mark.length) 0, 0) := by simp only [findR]; simp_all
  have hmb : areBits mark = true := by simp only [isMarkB, Bool.and_eq_true] at hm; exact hm.2
  have hm1 : 1 ≤ mark.length ∧ mark.length ≤ 16 := by simp [isMarkB, inR] at hm; omega
  rw [hgood]
  refine pw_loopS (α := Int × Bool × (List Int)) (l0 := ?l3) (m0 := ?m3) (fun x => [(35, .d (.int .i64 x.1))]) (fun x => [(48, .row T_int 1 x.2.1 (ints x.2.2))]) (fun x => 0 ≤ x.1 ∧ x.1 ≤ max 0 (bits.length - mark.length + 1 : Int) ∧ x.2.2.length ≤ x.1 ∧ x.2.1 = x.2.2.isEmpty ∧ x.2.2 ++ findF mark bits e (bits.length + 1 - mark.length - x.1.toNat) x.1 = findF mark bits e (bits.length + 1 - mark.length) 0) (fun x => (max 0 (bits.length - mark.length + 1 : Int) - x.1).toNat) (?a3_0, ?a3_1, []) ?h03 ?he3 ?he23 ?hI3 ?step3
  case h03 => (simp -implicitDefEqProofs only [go_sem]; rfl)
  case he3 => rfl
  case he23 => rfl
  case' step3 => (rintro ⟨i, nl, acc⟩ hI; try dsimp only at hI)
  case' hI3 => try dsimp only
  · simp; omega
  · by_cases hi : i < max 0 (bits.length - mark.length + 1 : Int)
    · have hstep : findF mark bits e (bits.length + 1 - mark.length - i.toNat) i = if dist mark (bits.drop i.toNat) ≤ e then i :: findF mark bits e (bits.length + 1 - mark.length - (i + 1).toNat) (i + 1) else findF mark bits e (bits.length + 1 - mark.length - (i + 1).toNat) (i + 1) := by
        rw [show bits.length + 1 - mark.length - i.toNat = (bits.length + 1 - mark.length - (i + 1).toNat) + 1 by omega, findF]
      have cd := fun n1 n2 => codes_distance_ret n1 n2 mark (bits.drop i.toNat) hmb (areBits_drop hb _) (by simp; omega) (by omega)
      (try (simp -implicitDefEqProofs only [go_sem])); repeat' first | with_reducible exact True.intro | with_reducible refine And.intro ?_ ?_ | with_reducible intro _ | (((with_reducible refine isCall ?_); first | refine call_b (cd _ _) rfl ?_ ?_ | refine call_d (cd _ _) rfl ?_ | refine call_sb (cd _ _) rfl ?_ ?_ | refine call_s (cd _ _) rfl rfl ?_) <;> try (simp -implicitDefEqProofs only [go_sem])) | (((with_reducible refine vc_b ?_ ?_) <;> intro _) <;> try (simp -implicitDefEqProofs only [go_sem])) | simp (disch := omega) only [wrapI, wrapU, shl1, shl1', shl1'', shrN, shrN', and_one] | ((with_reducible refine isEx3 ?_); refine ⟨(_, _, _), rfl, ?_, ?_⟩)
      all_goals first | omega | (simp; done) | (simp; omega) | skip
      · rw [← hI.2.2.2.2, hstep, if_pos (by assumption)]; simp
      · exact hI.2.2.2.1
      · rw [← hI.2.2.2.2, hstep, if_neg (by assumption)]
    · (try (simp -implicitDefEqProofs only [go_sem])); repeat' first | with_reducible exact True.intro | with_reducible refine And.intro ?_ ?_ | with_reducible intro _ | (((with_reducible refine vc_b ?_ ?_) <;> intro _) <;> try (simp -implicitDefEqProofs only [go_sem])) | simp (disch := omega) only [wrapI, wrapU, shl1, shl1', shl1'', shrN, shrN', and_one] | ((with_reducible refine isEx3 ?_); refine ⟨(_, _, _), rfl, ?_, ?_⟩)
      all_goals first | omega | (simp; done) | (simp; omega) | skip
      have h0 : bits.length + 1 - mark.length - i.toNat = 0 := by omega
      have h1 := hI.2.2.2.2
      rw [h0, findF, List.append_nil] at h1
      rw [← h1, hI.2.2.2.1]
end Go.Pw
end
