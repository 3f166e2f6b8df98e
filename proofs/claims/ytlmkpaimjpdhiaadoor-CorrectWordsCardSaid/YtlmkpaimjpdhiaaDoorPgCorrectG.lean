/- A part of the proof. -/
import Derived.Test.YtlmkpaimjpdhiaaDoorCorrectF
import Derived.Test.YtlmkpaimjpdhiaaDoorCorrectVan
set_option linter.all false
section
open Go Go.Pw Go.Proofs
namespace Go.Pw
set_option linter.unusedSimpArgs false
set_option linter.unusedVariables false
set_option maxRecDepth 100000
set_option maxHeartbeats 3200000
theorem upto_get {A B : List F} (hl : A.length = B.length) (i : Nat) (h : i < A.length) : (A.take i ++ B.drop i)[i]?.getD 0 = B[i]?.getD 0 := by
  rw [List.getElem?_append_right (by simp; omega)]
  simp only [List.length_take, List.getElem?_drop]
  congr 2; omega
theorem upto_set {A B : List F} (hl : A.length = B.length) (i : Nat) (h : i < A.length) : (A.take i ++ B.drop i).set i (A[i]?.getD 0) = A.take (i + 1) ++ B.drop (i + 1) := by
  have h1 : (A.take i).length = i := by simp; omega
  have h2 : A.take (i + 1) = A.take i ++ [A[i]] := by rw [List.take_succ, List.getElem?_eq_getElem h]; rfl
  rw [List.set_append_right _ _ (by omega), h1, Nat.sub_self, List.drop_eq_getElem_cons (by omega), List.set_cons_zero, h2, List.getElem?_eq_getElem h, List.append_assoc]
  rfl
theorem upto_len {A B : List F} (hl : A.length = B.length) (i : Nat) (h : i ≤ A.length) : (A.take i ++ B.drop i).length = A.length := by simp; omega
theorem upto_end {A B : List F} (hl : A.length = B.length) : A.take A.length ++ B.drop A.length = A := by rw [List.take_length, List.drop_eq_nil_of_le (by omega), List.append_nil]
theorem addR_get (r o : List F) (b : F) (i : Nat) (h : r.length = o.length) : (addR r o b)[i]?.getD 0 = fa (r[i]?.getD 0) (fm (o[i]?.getD 0) b) := at0_addR r o b i h
theorem setA {R : List (List F)} {a : Nat} {r : List F} (h : a < R.length) : (R.set a r)[a]?.getD [] = r := by simp [h]
theorem setB {R : List (List F)} {a b : Nat} {r : List F} (h : a ≠ b) : (R.set a r)[b]?.getD [] = R[b]?.getD [] := by rw [List.getElem?_set_ne h]
theorem setS {R : List (List F)} {a : Nat} {r r' : List F} : (R.set a r).set a r' = R.set a r' := List.set_set ..
theorem set_id {R : List (List F)} {a : Nat} (h : a < R.length) : R.set a (R[a]?.getD []) = R := by
  rw [List.getElem?_eq_getElem h]; simp
attribute [local congr] cg_pw cg_seqI cg_seqE cg_stepI cg_ev cg_evBin cg_condB cg_condV cg_thenQ cg_blockQ cg_onSome cg_onCells cg_onRow cg_onRow2 cg_onMtx cg_frmV cg_fraV cg_frcV cg_frcO cg_frcX cg_fraO cg_owmV cg_ghosts cg_ghost cg_evCall cg_part cg_rng cg_guardV cg_frzV cg_frpV cg_ownV cg_resK cg_res1
attribute [local irreducible] IntKind.wrap bitsOp Option.getD and or

theorem add_own (e1 e2 : Nat) (nl : Bool) (ix : List Nat) (R : List (List F)) (a b : Nat) (s : F) (hab : a ≠ b) (ha : a < R.length) (hb : b < R.length) (hl : (R[a]?.getD []).length = (R[b]?.getD []).length) (hs : (R[b]?.getD []).length ≤ 1000) :
    CallM E0 F_correct_row_add [(900000, 0, .mat e1 e2 nl ix (urows R))] [.mref (.row a) 900000 0, .mref (.row b) 900000 0, .d (.int .u8 (s.val : Int))]
      [(900000, 0, .mat e1 e2 nl ix (urows (R.set a (addR (R[a]?.getD []) (R[b]?.getD []) s))))] (.tup []) := by
  obtain ⟨ra, hra⟩ : ∃ ra, R[a]?.getD [] = ra := ⟨_, rfl⟩
  obtain ⟨rb, hrb⟩ : ∃ rb, R[b]?.getD [] = rb := ⟨_, rfl⟩
  rw [hra, hrb] at hl ⊢
  rw [hrb] at hs
  have hA := addR_len ra rb s hl
  have hRR : R.set a ra = R := by rw [← hra]; exact set_id ha
  have hl2 : (R.set a ra).length = R.length := by simp
  suffices hsu : CallM E0 F_correct_row_add [(900000, 0, .mat e1 e2 nl ix (urows (R.set a ra)))] [.mref (.row a) 900000 0, .mref (.row b) 900000 0, .d (.int .u8 (s.val : Int))]
      [(900000, 0, .mat e1 e2 nl ix (urows (R.set a (addR ra rb s))))] (.tup []) by rwa [hRR] at hsu
  have hB0 : (R.set a ra)[b]?.getD [] = rb := by rw [setB hab]; exact hrb
  refine callM_of_pw dec_correct_row_add mixed (by simp) (by simp [okV0, nodupB, lim, AObj.isHist]) (by simp [hasN]) fun hwf hwo => ?_
  rw [enterM_eq]; unfold pc_correct_row_add
  (try (simp -implicitDefEqProofs only [go_sem, hB0, hb, List.length_set])); repeat' first | with_reducible exact True.intro | with_reducible refine And.intro ?_ ?_ | with_reducible intro _ | (((with_reducible refine vc_b ?_ ?_) <;> intro _) <;> try (simp -implicitDefEqProofs only [go_sem, hB0, hb, List.length_set])) | simp (disch := omega) only [wrapI, wrapU, shl1, shl1', shl1'', shrN, shrN', and_one] | ((with_reducible refine isEx2 ?_); refine ⟨(_, _), rfl, ?_, ?_⟩)
  refine pw_loopS (α := Nat × (List F)) (l0 := ?l1) (m0 := ?m1) (fun x => [(10, .d (.int .i64 (x.1 : Int)))]) (fun x => [(900000, .mat e1 e2 nl ix (urows (R.set a x.2)))]) (fun x => x.1 ≤ rb.length ∧ x.2 = (addR ra rb s).take x.1 ++ ra.drop x.1) (fun x => rb.length - x.1) (0, ra) ?h01 ?he1 ?he21 ?hI1 ?step1
  case h01 => (simp -implicitDefEqProofs only [go_sem, List.length_set]; rfl)
  case he1 => rfl
  case he21 => rfl
  case' step1 => (rintro ⟨i, r⟩ hI; try dsimp only at hI)
  case' hI1 => try dsimp only
  · exact ⟨by omega, by simp⟩
  · obtain ⟨h1, h2⟩ := hI
    have hr : r.length = rb.length := by rw [h2, upto_len hA i (by omega)]; omega
    by_cases h : i < rb.length
    · have h' : (i : Int) < (rb.length : Int) := by omega
      have hw : IntKind.i64.wrap ((i : Int) + 1) = ((i + 1 : Nat) : Int) := by rw [wrapI _ (by omega)]; omega
      have c1 := correct_times_ret (rb[i]?.getD 0) s
      have k1 : r[i]?.getD 0 = ra[i]?.getD 0 := by rw [h2]; exact upto_get hA i (by omega)
      have k2 : r.set i (fa (ra[i]?.getD 0) (fm (rb[i]?.getD 0) s)) = (addR ra rb s).take (i + 1) ++ ra.drop (i + 1) := by
        rw [h2, ← addR_get ra rb s i hl]; exact upto_set hA i (by omega)
      have hB : (R.set a r)[b]?.getD [] = rb := by rw [setB hab]; exact hrb
      (try (simp -implicitDefEqProofs only [go_sem, h', hw, k1, setA ha, hB, setS, List.length_set])); repeat' first | with_reducible exact True.intro | with_reducible refine And.intro ?_ ?_ | with_reducible intro _ | (((with_reducible refine isCall ?_); first | refine call_b (c1) rfl ?_ ?_ | refine call_d (c1) rfl ?_ | refine call_sb (c1) rfl ?_ ?_ | refine call_s (c1) rfl rfl ?_) <;> try (simp -implicitDefEqProofs only [go_sem, h', hw, k1, setA ha, hB, setS, List.length_set])) | (((with_reducible refine vc_b ?_ ?_) <;> intro _) <;> try (simp -implicitDefEqProofs only [go_sem, h', hw, k1, setA ha, hB, setS, List.length_set])) | simp (disch := omega) only [wrapI, wrapU, shl1, shl1', shl1'', shrN, shrN', and_one] | ((with_reducible refine isEx2 ?_); refine ⟨(_, _), rfl, ?_, ?_⟩)
      all_goals first | omega | (simp; done) | (simp; omega) | skip
      all_goals first | exact k2 | skip
    · have h' : ¬ (i : Int) < (rb.length : Int) := by omega
      have hk : i = rb.length := by omega
      have hf : r = addR ra rb s := by
        rw [h2, hk]
        have := upto_end hA
        rwa [hA, hl] at this
      subst hf
      have hB : (R.set a (addR ra rb s))[b]?.getD [] = rb := by rw [setB hab]; exact hrb
      (try (simp -implicitDefEqProofs only [go_sem, h', hB, List.length_set])); repeat' first | with_reducible exact True.intro | with_reducible refine And.intro ?_ ?_ | with_reducible intro _ | (((with_reducible refine vc_b ?_ ?_) <;> intro _) <;> try (simp -implicitDefEqProofs only [go_sem, h', hB, List.length_set])) | simp (disch := omega) only [wrapI, wrapU, shl1, shl1', shl1'', shrN, shrN', and_one] | ((with_reducible refine isEx2 ?_); refine ⟨(_, _), rfl, ?_, ?_⟩)
      all_goals first | omega | (simp; done) | (simp; omega) | skip

theorem conv_row_ret (nl nb na : Bool) (M : List (List F)) (at_ : List Nat) (m : Nat) (hm : m = at_.length) (hl : M.length ≤ 1000) (hs : ∀ i, i < M.length → m < (M[i]?.getD []).length) :
    Ret E0 F_correct_convert_correct_row_correct_symbol [.list nl (M.map fun r => .list nb (us r)), .fn F_correct_code_solve_1 [.ptr [.list na (ints (ni at_))]]] (.list M.isEmpty (us (M.map fun r => r[m]?.getD 0))) := by
  subst hm
  have c0 : ∀ r : List F, at_.length < r.length → Ret E0 F_correct_code_solve_1 [.list nb (us r), .ptr [.list na (ints (ni at_))]] (.int .u8 ((r[at_.length]?.getD 0).val : Int)) := by
    intro r hr
    refine ret_of_pw dec_correct_code_solve_1 mixed (by simp) fun hwf => ?_
    rw [enter_eq]; unfold pc_correct_code_solve_1
    (try (simp -implicitDefEqProofs only [go_sem])); repeat' first | with_reducible exact True.intro | with_reducible refine And.intro ?_ ?_ | with_reducible intro _ | (((with_reducible refine vc_b ?_ ?_) <;> intro _) <;> try (simp -implicitDefEqProofs only [go_sem])) | simp (disch := omega) only [wrapI, wrapU, shl1, shl1', shl1'', shrN, shrN', and_one] | ((with_reducible refine isEx3 ?_); refine ⟨(_, _, _), rfl, ?_, ?_⟩)
    all_goals first | omega | (simp; done) | (simp; omega) | skip
  refine ret_of_pw dec_correct_convert_correct_row_correct_symbol mixed (by simp) fun hwf => ?_
  rw [enter_eq]; unfold pc_correct_convert_correct_row_correct_symbol
  (try (simp -implicitDefEqProofs only [go_sem])); repeat' first | with_reducible exact True.intro | with_reducible refine And.intro ?_ ?_ | with_reducible intro _ | (((with_reducible refine vc_b ?_ ?_) <;> intro _) <;> try (simp -implicitDefEqProofs only [go_sem])) | simp (disch := omega) only [wrapI, wrapU, shl1, shl1', shl1'', shrN, shrN', and_one] | ((with_reducible refine isEx3 ?_); refine ⟨(_, _, _), rfl, ?_, ?_⟩)
  refine pw_loopS (α := Nat × Bool × (List F)) (l0 := ?l2) (m0 := ?m2) (fun x => [(10, .d (.int .i64 (x.1 : Int)))]) (fun x => [(19, .row 89 1 x.2.1 (us x.2.2))]) (fun x => x.1 ≤ M.length ∧ x.2.2 = (M.take x.1).map (fun r => r[at_.length]?.getD 0) ∧ x.2.1 = x.2.2.isEmpty) (fun x => M.length - x.1) (0, true, []) ?h02 ?he2 ?he22 ?hI2 ?step2
  case h02 => (simp -implicitDefEqProofs only [go_sem]; rfl)
  case he2 => rfl
  case he22 => rfl
  case' step2 => (rintro ⟨i, b, l⟩ hI; try dsimp only at hI)
  case' hI2 => try dsimp only
  · exact ⟨by omega, rfl, rfl⟩
  · obtain ⟨h1, h2, h3⟩ := hI
    subst h3
    by_cases h : i < M.length
    · have h' : (i : Int) < (M.length : Int) := by omega
      have hw : IntKind.i64.wrap ((i : Int) + 1) = ((i + 1 : Nat) : Int) := by rw [wrapI _ (by omega)]; omega
      have c1 := c0 (M[i]?.getD default) (hs i h)
      have hk : l ++ [(M[i]?.getD default)[at_.length]?.getD 0] = (M.take (i + 1)).map (fun r => r[at_.length]?.getD 0) := by
        rw [h2, List.take_succ, List.getElem?_eq_getElem h, List.map_append, Option.getD_some]; rfl
      have hl3 : l.length ≤ 1000 := by rw [h2]; simp; omega
      (try (simp -implicitDefEqProofs only [go_sem, h', hw, body_solve_1, onSome_map])); repeat' first | with_reducible exact True.intro | with_reducible refine And.intro ?_ ?_ | with_reducible intro _ | (((with_reducible refine isCall ?_); first | refine call_b (c1) rfl ?_ ?_ | refine call_d (c1) rfl ?_ | refine call_sb (c1) rfl ?_ ?_ | refine call_s (c1) rfl rfl ?_) <;> try (simp -implicitDefEqProofs only [go_sem, h', hw, body_solve_1, onSome_map])) | (((with_reducible refine vc_b ?_ ?_) <;> intro _) <;> try (simp -implicitDefEqProofs only [go_sem, h', hw, body_solve_1, onSome_map])) | simp (disch := omega) only [wrapI, wrapU, shl1, shl1', shl1'', shrN, shrN', and_one] | ((with_reducible refine isEx3 ?_); refine ⟨(_, _, _), rfl, ?_, ?_⟩)
      all_goals first | omega | (simp; done) | (simp; omega) | skip
      all_goals first | exact hk | (exact (emp_snoc _ _).symm) | (simp at *; done) | (simp at *; omega) | skip
    · have h' : ¬ (i : Int) < (M.length : Int) := by omega
      have hk : i = M.length := by omega
      subst hk
      rw [List.take_length] at h2
      have he : l.isEmpty = M.isEmpty := by rw [h2]; cases M <;> rfl
      rw [← h2, ← he]
      (try (simp -implicitDefEqProofs only [go_sem, h'])); repeat' first | with_reducible exact True.intro | with_reducible refine And.intro ?_ ?_ | with_reducible intro _ | (((with_reducible refine vc_b ?_ ?_) <;> intro _) <;> try (simp -implicitDefEqProofs only [go_sem, h'])) | simp (disch := omega) only [wrapI, wrapU, shl1, shl1', shl1'', shrN, shrN', and_one] | ((with_reducible refine isEx3 ?_); refine ⟨(_, _, _), rfl, ?_, ?_⟩)
      all_goals first | omega | (simp; done) | (simp; omega) | skip
      all_goals first | rfl | skip
end Go.Pw
end
section
namespace Go.Pw
set_option linter.unusedSimpArgs false
set_option linter.unusedVariables false

/-- The rows, in the order of the slice. -/
def lm (ix : List Nat) (R : List (List F)) : List (List F) := ix.map fun j => R[j]?.getD []
structure PQ (n : Nat) (ix : List Nat) (R : List (List F)) : Prop where
  li : ix.length = n
  lr : R.length = n
  nd : ix.Nodup
  lt : ∀ j, j ∈ ix → j < n
def ix0 (ix : List Nat) (i : Nat) : Nat := ix[i]?.getD 0
theorem ix0_getElem {l : List Nat} {i : Nat} (h : i < l.length) : ix0 l i = l[i] := by unfold ix0; rw [List.getElem?_eq_getElem h]; rfl
theorem ix0_mem {ix : List Nat} {i : Nat} (h : i < ix.length) : ix0 ix i ∈ ix := by unfold ix0; rw [List.getElem?_eq_getElem h]; exact List.getElem_mem h
theorem PQ.ix_lt {n ix R} (h : PQ n ix R) {i : Nat} (hi : i < n) : ix0 ix i < n := h.lt _ (ix0_mem (by rw [h.li]; exact hi))
theorem PQ.ix_inj {n ix R} (h : PQ n ix R) {i j : Nat} (hi : i < n) (hj : j < n) (he : ix0 ix i = ix0 ix j) : i = j := by
  have h1 := h.li
  unfold ix0 at he
  rw [List.getElem?_eq_getElem (by omega), List.getElem?_eq_getElem (by omega)] at he
  exact (List.getElem_inj h.nd).1 he
theorem lm_len (ix R) : (lm ix R).length = ix.length := by simp [lm]
theorem row0_lm {n ix R} (h : PQ n ix R) {i : Nat} (hi : i < n) : row0 (lm ix R) i = R[ix0 ix i]?.getD [] := by
  have h1 := h.li
  unfold row0 lm ix0
  rw [List.getElem?_map, List.getElem?_eq_getElem (by omega)]; rfl
theorem PQ.set {n ix R} (h : PQ n ix R) (a : Nat) (r : List F) : PQ n ix (R.set a r) := ⟨h.li, by simpa using h.lr, h.nd, h.lt⟩
theorem lm_set {n ix R} (h : PQ n ix R) {i : Nat} (hi : i < n) (r : List F) : lm ix (R.set (ix0 ix i) r) = (lm ix R).set i r := by
  have h1 := h.li
  apply List.ext_getElem?
  intro j
  by_cases hj : j < n
  · have e1 : (lm ix (R.set (ix0 ix i) r))[j]? = some (row0 (lm ix (R.set (ix0 ix i) r)) j) := by
      unfold row0; rw [List.getElem?_eq_getElem (by rw [lm_len]; omega)]; rfl
    rw [e1, row0_lm (h.set _ _) hj]
    by_cases hij : i = j
    · subst hij
      rw [List.getElem?_set_self (by rw [h.lr]; exact h.ix_lt hi), List.getElem?_set_self (by rw [lm_len]; omega)]; rfl
    · rw [List.getElem?_set_ne (fun e => hij (h.ix_inj hi hj e)), List.getElem?_set_ne hij]
      unfold lm
      rw [List.getElem?_map, List.getElem?_eq_getElem (l := ix) (by omega)]
      show some _ = some _
      unfold ix0
      rw [List.getElem?_eq_getElem (l := ix) (by omega)]; rfl
  · rw [List.getElem?_eq_none (by rw [lm_len]; omega), List.getElem?_eq_none (by simp [lm_len]; omega)]
/-- Two cells of the slice are exchanged. -/
theorem ix_swap {n ix R} (h : PQ n ix R) {k p : Nat} (hk : k < n) (hp : p < n) : PQ n ((ix.set k (ix0 ix p)).set p (ix0 ix k)) R ∧ lm ((ix.set k (ix0 ix p)).set p (ix0 ix k)) R = swp (lm ix R) k p ∧ ix0 ((ix.set k (ix0 ix p)).set p (ix0 ix k)) k = ix0 ix p := by
  have h1 := h.li
  have hget : ∀ j, j < n → ix0 ((ix.set k (ix0 ix p)).set p (ix0 ix k)) j = if j = p then ix0 ix k else if j = k then ix0 ix p else ix0 ix j := fun j hj => by
    rw [show ix0 ((ix.set k (ix0 ix p)).set p (ix0 ix k)) j = ((ix.set k (ix0 ix p)).set p (ix0 ix k))[j]?.getD 0 from rfl]
    by_cases e1 : j = p
    · subst e1; rw [List.getElem?_set_self (by simp; omega), if_pos rfl]; rfl
    · rw [List.getElem?_set_ne fun e => e1 e.symm, if_neg e1]
      by_cases e2 : j = k
      · subst e2; rw [List.getElem?_set_self (by omega), if_pos rfl]; rfl
      · rw [List.getElem?_set_ne fun e => e2 e.symm, if_neg e2]; rfl
  have hlen : ((ix.set k (ix0 ix p)).set p (ix0 ix k)).length = n := by simp [h1]
  have hP : PQ n ((ix.set k (ix0 ix p)).set p (ix0 ix k)) R := by
    refine ⟨hlen, h.lr, ?_, fun j hj => ?_⟩
    · refine List.pairwise_iff_getElem.2 fun i j hi hj hij he => ?_
      have e1 := hget i (by omega)
      have e2 := hget j (by omega)
      have he' : ix0 ((ix.set k (ix0 ix p)).set p (ix0 ix k)) i = ix0 ((ix.set k (ix0 ix p)).set p (ix0 ix k)) j := by
        rw [ix0_getElem hi, ix0_getElem hj]; exact he
      rw [e1, e2] at he'
      have inj : ∀ {a b}, a < n → b < n → ix0 ix a = ix0 ix b → a = b := fun ha hb => h.ix_inj ha hb
      have : i = j := by
        by_cases c1 : i = p <;> by_cases c2 : j = p
        · omega
        · rw [if_pos c1, if_neg c2] at he'
          by_cases c3 : j = k
          · rw [if_pos c3] at he'; have := inj hk hp he'; omega
          · rw [if_neg c3] at he'; have := inj hk (by omega) he'; omega
        · rw [if_neg c1, if_pos c2] at he'
          by_cases c3 : i = k
          · rw [if_pos c3] at he'; have := inj hp hk he'; omega
          · rw [if_neg c3] at he'; have := inj (by omega) hk he'; omega
        · rw [if_neg c1, if_neg c2] at he'
          by_cases c3 : i = k <;> by_cases c4 : j = k
          · omega
          · rw [if_pos c3, if_neg c4] at he'; have := inj hp (by omega) he'; omega
          · rw [if_neg c3, if_pos c4] at he'; have := inj (by omega) hp he'; omega
          · rw [if_neg c3, if_neg c4] at he'; exact inj (by omega) (by omega) he'
      omega
    · obtain ⟨i, hi, rfl⟩ := List.getElem_of_mem hj
      rw [← ix0_getElem hi, hget i (by omega)]
      split
      · exact h.ix_lt hk
      · split
        · exact h.ix_lt hp
        · exact h.ix_lt (by omega)
  refine ⟨hP, ?_, ?_⟩
  · apply List.ext_getElem
    · simp [lm_len, swp, h1]
    · intro j h2 h3
      have hj : j < n := by rw [lm_len, hlen] at h2; exact h2
      have e1 := row0_lm hP hj
      have e2 := row0_swp (lm ix R) k p j (by rw [lm_len]; omega) (by rw [lm_len]; omega)
      unfold row0 at e1
      rw [List.getElem?_eq_getElem h2] at e1
      rw [show row0 (swp (lm ix R) k p) j = (swp (lm ix R) k p)[j]?.getD [] from rfl, List.getElem?_eq_getElem h3] at e2
      have e1' : (lm ((ix.set k (ix0 ix p)).set p (ix0 ix k)) R)[j] = R[ix0 ((ix.set k (ix0 ix p)).set p (ix0 ix k)) j]?.getD [] := e1
      have e2' : (swp (lm ix R) k p)[j] = if j = p then row0 (lm ix R) k else if j = k then row0 (lm ix R) p else row0 (lm ix R) j := e2
      rw [e1', e2', hget j hj]
      split
      · rw [row0_lm h hk]
      · split
        · rw [row0_lm h hp]
        · rw [row0_lm h hj]
  · rw [hget k hk]
    split
    · rename_i e; subst e; rfl
    · rw [if_pos rfl]

/-- Where the elimination stands when k columns are done. -/
structure Stt (L P : Nat) (at_ : List Nat) (s : List F) (ix : List Nat) (R : List (List F)) (k : Nat) : Prop where
  pq : PQ P ix R
  shp : Shp (lm ix R) P (at_.length + 1)
  red : Red (lm ix R) k
  sat : ∀ c v, v.length = at_.length → (Sat c (lm ix R) v ↔ Sat c (eqs L P at_ s) v)
theorem lm_range (R : List (List F)) : lm (List.range R.length) R = R := by
  apply List.ext_getElem
  · simp [lm]
  · intro i h1 h2
    simp [lm, h2]
theorem Stt.start {L P : Nat} {at_ : List Nat} {s : List F} : Stt L P at_ s (List.range P) (eqs L P at_ s) 0 := by
  have hl := (eqs_shp L P at_ s).len
  have e : lm (List.range P) (eqs L P at_ s) = eqs L P at_ s := by
    have := lm_range (eqs L P at_ s)
    rwa [hl] at this
  refine ⟨⟨by simp, hl, List.nodup_range, fun j hj => by simpa using hj⟩, by rw [e]; exact eqs_shp L P at_ s, ⟨fun i j hi hj => by omega, fun j hj => by omega⟩, fun c v hv => by rw [e]⟩
theorem Stt.rlen {L P at_ s ix R k} (h : Stt L P at_ s ix R k) {i : Nat} (hi : i < P) : (R[ix0 ix i]?.getD []).length = at_.length + 1 := by
  have := h.shp.row i hi
  rwa [row0_lm h.pq hi] at this
theorem Stt.fail {L P at_ s ix R k} (h : Stt L P at_ s ix R k) (hL : L ≤ 15) (hp : Pos L at_) (hm : at_.length ≤ P) (hk : k < at_.length) (hz : ∀ i, k ≤ i → i < P → ent (lm ix R) i k = 0) : False := by
  obtain ⟨v, h1, h2, h3⟩ := sat_fail h.shp h.red hk hm hz
  have := ker_zero hL hp hm h1 ((h.sat 0 v h1).1 h2) k
  rw [h3] at this
  exact absurd this (by decide)
/-- The row with the pivot is exchanged, and taken from all others. -/
theorem Stt.step {L P at_ s ix R k} (h : Stt L P at_ s ix R k) {p : Nat} (hk : k < P) (hkp : k ≤ p) (hp : p < P) (hnz : ent (lm ix R) p k ≠ 0) {f : F → F → F} (hf : ∀ a, fm (ent (lm ix R) p k) (f a (ent (lm ix R) p k)) = a)
    {ix' : List Nat} {R' : List (List F)} (hpq : PQ P ix' R') (hr : lm ix' R' = redAll f (swp (lm ix R) k p) k) : Stt L P at_ s ix' R' (k + 1) ∧ (∀ j, j < k → ent (lm ix' R') j j = ent (lm ix R) j j) := by
  have s1 := h.shp.swp hk hp
  have r1 := h.red.swp h.shp hk hkp hp
  have e1 := ent_swp h.shp hk hp k
  refine ⟨⟨hpq, by rw [hr]; exact s1.red f hk, by rw [hr]; exact r1.red f s1 hk (by rw [e1]; exact hnz) (by rw [e1]; exact hf), fun c v hv => ?_⟩, fun j hj => ?_⟩
  · rw [hr, Sat_red f s1 hk, Sat_swp h.shp hk hp]; exact h.sat c v hv
  · rw [hr, ent_red_dia f s1 r1 hk j (by omega)]
    unfold ent
    rw [row0_swp _ _ _ _ (by rw [h.shp.len]; omega) (by rw [h.shp.len]; omega), if_neg (by omega), if_neg (by omega)]
/-- The same, with the row scaled first. -/
theorem Stt.stepS {L P at_ s ix R k} (h : Stt L P at_ s ix R k) (h1 : ∀ j, j < k → ent (lm ix R) j j = 1) {p : Nat} (hk : k < P) (hkp : k ≤ p) (hp : p < P) (hnz : ent (lm ix R) p k ≠ 0)
    {ix' : List Nat} {R' : List (List F)} (hpq : PQ P ix' R') (hr : lm ix' R' = redAll (fun a _ => a) ((swp (lm ix R) k p).set k (sclR (row0 (swp (lm ix R) k p) k) (fi (ent (lm ix R) p k)))) k) :
    Stt L P at_ s ix' R' (k + 1) ∧ ∀ j, j < k + 1 → ent (lm ix' R') j j = 1 := by
  have s1 := h.shp.swp hk hp
  have r1 := h.red.swp h.shp hk hkp hp
  have e1 := ent_swp h.shp hk hp k
  have s2 := s1.scl hk (fi (ent (lm ix R) p k))
  have r2 := r1.scl s1 hk (fi (ent (lm ix R) p k))
  have e2 : ent ((swp (lm ix R) k p).set k (sclR (row0 (swp (lm ix R) k p) k) (fi (ent (lm ix R) p k)))) k k = 1 := by
    rw [ent_scl s1 hk, if_pos rfl, e1, fm_fi _ hnz]
  refine ⟨⟨hpq, by rw [hr]; exact s2.red _ hk, by rw [hr]; exact r2.red _ s2 hk (by rw [e2]; decide) (by rw [e2]; exact fun a => one_fm a), fun c v hv => ?_⟩, fun j hj => ?_⟩
  · rw [hr, Sat_red _ s2 hk, Sat_scl s1 hk (fi_ne _), Sat_swp h.shp hk hp]; exact h.sat c v hv
  · rw [hr, ent_red_dia _ s2 r2 hk j (by omega)]
    rcases Nat.lt_succ_iff_lt_or_eq.1 hj with hj | rfl
    · rw [ent_scl s1 hk, if_neg (by omega)]
      have : ent (swp (lm ix R) k p) j j = ent (lm ix R) j j := by
        unfold ent
        rw [row0_swp _ _ _ _ (by rw [h.shp.len]; omega) (by rw [h.shp.len]; omega), if_neg (by omega), if_neg (by omega)]
      rw [this]; exact h1 j hj
    · exact e2
theorem Stt.ends {L P at_ s ix R} (h : Stt L P at_ s ix R at_.length) (hL : L ≤ 15) (hp : Pos L at_) (hm : at_.length ≤ P) (v : List F) (hv : v.length = at_.length)
    (hd : ∀ i, i < at_.length → fm (ent (lm ix R) i i) (at0 v i) = ent (lm ix R) i at_.length) (hz : ∀ i, at_.length ≤ i → i < P → ent (lm ix R) i at_.length = 0) : solM L P at_ s = some v :=
  solM_some hL hp hm hv ((h.sat 1 v hv).1 ((sat_end h.shp h.red hm v hv).2 ⟨hd, hz⟩))
theorem Stt.endsN {L P at_ s ix R} (h : Stt L P at_ s ix R at_.length) (hm : at_.length ≤ P) {i : Nat} (h1 : at_.length ≤ i) (h2 : i < P) (hz : ent (lm ix R) i at_.length ≠ 0) : solM L P at_ s = none :=
  solM_none fun v hv hs => hz (((sat_end h.shp h.red hm v hv).1 ((h.sat 1 v hv).2 hs)).2 i h1 h2)
/-- A reduction under way: the rows before i are done. -/
theorem red_next {f : F → F → F} {M : List (List F)} {k i : Nat} (hi : i < M.length) (hik : i ≠ k) : ((redAll f M k).take i ++ M.drop i).set i (addR (row0 M i) (row0 M k) (f (ent M i k) (ent M k k))) = (redAll f M k).take (i + 1) ++ M.drop (i + 1) := by
  have hl : (redAll f M k).length = M.length := by simp [redAll]
  have h1 : ((redAll f M k).take i).length = i := by simp; omega
  have h2 : (redAll f M k).take (i + 1) = (redAll f M k).take i ++ [addR (row0 M i) (row0 M k) (f (ent M i k) (ent M k k))] := by
    rw [List.take_add_one, List.getElem?_eq_getElem (by omega)]
    have := row0_redAll f M k i hi
    rw [show row0 (redAll f M k) i = (redAll f M k)[i]?.getD [] from rfl, List.getElem?_eq_getElem (by omega), if_neg hik] at this
    rw [show (redAll f M k)[i] = addR (row0 M i) (row0 M k) (f (ent M i k) (ent M k k)) from this]; rfl
  rw [List.set_append_right _ _ (by omega), h1, Nat.sub_self, List.drop_eq_getElem_cons hi, List.set_cons_zero, h2, List.append_assoc]
  rfl
theorem red_skip {f : F → F → F} {M : List (List F)} {k : Nat} (hk : k < M.length) : (redAll f M k).take k ++ M.drop k = (redAll f M k).take (k + 1) ++ M.drop (k + 1) := by
  have hl : (redAll f M k).length = M.length := by simp [redAll]
  have h2 : (redAll f M k).take (k + 1) = (redAll f M k).take k ++ [M[k]] := by
    rw [List.take_add_one, List.getElem?_eq_getElem (by omega)]
    have := row0_redAll f M k k hk
    rw [show row0 (redAll f M k) k = (redAll f M k)[k]?.getD [] from rfl, List.getElem?_eq_getElem (by omega), if_pos rfl] at this
    rw [show (redAll f M k)[k] = row0 M k from this]
    unfold row0
    rw [List.getElem?_eq_getElem hk]; rfl
  rw [List.drop_eq_getElem_cons hk, h2, List.append_assoc]; rfl
theorem red_row {f : F → F → F} {M : List (List F)} {k i : Nat} (hi : i < M.length) : row0 ((redAll f M k).take i ++ M.drop i) i = row0 M i := by
  have hl : (redAll f M k).length = M.length := by simp [redAll]
  unfold row0
  rw [List.getElem?_append_right (by simp; omega)]
  simp only [List.length_take, List.getElem?_drop]
  congr 2; omega
theorem red_rowk {f : F → F → F} {M : List (List F)} {k i : Nat} (hk : k < M.length) (hi : i ≤ M.length) : row0 ((redAll f M k).take i ++ M.drop i) k = row0 M k := by
  have hl : (redAll f M k).length = M.length := by simp [redAll]
  by_cases h : k < i
  · have := row0_redAll f M k k hk
    rw [if_pos rfl] at this
    rw [← this]
    unfold row0
    rw [List.getElem?_append_left (by simp; omega), List.getElem?_take_of_lt h]
  · unfold row0
    rw [List.getElem?_append_right (by simp; omega)]
    simp only [List.length_take, List.getElem?_drop]
    congr 2; omega
theorem red_end {f : F → F → F} {M : List (List F)} {k : Nat} : (redAll f M k).take M.length ++ M.drop M.length = redAll f M k := by
  have hl : (redAll f M k).length = M.length := by simp [redAll]
  rw [List.take_of_length_le (by omega), List.drop_eq_nil_of_le (by omega), List.append_nil]
end Go.Pw
end
