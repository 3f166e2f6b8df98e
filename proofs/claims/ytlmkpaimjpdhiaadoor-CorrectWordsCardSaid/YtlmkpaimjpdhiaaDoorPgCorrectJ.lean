/- A part of the proof. -/
import Derived.Test.YtlmkpaimjpdhiaaDoorCorrectI
set_option linter.all false
section
open Go Go.Pw Go.Proofs
namespace Go.Pw
set_option linter.unusedSimpArgs false
set_option linter.unusedVariables false
set_option maxRecDepth 100000
set_option maxHeartbeats 3200000
theorem base_get (S : List F) (i n : Nat) (h : i < n) (hS : S.length = n) : (S.take i ++ List.replicate (n - i) (0 : F))[i]?.getD 0 = 0 := by
  rw [List.getElem?_append_right (by simp; omega)]
  simp only [List.length_take, List.getElem?_replicate]
  split <;> rfl
theorem base_set (S : List F) (i n : Nat) (h : i < n) (hS : S.length = n) : (S.take i ++ List.replicate (n - i) (0 : F)).set i (S[i]?.getD 0) = S.take (i + 1) ++ List.replicate (n - (i + 1)) 0 := by
  have h1 : (S.take i).length = i := by simp; omega
  rw [List.set_append_right _ _ (by omega), h1, Nat.sub_self, show n - i = (n - (i + 1)) + 1 by omega, List.replicate_succ, List.set_cons_zero, ← take_succ_getD S 0 i (by omega), List.append_assoc]
  rfl
theorem set_same (l : List F) (i : Nat) (h : i < l.length) : l.set i (l[i]?.getD 0) = l := by
  rw [List.getElem?_eq_getElem h]; simp
theorem set_get (l : List F) (i : Nat) (x : F) (h : i < l.length) : (l.set i x)[i]?.getD 0 = x := by simp [h]
/-- A word with other symbols at some positions. -/
def withW : List F → List Nat → List F → List F
  | w, j :: js, x :: xs => withW (w.set j x) js xs
  | w, _, _ => w
theorem withW_len : ∀ (at_ : List Nat) (w xs : List F), (withW w at_ xs).length = w.length
  | [], w, xs => by cases xs <;> rfl
  | j :: js, w, [] => rfl
  | j :: js, w, x :: xs => by show (withW (w.set j x) js xs).length = _; rw [withW_len]; simp
theorem withW_snoc (j : Nat) (y : F) : ∀ (at_ : List Nat) (w xs : List F), at_.length = xs.length → withW w (at_ ++ [j]) (xs ++ [y]) = (withW w at_ xs).set j y
  | [], w, [], _ => rfl
  | k :: js, w, z :: xs, h => by
    show withW (w.set k z) (js ++ [j]) (xs ++ [y]) = _
    rw [withW_snoc j y js (w.set k z) xs (by simpa using h)]; rfl
theorem withW_nil (w xs : List F) : withW w [] xs = w := by cases xs <;> rfl
theorem withW_get : ∀ (at_ : List Nat) (w xs : List F) (j : Nat), j ∉ at_ → (withW w at_ xs)[j]?.getD 0 = w[j]?.getD 0
  | [], w, xs, j, _ => by rw [withW_nil]
  | k :: js, w, [], j, _ => rfl
  | k :: js, w, x :: xs, j, h => by
    show (withW (w.set k x) js xs)[j]?.getD 0 = _
    rw [withW_get js _ xs j (fun e => h (by simp [e])), List.getElem?_set_ne (fun e => h (by simp [e]))]
theorem take_len_eq {α β : Type} (a : List α) (b : List β) (i : Nat) (h : a.length = b.length) : (a.take i).length = (b.take i).length := by simp [h]
attribute [local congr] cg_pw cg_seqI cg_seqE cg_stepI cg_ev cg_evBin cg_condB cg_condV cg_thenQ cg_blockQ cg_onSome cg_onCells cg_onRow cg_onRow2 cg_onMtx cg_frmV cg_fraV cg_frcV cg_frcO cg_frcX cg_fraO cg_owmV cg_ghosts cg_ghost cg_evCall cg_part cg_rng cg_guardV cg_frzV cg_frpV cg_ownV cg_resK cg_res1
attribute [local irreducible] IntKind.wrap bitsOp Option.getD and or

theorem correct_sums_ret (L P : Nat) (n1 : Bool) (w : List F) (hL : L ≤ 15) (hL1 : 1 ≤ L) (hP : 1 ≤ P) (hP2 : P ≤ 15) (hw : w.length = L) : Ret E0 F_correct_code_sums [codD L P, .list n1 (us w)] (.list false (us (synd L P w))) := by
  obtain ⟨S, hS⟩ : ∃ S, synd L P w = S := ⟨_, rfl⟩
  have hSl : S.length = P := by rw [← hS]; exact synd_len L P w
  rw [hS]
  refine ret_of_pw dec_correct_code_sums mixed (by simp) fun hwf => ?_
  rw [enter_eq]; unfold pc_correct_code_sums
  (try (simp -implicitDefEqProofs only [go_sem, codD_eq, List.length_replicate])); repeat' first | with_reducible exact True.intro | with_reducible refine And.intro ?_ ?_ | with_reducible intro _ | (((with_reducible refine vc_b ?_ ?_) <;> intro _) <;> try (simp -implicitDefEqProofs only [go_sem, codD_eq, List.length_replicate])) | simp (disch := omega) only [wrapI, wrapU, shl1, shl1', shl1'', shrN, shrN', and_one] | ((with_reducible refine isEx2 ?_); refine ⟨(_, _), rfl, ?_, ?_⟩) | ((with_reducible refine isEx ?_); refine ⟨_, rfl, ?_, ?_⟩)
  all_goals first | omega | (simp; done) | (simp; omega) | skip
  refine pw_loopS (α := Nat) (l0 := ?l1) (m0 := ?m1) (fun x => [(15, .d (.int .i64 (x : Int)))]) (fun x => [(12, .row 89 1 false (us (S.take x ++ List.replicate (P - x) 0)))]) (fun x => x ≤ P) (fun x => P - x) 0 ?h01 ?he1 ?he21 ?hI1 ?step1
  case h01 => (simp -implicitDefEqProofs only [go_sem]; rfl)
  case he1 => rfl
  case he21 => rfl
  case' step1 => (rintro i hI; try dsimp only at hI)
  case' hI1 => try dsimp only
  · exact Nat.zero_le _
  · have hbl : (S.take i ++ List.replicate (P - i) (0 : F)).length = P := by simp; omega
    by_cases h : i < P
    · have h' : (i : Int) < (P : Int) := by omega
      have hwi : IntKind.i64.wrap ((i : Int) + 1) = ((i + 1 : Nat) : Int) := by rw [wrapI _ (by omega)]; omega
      have hbg := base_get S i P h hSl
      have hbs := base_set S i P h hSl
      obtain ⟨B, hB⟩ : ∃ B, S.take i ++ List.replicate (P - i) (0 : F) = B := ⟨_, rfl⟩
      rw [hB] at hbl hbg hbs ⊢
      have hB0 : B.set i 0 = B := by have := set_same B i (by omega); rwa [hbg] at this
      have hUR : us B = us (B.set i 0) := by rw [hB0]
      (try (simp -implicitDefEqProofs only [go_sem, h', codD_eq, hbl, List.length_replicate])); repeat' first | with_reducible exact True.intro | with_reducible refine And.intro ?_ ?_ | with_reducible intro _ | (((with_reducible refine vc_b ?_ ?_) <;> intro _) <;> try (simp -implicitDefEqProofs only [go_sem, h', codD_eq, hbl, List.length_replicate])) | simp (disch := omega) only [wrapI, wrapU, shl1, shl1', shl1'', shrN, shrN', and_one] | ((with_reducible refine isEx2 ?_); refine ⟨(_, _), rfl, ?_, ?_⟩) | ((with_reducible refine isEx ?_); refine ⟨_, rfl, ?_, ?_⟩)
      all_goals first | omega | (simp; done) | (simp; omega) | skip
      rw [hUR]
      refine pw_loopS (α := Nat × F) (l0 := ?l2) (m0 := ?m2) (fun x => [(20, .d (.int .i64 (x.1 : Int)))]) (fun x => [(12, .row 89 1 false (us (B.set i x.2)))]) (fun x => x.1 ≤ L ∧ x.2 = dot (w.take x.1) ((cof L i).take x.1)) (fun x => L - x.1) (0, 0) ?h02 ?he2 ?he22 ?hI2 ?step2
      case h02 => (simp -implicitDefEqProofs only [go_sem]; rfl)
      case he2 => rfl
      case he22 => rfl
      case' step2 => (rintro ⟨j, acc⟩ hI2; try dsimp only at hI2)
      case' hI2 => try dsimp only
      · exact ⟨by omega, rfl⟩
      · obtain ⟨q1, q2⟩ := hI2
        by_cases hj : j < L
        · have hj' : (j : Int) < (w.length : Int) := by omega
          have hwj : IntKind.i64.wrap ((j : Int) + 1) = ((j + 1 : Nat) : Int) := by rw [wrapI _ (by omega)]; omega
          have c1 := correct_factor_ret L P i j (by omega) (by omega) hj
          have c2 := correct_times_ret (w[j]?.getD 0) (gp (i * (L - 1 - j)))
          have hk : fa acc (fm (w[j]?.getD 0) (gp (i * (L - 1 - j)))) = dot (w.take (j + 1)) ((cof L i).take (j + 1)) := by
            rw [q2, ← dot_take w (cof L i) j (by omega) (by rw [cof_len]; omega), cof_get L i j hj]; rfl
          have hsg : (B.set i acc)[i]?.getD 0 = acc := set_get B i acc (by omega)
          have hss : ∀ y, (B.set i acc).set i y = B.set i y := fun y => List.set_set ..
          rw [codD_eq] at c1
          (try (simp -implicitDefEqProofs only [go_sem, hj', hwj, hsg, hss, List.length_set, hbl, h])); repeat' first | with_reducible exact True.intro | with_reducible refine And.intro ?_ ?_ | with_reducible intro _ | (((with_reducible refine isCall ?_); first | refine call_b (c1) rfl ?_ ?_ | refine call_d (c1) rfl ?_ | refine call_sb (c1) rfl ?_ ?_ | refine call_s (c1) rfl rfl ?_ | refine call_b (c2) rfl ?_ ?_ | refine call_d (c2) rfl ?_ | refine call_sb (c2) rfl ?_ ?_ | refine call_s (c2) rfl rfl ?_) <;> try (simp -implicitDefEqProofs only [go_sem, hj', hwj, hsg, hss, List.length_set, hbl, h])) | (((with_reducible refine vc_b ?_ ?_) <;> intro _) <;> try (simp -implicitDefEqProofs only [go_sem, hj', hwj, hsg, hss, List.length_set, hbl, h])) | simp (disch := omega) only [wrapI, wrapU, shl1, shl1', shl1'', shrN, shrN', and_one] | ((with_reducible refine isEx2 ?_); refine ⟨(_, _), rfl, ?_, ?_⟩) | ((with_reducible refine isEx ?_); refine ⟨_, rfl, ?_, ?_⟩)
          all_goals first | omega | (simp; done) | (simp; omega) | skip
          all_goals first | exact hk | (simp at *; done) | (simp at *; omega) | skip
        · have hj' : ¬ (j : Int) < (w.length : Int) := by omega
          have hje : j = L := by omega
          have hacc : acc = S[i]?.getD 0 := by
            rw [q2, hje, ← hS, synd_get L P w i h, List.take_of_length_le (by omega), List.take_of_length_le (by rw [cof_len]; omega)]
          rw [hacc]
          (try (simp -implicitDefEqProofs only [go_sem, hj', hwi, hbs])); repeat' first | with_reducible exact True.intro | with_reducible refine And.intro ?_ ?_ | with_reducible intro _ | (((with_reducible refine vc_b ?_ ?_) <;> intro _) <;> try (simp -implicitDefEqProofs only [go_sem, hj', hwi, hbs])) | simp (disch := omega) only [wrapI, wrapU, shl1, shl1', shl1'', shrN, shrN', and_one] | ((with_reducible refine isEx2 ?_); refine ⟨(_, _), rfl, ?_, ?_⟩) | ((with_reducible refine isEx ?_); refine ⟨_, rfl, ?_, ?_⟩)
          all_goals first | omega | (simp; done) | (simp; omega) | skip
          all_goals first | rfl | omega | skip
    · have h' : ¬ (i : Int) < (P : Int) := by omega
      have hie : i = P := by omega
      subst hie
      have hfin : S.take i ++ List.replicate (i - i) (0 : F) = S := by rw [List.take_of_length_le (by omega)]; simp
      rw [hfin]
      (try (simp -implicitDefEqProofs only [go_sem, h', List.length_replicate, hSl])); repeat' first | with_reducible exact True.intro | with_reducible refine And.intro ?_ ?_ | with_reducible intro _ | (((with_reducible refine vc_b ?_ ?_) <;> intro _) <;> try (simp -implicitDefEqProofs only [go_sem, h', List.length_replicate, hSl])) | simp (disch := omega) only [wrapI, wrapU, shl1, shl1', shl1'', shrN, shrN', and_one] | ((with_reducible refine isEx2 ?_); refine ⟨(_, _), rfl, ?_, ?_⟩) | ((with_reducible refine isEx ?_); refine ⟨_, rfl, ?_, ?_⟩)
      all_goals first | omega | (simp; done) | (simp; omega) | skip
      all_goals first | rfl | skip

theorem ref05_with_ret (n1 n2 n3 : Bool) (w : List F) (at_ : List Nat) (xs : List F) (hw : w.length ≤ 1000) (hw1 : 1 ≤ w.length) (hl : at_.length = xs.length) (hlt : ∀ j, j ∈ at_ → j < w.length) :
    Ret E0 F_ref05_with [.list n1 (ints (iv w)), .list n2 (ints (ni at_)), .list n3 (ints (iv xs))] (.list false (ints (iv (withW w at_ xs)))) := by
  refine ret_of_pw dec_ref05_with mixed (by simp) fun hwf => ?_
  simp only [wf_int, wf_bool, wf_ints, wf_list, wf_agg, wf_ptr, wf_fn, wf_tup, wf_all_cons, wf_all_nil, wf_all_map, inK_i64, maxLen_eq, List.length_map, ints_len, true_and, and_true, iv_len, ni_len] at hwf
  rw [enter_eq]; unfold pc_ref05_with
  have hne : ¬ iv w = [] := by
    intro e
    have h0 : (iv w).length = 0 := by rw [e]; rfl
    rw [iv_len] at h0; omega
  (try (simp -implicitDefEqProofs only [go_sem, hne, List.nil_append])); repeat' first | with_reducible exact True.intro | with_reducible refine And.intro ?_ ?_ | with_reducible intro _ | (((with_reducible refine vc_b ?_ ?_) <;> intro _) <;> try (simp -implicitDefEqProofs only [go_sem, hne, List.nil_append])) | simp (disch := omega) only [wrapI, wrapU, shl1, shl1', shl1'', shrN, shrN', and_one] | ((with_reducible refine isEx ?_); refine ⟨_, rfl, ?_, ?_⟩)
  all_goals first | omega | (simp; done) | (simp; omega) | skip
  refine pw_loopS (α := Nat) (l0 := ?l3) (m0 := ?m3) (fun x => [(8, .d (.int .i64 (x : Int)))]) (fun x => [(11, .row 3 1 false (ints (iv (withW w (at_.take x) (xs.take x)))))]) (fun x => x ≤ at_.length) (fun x => at_.length - x) 0 ?h03 ?he3 ?he23 ?hI3 ?step3
  case h03 => (simp -implicitDefEqProofs only [go_sem]; rfl)
  case he3 => rfl
  case he23 => rfl
  case' step3 => (rintro i hI; try dsimp only at hI)
  case' hI3 => try dsimp only
  · exact Nat.zero_le _
  · have hW := withW_len (at_.take i) w (xs.take i)
    by_cases h : i < at_.length
    · have h' : (i : Int) < (at_.length : Int) := by omega
      have hwi : IntKind.i64.wrap ((i : Int) + 1) = ((i + 1 : Nat) : Int) := by rw [wrapI _ (by omega)]; omega
      have hj := hlt (at_[i]?.getD 0) (by rw [ni_eq _ _ h]; exact List.getElem_mem h)
      have hk : (withW w (at_.take i) (xs.take i)).set (at_[i]?.getD 0) (xs[i]?.getD 0) = withW w (at_.take (i + 1)) (xs.take (i + 1)) := by
        rw [← withW_snoc _ _ _ _ _ (take_len_eq at_ xs i hl), take_succ_getD at_ 0 i h, take_succ_getD xs 0 i (by omega)]
      have hi2 : i < xs.length := by omega
      (try (simp -implicitDefEqProofs only [go_sem, h', hwi, hW, hj, hk])); repeat' first | with_reducible exact True.intro | with_reducible refine And.intro ?_ ?_ | with_reducible intro _ | (((with_reducible refine vc_b ?_ ?_) <;> intro _) <;> try (simp -implicitDefEqProofs only [go_sem, h', hwi, hW, hj, hk])) | simp (disch := omega) only [wrapI, wrapU, shl1, shl1', shl1'', shrN, shrN', and_one] | ((with_reducible refine isEx ?_); refine ⟨_, rfl, ?_, ?_⟩)
      all_goals first | omega | (simp; done) | (simp; omega) | skip
      all_goals first | rfl | skip
    · have h' : ¬ (i : Int) < (at_.length : Int) := by omega
      have hie : i = at_.length := by omega
      have hfin : withW w (at_.take i) (xs.take i) = withW w at_ xs := by rw [List.take_of_length_le (by omega), List.take_of_length_le (by omega)]
      rw [hfin]
      (try (simp -implicitDefEqProofs only [go_sem, h'])); repeat' first | with_reducible exact True.intro | with_reducible refine And.intro ?_ ?_ | with_reducible intro _ | (((with_reducible refine vc_b ?_ ?_) <;> intro _) <;> try (simp -implicitDefEqProofs only [go_sem, h'])) | simp (disch := omega) only [wrapI, wrapU, shl1, shl1', shl1'', shrN, shrN', and_one] | ((with_reducible refine isEx ?_); refine ⟨_, rfl, ?_, ?_⟩)
      all_goals first | omega | (simp; done) | (simp; omega) | skip
      all_goals first | rfl | skip
end Go.Pw
end
section
open Go Go.Pw Go.Proofs
namespace Go.Pw
set_option linter.unusedSimpArgs false
set_option linter.unusedVariables false
set_option maxRecDepth 100000
set_option maxHeartbeats 3200000
/-- The variables that the closure of decode writes. -/
def vv (b : Bool) (o : List F) (fnd : Bool) : List (Nat × Nat × AObj) := [(900004, 0, .cells [.d (.list b (us o))]), (901004, 0, .cells [.d (.bool fnd)])]
def vh (b : Bool) (o : List F) (fnd : Bool) (r : Option (List F)) : List (Nat × Nat × AObj) := match r with | some z => vv false z true | none => vv b o fnd
theorem vh_some (b : Bool) (o : List F) (fnd : Bool) (z : List F) : vh b o fnd (some z) = vv false z true := rfl
theorem vh_none (b : Bool) (o : List F) (fnd : Bool) : vh b o fnd none = vv b o fnd := rfl
/-- The word that is right if v is added at some positions. -/
def adds (w : List F) (at_ : List Nat) (v : List F) : List F := List.zipWith (fun j x => fa (w[j]?.getD 0) x) at_ v
theorem adds_len (w : List F) (at_ : List Nat) (v : List F) (h : at_.length = v.length) : (adds w at_ v).length = at_.length := by simp [adds, h]
theorem adds_get (w : List F) (at_ : List Nat) (v : List F) (i : Nat) (h : i < at_.length) (hl : at_.length = v.length) : (adds w at_ v)[i]?.getD 0 = fa (w[at_[i]?.getD 0]?.getD 0) (v[i]?.getD 0) := by
  unfold adds
  rw [List.getElem?_zipWith, List.getElem?_eq_getElem h, List.getElem?_eq_getElem (by omega)]; rfl
/-- What one choice gives. -/
noncomputable def hit (L P : Nat) (w : List F) (mk : List Nat) (l : List Nat) : Option (List F) :=
  (solM L P (mk ++ l) (synd L P w)).map fun v => withW w (mk ++ l) (adds w (mk ++ l) v)
theorem notin_take (l : List Nat) (i : Nat) (h : i < l.length) (hn : l.Nodup) : l[i]?.getD 0 ∉ l.take i := by
  intro hm
  rw [ni_eq _ _ h] at hm
  obtain ⟨j, hj, he⟩ := List.getElem_of_mem hm
  have hj2 : j < i := by simp at hj; omega
  rw [List.getElem_take] at he
  have := (List.getElem_inj hn).1 he
  omega
attribute [local congr] cg_pw cg_seqI cg_seqE cg_stepI cg_ev cg_evBin cg_condB cg_condV cg_thenQ cg_blockQ cg_onSome cg_onCells cg_onRow cg_onRow2 cg_onMtx cg_frmV cg_fraV cg_frcV cg_frcO cg_frcX cg_fraO cg_owmV cg_ghosts cg_ghost cg_evCall cg_part cg_rng cg_guardV cg_frzV cg_frpV cg_ownV cg_resK cg_res1
attribute [local irreducible] IntKind.wrap bitsOp Option.getD and or

theorem decode_1_own (L P : Nat) (n1 n2 n3 b fnd : Bool) (o w : List F) (mk l : List Nat) (hL : L ≤ 15) (hL1 : 1 ≤ L) (hP : 1 ≤ P) (hP2 : P ≤ 15) (hw : w.length = L) (hp : Pos L (mk ++ l)) (hm : (mk ++ l).length ≤ P) (hn3 : n3 = false) :
    CallM E0 F_correct_code_decode_1 (vv b o fnd) [.d (.list n1 (ints (ni l))), .d (.ptr [.list n2 (ints (ni mk))]), .d (.ptr [.int .i64 L, .int .i64 P]), .d (.ptr [.list false (us (synd L P w))]), .d (.ptr [.list n3 (us w)]), .ptr 900004 0 0, .ptr 901004 0 0]
      (vh b o fnd (hit L P w mk l)) (.d (.bool (hit L P w mk l).isNone)) := by
  subst hn3
  obtain ⟨S, hS⟩ : ∃ S, synd L P w = S := ⟨_, rfl⟩
  have hSl : S.length = P := by rw [← hS]; exact synd_len L P w
  have c1 := Concat_int_ret n2 n1 (ni mk) (ni l) (by rw [ni_len]; simp at hm; omega) (by rw [ni_len]; simp at hm; omega)
  rw [ni_app] at c1
  obtain ⟨A, hA⟩ : ∃ A, mk ++ l = A := ⟨_, rfl⟩
  have c2 := fun nl => correct_solve_ret L P false nl S A hL hP hP2 hSl (by rw [← hA]; exact hp) (by rw [← hA]; exact hm)
  rw [hA] at c1 hp hm
  unfold hit
  rw [hS, hA]
  unfold vh vv
  refine callM_of_pw dec_correct_code_decode_1 mixed (by simp) (by cases solM L P A S <;> simp [okV0, nodupB, lim, AObj.isHist]) (by cases solM L P A S <;> simp [hasN]) fun hwf hwo => ?_
  rw [enterM_eq]; unfold pc_correct_code_decode_1
  cases hs : solM L P A S with
  | none =>
    rw [hs, solR_none, codD_eq] at c2
    simp only [Option.map_none, Option.isNone_none]
    (try (simp -implicitDefEqProofs only [go_sem])); repeat' first | with_reducible exact True.intro | with_reducible refine And.intro ?_ ?_ | with_reducible intro _ | (((with_reducible refine isCall ?_); first | refine call_b (c1) rfl ?_ ?_ | refine call_d (c1) rfl ?_ | refine call_sb (c1) rfl ?_ ?_ | refine call_s (c1) rfl rfl ?_ | refine call_b (c2 _) rfl ?_ ?_ | refine call_d (c2 _) rfl ?_ | refine call_sb (c2 _) rfl ?_ ?_ | refine call_s (c2 _) rfl rfl ?_) <;> try (simp -implicitDefEqProofs only [go_sem])) | (((with_reducible refine vc_b ?_ ?_) <;> intro _) <;> try (simp -implicitDefEqProofs only [go_sem])) | simp (disch := omega) only [wrapI, wrapU, shl1, shl1', shl1'', shrN, shrN', and_one] | ((with_reducible refine isEx ?_); refine ⟨_, rfl, ?_, ?_⟩)
    all_goals first | omega | (simp; done) | (simp; omega) | skip
    all_goals first | rfl | skip
  | some v =>
    rw [hs, solR_some, codD_eq] at c2
    simp only [Option.map_some, Option.isNone_some]
    have hvl := (solM_spec hs).1
    have c3 := Clone_sym_own false w (by omega) (by omega) rfl
    (try (simp -implicitDefEqProofs only [go_sem])); repeat' first | with_reducible exact True.intro | with_reducible refine And.intro ?_ ?_ | with_reducible intro _ | (((with_reducible refine isCall ?_); first | refine call_b (c1) rfl ?_ ?_ | refine call_d (c1) rfl ?_ | refine call_sb (c1) rfl ?_ ?_ | refine call_s (c1) rfl rfl ?_ | refine call_b (c2 _) rfl ?_ ?_ | refine call_d (c2 _) rfl ?_ | refine call_sb (c2 _) rfl ?_ ?_ | refine call_s (c2 _) rfl rfl ?_ | (refine call_m ([]) ([((7, 1), (27, 1))]) (c3) (by repeat' first | exact True.intro | exact rfl | refine And.intro ?_ ?_) (by simp [Handed, Ren.get, AObj.ren, AV.ren, AV.ren.renL, View.get, lookO, callF, newS, View.reach, AV.sites, AV.sites.sitesL, View.osites]) (by simp [namesOk, hasN, nodupB, Ren.get, newS, lim, upd]) (by rfl) (by simp only [backC, Ren.get, AObj.ren, AV.ren, AV.ren.renL, and_self, and_true, true_and, if_true, reduceIte]; rfl) ?_)) <;> try (simp -implicitDefEqProofs only [go_sem])) | (((with_reducible refine vc_b ?_ ?_) <;> intro _) <;> try (simp -implicitDefEqProofs only [go_sem])) | simp (disch := omega) only [wrapI, wrapU, shl1, shl1', shl1'', shrN, shrN', and_one] | ((with_reducible refine isEx ?_); refine ⟨_, rfl, ?_, ?_⟩)
    all_goals first | omega | (simp; done) | (simp; omega) | skip
    refine pw_loopS (α := Nat) (l0 := ?l1) (m0 := ?m1) (fun x => [(30, .d (.int .i64 (x : Int)))]) (fun x => [(27, .row 89 1 false (us (withW w (A.take x) ((adds w A v).take x))))]) (fun x => x ≤ A.length) (fun x => A.length - x) 0 ?h01 ?he1 ?he21 ?hI1 ?step1
    case h01 => (simp -implicitDefEqProofs only [go_sem]; rfl)
    case he1 => rfl
    case he21 => rfl
    case' step1 => (rintro i hI; try dsimp only at hI)
    case' hI1 => try dsimp only
    · exact Nat.zero_le _
    · have hW := withW_len (A.take i) w ((adds w A v).take i)
      have hYl := adds_len w A v hvl.symm
      by_cases h : i < A.length
      · have h' : (i : Int) < (A.length : Int) := by omega
        have hwi : IntKind.i64.wrap ((i : Int) + 1) = ((i + 1 : Nat) : Int) := by rw [wrapI _ (by omega)]; omega
        have hj := hp.lt (A[i]?.getD 0) (by rw [ni_eq _ _ h]; exact List.getElem_mem h)
        have hg : (withW w (A.take i) ((adds w A v).take i))[A[i]?.getD 0]?.getD 0 = w[A[i]?.getD 0]?.getD 0 := withW_get _ _ _ _ (notin_take A i h hp.nd)
        have hk : (withW w (A.take i) ((adds w A v).take i)).set (A[i]?.getD 0) (fa (w[A[i]?.getD 0]?.getD 0) (v[i]?.getD 0)) = withW w (A.take (i + 1)) ((adds w A v).take (i + 1)) := by
          rw [← adds_get w A v i h hvl.symm, ← withW_snoc _ _ _ _ _ (take_len_eq A _ i hYl.symm), take_succ_getD A 0 i h, take_succ_getD _ 0 i (by omega)]
        have hi2 : i < v.length := by omega
        have hj2 : A[i]?.getD 0 < w.length := by omega
        (try (simp -implicitDefEqProofs only [go_sem, h', hwi, hW, hj2, hg, hk, hi2])); repeat' first | with_reducible exact True.intro | with_reducible refine And.intro ?_ ?_ | with_reducible intro _ | (((with_reducible refine vc_b ?_ ?_) <;> intro _) <;> try (simp -implicitDefEqProofs only [go_sem, h', hwi, hW, hj2, hg, hk, hi2])) | simp (disch := omega) only [wrapI, wrapU, shl1, shl1', shl1'', shrN, shrN', and_one] | ((with_reducible refine isEx ?_); refine ⟨_, rfl, ?_, ?_⟩)
        all_goals first | omega | (simp; done) | (simp; omega) | skip
        all_goals first | rfl | skip
      · have h' : ¬ (i : Int) < (A.length : Int) := by omega
        have hie : i = A.length := by omega
        have hfin : withW w (A.take i) ((adds w A v).take i) = withW w A (adds w A v) := by rw [List.take_of_length_le (by omega), List.take_of_length_le (by omega)]
        rw [hfin]
        (try (simp -implicitDefEqProofs only [go_sem, h'])); repeat' first | with_reducible exact True.intro | with_reducible refine And.intro ?_ ?_ | with_reducible intro _ | (((with_reducible refine vc_b ?_ ?_) <;> intro _) <;> try (simp -implicitDefEqProofs only [go_sem, h'])) | simp (disch := omega) only [wrapI, wrapU, shl1, shl1', shl1'', shrN, shrN', and_one] | ((with_reducible refine isEx ?_); refine ⟨_, rfl, ?_, ?_⟩)
        all_goals first | omega | (simp; done) | (simp; omega) | skip
        all_goals first | rfl | skip
end Go.Pw
end
