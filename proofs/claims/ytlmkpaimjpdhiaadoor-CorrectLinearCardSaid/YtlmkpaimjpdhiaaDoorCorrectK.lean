/- A part of the proof. -/
import Derived.Test.YtlmkpaimjpdhiaaDoorPgCorrectH
set_option linter.all false
open Go Go.Pw Go.Proofs
namespace Go.Pw
set_option linter.unusedSimpArgs false
set_option linter.unusedVariables false
set_option maxRecDepth 100000
set_option maxHeartbeats 3200000
/-- The variables that the closure of decode writes. -/
def vv (b : Bool) (o : List F) (fnd : Bool) : List (Nat × Nat × AObj) := [(900004, 0, .cells [.d (.list b (us o))]), (901004, 0, .cells [.d (.bool fnd)])]
def vh (b : Bool) (o : List F) (fnd : Bool) (r : Option (List F)) : List (Nat × Nat × AObj) := match r with | some z => vv false z true | none => vv b o fnd
theorem vh_some (b : Bool) (o : List F) (fnd : Bool) (z : List F) : vh b o fnd (some z) = vv false z true := rfl
theorem vh_none (b : Bool) (o : List F) (fnd : Bool) : vh b o fnd none = vv b o fnd := rfl
/-- The word that is right if v is added at some positions. -/
def adds (w : List F) (at_ : List Nat) (v : List F) : List F := List.zipWith (fun j x => fa (w[j]?.getD 0) x) at_ v
theorem adds_len (w : List F) (at_ : List Nat) (v : List F) (h : at_.length = v.length) : (adds w at_ v).length = at_.length := by simp [adds, h]
theorem adds_get (w : List F) (at_ : List Nat) (v : List F) (i : Nat) (h : i < at_.length) (hl : at_.length = v.length) : (adds w at_ v)[i]?.getD 0 = fa (w[at_[i]?.getD 0]?.getD 0) (v[i]?.getD 0) := by
  unfold adds
  rw [List.getElem?_zipWith, List.getElem?_eq_getElem h, List.getElem?_eq_getElem (by omega)]; rfl
/-- What one choice gives. -/
noncomputable def hit (L P : Nat) (w : List F) (mk : List Nat) (l : List Nat) : Option (List F) :=
  (solM L P (mk ++ l) (synd L P w)).map fun v => withW w (mk ++ l) (adds w (mk ++ l) v)
theorem notin_take (l : List Nat) (i : Nat) (h : i < l.length) (hn : l.Nodup) : l[i]?.getD 0 ∉ l.take i := by
  intro hm
  rw [ni_eq _ _ h] at hm
  obtain ⟨j, hj, he⟩ := List.getElem_of_mem hm
  have hj2 : j < i := by simp at hj; omega
  rw [List.getElem_take] at he
  have := (List.getElem_inj hn).1 he
  omega
attribute [local congr] cg_pw cg_seqI cg_seqE cg_stepI cg_ev cg_evBin cg_condB cg_condV cg_thenQ cg_blockQ cg_onSome cg_onCells cg_onRow cg_onRow2 cg_onMtx cg_frmV cg_fraV cg_frcV cg_frcO cg_frcX cg_fraO cg_owmV cg_ghosts cg_ghost cg_evCall cg_part cg_rng cg_guardV cg_frzV cg_frpV cg_ownV cg_resK cg_res1
attribute [local irreducible] IntKind.wrap bitsOp Option.getD and or

theorem decode_1_own (L P : Nat) (n1 n2 n3 b fnd : Bool) (o w : List F) (mk l : List Nat) (hL : L ≤ 15) (hL1 : 1 ≤ L) (hP : 1 ≤ P) (hP2 : P ≤ 15) (hw : w.length = L) (hp : Pos L (mk ++ l)) (hm : (mk ++ l).length ≤ P) (hn3 : n3 = false) :
    CallM E0 F_correct_code_decode_1 (vv b o fnd) [.d (.list n1 (ints (ni l))), .d (.ptr [.list n2 (ints (ni mk))]), .d (.ptr [.int .i64 L, .int .i64 P]), .d (.ptr [.list false (us (synd L P w))]), .d (.ptr [.list n3 (us w)]), .ptr 900004 0 0, .ptr 901004 0 0]
      (vh b o fnd (hit L P w mk l)) (.d (.bool (hit L P w mk l).isNone)) := by
  subst hn3
  obtain ⟨S, hS⟩ : ∃ S, synd L P w = S := ⟨_, rfl⟩
  have hSl : S.length = P := by rw [← hS]; exact synd_len L P w
  have c1 := Concat_int_ret n2 n1 (ni mk) (ni l) (by rw [ni_len]; simp at hm; omega) (by rw [ni_len]; simp at hm; omega)
  rw [ni_app] at c1
  obtain ⟨A, hA⟩ : ∃ A, mk ++ l = A := ⟨_, rfl⟩
  have c2 := fun nl => correct_solve_ret L P false nl S A hL hP hP2 hSl (by rw [← hA]; exact hp) (by rw [← hA]; exact hm)
  rw [hA] at c1 hp hm
  unfold hit
  rw [hS, hA]
  unfold vh vv
  refine callM_of_pw dec_correct_code_decode_1 mixed (by simp) (by cases solM L P A S <;> simp [okV0, nodupB, lim, AObj.isHist]) (by cases solM L P A S <;> simp [hasN]) fun hwf hwo => ?_
  rw [enterM_eq]; unfold pc_correct_code_decode_1
  cases hs : solM L P A S with
  | none =>
    rw [hs, solR_none, codD_eq] at c2
    simp only [Option.map_none, Option.isNone_none]
    (try (simp -implicitDefEqProofs only [go_sem])); repeat' first | with_reducible exact True.intro | with_reducible refine And.intro ?_ ?_ | with_reducible intro _ | (((with_reducible refine isCall ?_); first | refine call_b (c1) rfl ?_ ?_ | refine call_d (c1) rfl ?_ | refine call_sb (c1) rfl ?_ ?_ | refine call_s (c1) rfl rfl ?_ | refine call_b (c2 _) rfl ?_ ?_ | refine call_d (c2 _) rfl ?_ | refine call_sb (c2 _) rfl ?_ ?_ | refine call_s (c2 _) rfl rfl ?_) <;> try (simp -implicitDefEqProofs only [go_sem])) | (((with_reducible refine vc_b ?_ ?_) <;> intro _) <;> try (simp -implicitDefEqProofs only [go_sem])) | simp (disch := omega) only [wrapI, wrapU, shl1, shl1', shl1'', shrN, shrN', and_one] | ((with_reducible refine isEx ?_); refine ⟨_, rfl, ?_, ?_⟩)
    all_goals first | omega | (simp; done) | (simp; omega) | skip
    all_goals first | rfl | skip
  | some v =>
    rw [hs, solR_some, codD_eq] at c2
    simp only [Option.map_some, Option.isNone_some]
    have hvl := (solM_spec hs).1
    have c3 := Clone_sym_own false w (by omega) (by omega) rfl
    (try (simp -implicitDefEqProofs only [go_sem])); repeat' first | with_reducible exact True.intro | with_reducible refine And.intro ?_ ?_ | with_reducible intro _ | (((with_reducible refine isCall ?_); first | refine call_b (c1) rfl ?_ ?_ | refine call_d (c1) rfl ?_ | refine call_sb (c1) rfl ?_ ?_ | refine call_s (c1) rfl rfl ?_ | refine call_b (c2 _) rfl ?_ ?_ | refine call_d (c2 _) rfl ?_ | refine call_sb (c2 _) rfl ?_ ?_ | refine call_s (c2 _) rfl rfl ?_ | (refine call_m ([]) ([((7, 1), (27, 1))]) (c3) (by repeat' first | exact True.intro | exact rfl | refine And.intro ?_ ?_) (by simp [Handed, Ren.get, AObj.ren, AV.ren, AV.ren.renL, View.get, lookO, callF, newS, View.reach, AV.sites, AV.sites.sitesL, View.osites]) (by simp [namesOk, hasN, nodupB, Ren.get, newS, lim, upd]) (by rfl) (by simp only [backC, Ren.get, AObj.ren, AV.ren, AV.ren.renL, and_self, and_true, true_and, if_true, reduceIte]; rfl) ?_)) <;> try (simp -implicitDefEqProofs only [go_sem])) | (((with_reducible refine vc_b ?_ ?_) <;> intro _) <;> try (simp -implicitDefEqProofs only [go_sem])) | simp (disch := omega) only [wrapI, wrapU, shl1, shl1', shl1'', shrN, shrN', and_one] | ((with_reducible refine isEx ?_); refine ⟨_, rfl, ?_, ?_⟩)
    all_goals first | omega | (simp; done) | (simp; omega) | skip
    refine pw_loopS (α := Nat) (l0 := ?l1) (m0 := ?m1) (fun x => [(30, .d (.int .i64 (x : Int)))]) (fun x => [(27, .row 89 1 false (us (withW w (A.take x) ((adds w A v).take x))))]) (fun x => x ≤ A.length) (fun x => A.length - x) 0 ?h01 ?he1 ?he21 ?hI1 ?step1
    case h01 => (simp -implicitDefEqProofs only [go_sem]; rfl)
    case he1 => rfl
    case he21 => rfl
    case' step1 => (rintro i hI; try dsimp only at hI)
    case' hI1 => try dsimp only
    · exact Nat.zero_le _
    · have hW := withW_len (A.take i) w ((adds w A v).take i)
      have hYl := adds_len w A v hvl.symm
      by_cases h : i < A.length
      · have h' : (i : Int) < (A.length : Int) := by omega
        have hwi : IntKind.i64.wrap ((i : Int) + 1) = ((i + 1 : Nat) : Int) := by rw [wrapI _ (by omega)]; omega
        have hj := hp.lt (A[i]?.getD 0) (by rw [ni_eq _ _ h]; exact List.getElem_mem h)
        have hg : (withW w (A.take i) ((adds w A v).take i))[A[i]?.getD 0]?.getD 0 = w[A[i]?.getD 0]?.getD 0 := withW_get _ _ _ _ (notin_take A i h hp.nd)
        have hk : (withW w (A.take i) ((adds w A v).take i)).set (A[i]?.getD 0) (fa (w[A[i]?.getD 0]?.getD 0) (v[i]?.getD 0)) = withW w (A.take (i + 1)) ((adds w A v).take (i + 1)) := by
          rw [← adds_get w A v i h hvl.symm, ← withW_snoc _ _ _ _ _ (take_len_eq A _ i hYl.symm), take_succ_getD A 0 i h, take_succ_getD _ 0 i (by omega)]
        have hi2 : i < v.length := by omega
        have hj2 : A[i]?.getD 0 < w.length := by omega
        (try (simp -implicitDefEqProofs only [go_sem, h', hwi, hW, hj2, hg, hk, hi2])); repeat' first | with_reducible exact True.intro | with_reducible refine And.intro ?_ ?_ | with_reducible intro _ | (((with_reducible refine vc_b ?_ ?_) <;> intro _) <;> try (simp -implicitDefEqProofs only [go_sem, h', hwi, hW, hj2, hg, hk, hi2])) | simp (disch := omega) only [wrapI, wrapU, shl1, shl1', shl1'', shrN, shrN', and_one] | ((with_reducible refine isEx ?_); refine ⟨_, rfl, ?_, ?_⟩)
        all_goals first | omega | (simp; done) | (simp; omega) | skip
        all_goals first | rfl | skip
      · have h' : ¬ (i : Int) < (A.length : Int) := by omega
        have hie : i = A.length := by omega
        have hfin : withW w (A.take i) ((adds w A v).take i) = withW w A (adds w A v) := by rw [List.take_of_length_le (by omega), List.take_of_length_le (by omega)]
        rw [hfin]
        (try (simp -implicitDefEqProofs only [go_sem, h'])); repeat' first | with_reducible exact True.intro | with_reducible refine And.intro ?_ ?_ | with_reducible intro _ | (((with_reducible refine vc_b ?_ ?_) <;> intro _) <;> try (simp -implicitDefEqProofs only [go_sem, h'])) | simp (disch := omega) only [wrapI, wrapU, shl1, shl1', shl1'', shrN, shrN', and_one] | ((with_reducible refine isEx ?_); refine ⟨_, rfl, ?_, ?_⟩)
        all_goals first | omega | (simp; done) | (simp; omega) | skip
        all_goals first | rfl | skip
end Go.Pw
