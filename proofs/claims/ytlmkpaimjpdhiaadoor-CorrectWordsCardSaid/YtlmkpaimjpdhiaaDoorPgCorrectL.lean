/- A part of the proof. -/
import Derived.Test.YtlmkpaimjpdhiaaDoorCorrectDec
set_option linter.all false
section
open Go Go.Pw Go.Proofs
namespace Go.Pw
set_option linter.unusedSimpArgs false
set_option linter.unusedVariables false
set_option maxRecDepth 100000
set_option maxHeartbeats 3200000
abbrev idR : Ren := [((900004, 0), (900004, 0)), ((901004, 0), (901004, 0))]
/-- A function that is called with choices: it changes the two variables when a choice hits. -/
structure YOk (G : List Nat → Option (List F)) (A : List Nat → Prop) (f : FuncId) (cs : List AV) : Prop where
  body : hasBody E0.P f = true
  st : AV.sites.sitesL cs = [900004, 901004]
  nr : ∀ (V : View) (os : List Nat), AV.nrm.live V os 900004 0 = true → AV.nrm.live V os 901004 0 = true → AV.nrm.nrmL V os cs = cs
  rn : AV.ren.renL idR cs = some cs
  ar : argsM idR cs cs
  call : ∀ (nl : Bool) (l : List Nat) (b : Bool) (o : List F) (fnd : Bool), A l → (nl = true → l = []) → CallM E0 f (vv b o fnd) (.d (.list nl (ints (ni l))) :: cs) (vh b o fnd (G l)) (.d (.bool (G l).isNone))
theorem body_choices_1 : hasBody E0.P F_correct_code_choices_1 = true := by kernel_rfl
theorem okV_vv (b : Bool) (o : List F) (fnd : Bool) : okV0 (vv b o fnd) = true := by simp [vv, okV0, nodupB, lim, AObj.isHist]
theorem sets_next (L : Nat) (mk : List Nat) (m j : Nat) (G : List Nat → Option (List F)) (hj : j < L) :
    (setsS L mk (m + 1) j).findSome? G = if mk.contains j then (setsS L mk (m + 1) (j + 1)).findSome? G else
      ((setsS L mk m (j + 1)).findSome? fun l => G (j :: l)).or ((setsS L mk (m + 1) (j + 1)).findSome? G) := by
  have hr : List.range' j (L - j) = j :: List.range' (j + 1) (L - (j + 1)) := by
    rw [show L - j = (L - (j + 1)) + 1 by omega, List.range'_succ]
  simp only [setsS]
  rw [hr, List.filter_cons]
  cases h : mk.contains j with
  | true => simp
  | false =>
    simp only [Bool.not_false, if_true, Bool.false_eq_true, if_false, List.flatMap_cons, List.findSome?_append]
    rw [List.findSome?_map]; rfl
theorem sets_end (L : Nat) (mk : List Nat) (m : Nat) : setsS L mk (m + 1) L = [] := by simp [setsS]
theorem sets_len (L : Nat) (mk : List Nat) (m fr : Nat) (l : List Nat) (h : l ∈ setsS L mk m fr) : l.length = m := (sets_spec L mk m fr l h).1
theorem sets_sub (L : Nat) (mk : List Nat) (m fr j : Nat) (l : List Nat) (hf : fr ≤ j) (hj : j < L) (hm : mk.contains j = false) (h : l ∈ setsS L mk m (j + 1)) : j :: l ∈ setsS L mk (m + 1) fr := by
  simp only [setsS, List.mem_flatMap, List.mem_filter, List.mem_range'_1, List.mem_map]
  exact ⟨j, ⟨⟨hf, by omega⟩, by simpa using hm⟩, l, h, rfl⟩
theorem inB_ni (mk : List Nat) (j : Nat) : inB (ni mk) (j : Int) = mk.contains j := by
  unfold inB ni
  rw [Bool.eq_iff_iff]
  simp only [List.contains_iff_mem, List.mem_map]
  constructor
  · rintro ⟨k, hk, he⟩
    have : k = j := by omega
    subst this; exact hk
  · exact fun h => ⟨j, h, rfl⟩
attribute [local congr] cg_pw cg_seqI cg_seqE cg_stepI cg_ev cg_evBin cg_condB cg_condV cg_thenQ cg_blockQ cg_onSome cg_onCells cg_onRow cg_onRow2 cg_onMtx cg_frmV cg_fraV cg_frcV cg_frcO cg_frcX cg_fraO cg_owmV cg_ghosts cg_ghost cg_evCall cg_part cg_rng cg_guardV cg_frzV cg_frpV cg_ownV cg_resK cg_res1
attribute [local irreducible] IntKind.wrap bitsOp Option.getD and or

theorem choices_1_own {G : List Nat → Option (List F)} {A : List Nat → Prop} {f : FuncId} {cs : List AV} (hY : YOk G A f cs) (j : Nat) (nl : Bool) (l : List Nat) (b : Bool) (o : List F) (fnd : Bool) (hA : A (j :: l)) (hll : l.length ≤ 100) :
    CallM E0 F_correct_code_choices_1 (vv b o fnd) [.d (.list nl (ints (ni l))), .ablk false [.fn f cs] 0, .d (.ptr [.int .i64 (j : Int)])] (vh b o fnd (G (j :: l))) (.d (.bool (G (j :: l)).isNone)) := by
  have c1 := hY.call false (j :: l) b o fnd hA (by simp)
  have hst := hY.st
  have hbody := hY.body
  have hl : D.int .i64 (j : Int) :: ints (ni l) = ints (ni (j :: l)) := rfl
  have h1 : ((vv b o fnd).all fun q => hasN (vh b o fnd (G (j :: l))) q.1 q.2.1) = true := by cases G (j :: l) <;> simp [vv, vh, hasN]
  refine callM_of_pw dec_correct_code_choices_1 mixed (by simp) (okV_vv b o fnd) h1 fun hwf hwo => ?_
  rw [enterM_eq]; unfold pc_correct_code_choices_1
  unfold vv at c1 ⊢
  have har : argsM idR (.d (.list false (ints (ni (j :: l)))) :: cs) (.d (.list false (ints (ni (j :: l)))) :: cs) := ⟨rfl, hY.ar⟩
  cases hg : G (j :: l) with
  | none =>
    rw [hg, vh_none] at c1
    rw [vh_none]
    unfold vv at c1 ⊢
    (try (simp -implicitDefEqProofs only [go_sem, hst, hbody, hl, ni_len])); repeat' first | with_reducible exact True.intro | with_reducible refine And.intro ?_ ?_ | with_reducible intro _ | (((with_reducible refine vc_b ?_ ?_) <;> intro _) <;> try (simp -implicitDefEqProofs only [go_sem, hst, hbody, hl, ni_len])) | simp (disch := omega) only [wrapI, wrapU, shl1, shl1', shl1'', shrN, shrN', and_one] 
    all_goals first | omega | (simp; done) | (simp; omega) | skip
    refine call_m idR idR c1 har (by simp [Handed, Ren.get, AObj.ren, AV.ren, AV.ren.renL, View.get, lookO, callF, newS, View.reach, AV.sites, AV.sites.sitesL, View.osites, hst]) (by simp [namesOk, hasN, nodupB, Ren.get, newS, lim, upd]) (by rfl) (by simp only [backC, Ren.get, AObj.ren, AV.ren, AV.ren.renL, and_self, and_true, true_and, if_true, reduceIte]; rfl) ?_
    (try (simp -implicitDefEqProofs only [go_sem, hst, ni_len])); repeat' first | with_reducible exact True.intro | with_reducible refine And.intro ?_ ?_ | with_reducible intro _ | (((with_reducible refine vc_b ?_ ?_) <;> intro _) <;> try (simp -implicitDefEqProofs only [go_sem, hst, ni_len])) | simp (disch := omega) only [wrapI, wrapU, shl1, shl1', shl1'', shrN, shrN', and_one] 
    all_goals first | omega | (simp; done) | (simp; omega) | skip
    all_goals first | rfl | skip
  | some z =>
    rw [hg, vh_some] at c1
    rw [vh_some]
    unfold vv at c1 ⊢
    (try (simp -implicitDefEqProofs only [go_sem, hst, hbody, hl, ni_len])); repeat' first | with_reducible exact True.intro | with_reducible refine And.intro ?_ ?_ | with_reducible intro _ | (((with_reducible refine vc_b ?_ ?_) <;> intro _) <;> try (simp -implicitDefEqProofs only [go_sem, hst, hbody, hl, ni_len])) | simp (disch := omega) only [wrapI, wrapU, shl1, shl1', shl1'', shrN, shrN', and_one] 
    all_goals first | omega | (simp; done) | (simp; omega) | skip
    refine call_m idR idR c1 har (by simp [Handed, Ren.get, AObj.ren, AV.ren, AV.ren.renL, View.get, lookO, callF, newS, View.reach, AV.sites, AV.sites.sitesL, View.osites, hst]) (by simp [namesOk, hasN, nodupB, Ren.get, newS, lim, upd]) (by rfl) (by simp only [backC, Ren.get, AObj.ren, AV.ren, AV.ren.renL, and_self, and_true, true_and, if_true, reduceIte]; rfl) ?_
    (try (simp -implicitDefEqProofs only [go_sem, hst, ni_len])); repeat' first | with_reducible exact True.intro | with_reducible refine And.intro ?_ ?_ | with_reducible intro _ | (((with_reducible refine vc_b ?_ ?_) <;> intro _) <;> try (simp -implicitDefEqProofs only [go_sem, hst, ni_len])) | simp (disch := omega) only [wrapI, wrapU, shl1, shl1', shl1'', shrN, shrN', and_one] 
    all_goals first | omega | (simp; done) | (simp; omega) | skip
    all_goals first | rfl | skip

theorem yok_next {G : List Nat → Option (List F)} {A : List Nat → Prop} {f : FuncId} {cs : List AV} (hY : YOk G A f cs) (j : Nat) :
    YOk (fun l => G (j :: l)) (fun l => A (j :: l) ∧ l.length ≤ 100) F_correct_code_choices_1 [.ablk false [.fn f cs] 0, .d (.ptr [.int .i64 (j : Int)])] :=
  ⟨body_choices_1, by simp [AV.sites, AV.sites.sitesL, hY.st], fun V os h1 h2 => by simp [AV.nrm, AV.nrm.nrmL, hY.nr V os h1 h2, AV.one], by simp [AV.ren, AV.ren.renL, hY.rn],
    ⟨by simp [argM, AV.ren, AV.ren.renL, hY.rn], rfl, trivial⟩, fun nl l b o fnd hA _ => choices_1_own hY j nl l b o fnd hA.1 hA.2⟩

theorem choices_own (L P : Nat) (n : Bool) (mk : List Nat) (hL : L ≤ 15) : ∀ (m fr : Nat) {G : List Nat → Option (List F)} {A : List Nat → Prop} {f : FuncId} {cs : List AV} (hY : YOk G A f cs) (hA : ∀ l, l ∈ setsS L mk m fr → A l) (hfr : fr ≤ L) (hm : m ≤ 50) (b : Bool) (o : List F) (fnd : Bool),
    CallM E0 F_correct_code_choices (vv b o fnd) [.d (codD L P), .d (.list n (ints (ni mk))), .d (.int .i64 (fr : Int)), .d (.int .i64 (m : Int)), .fn f cs] (vh b o fnd ((setsS L mk m fr).findSome? G)) (.d (.bool ((setsS L mk m fr).findSome? G).isNone))
  | 0, fr, G, A, f, cs, hY, hA, hfr, hm, b, o, fnd => by
    have e0 : (setsS L mk 0 fr).findSome? G = G [] := by simp [setsS]
    rw [e0]
    have c1 := hY.call true [] b o fnd (hA [] (by simp [setsS])) (fun _ => rfl)
    rw [show ints (ni []) = [] from rfl] at c1
    have hst := hY.st
    have hbody := hY.body
    have h1 : ((vv b o fnd).all fun q => hasN (vh b o fnd (G [])) q.1 q.2.1) = true := by cases G [] <;> simp [vv, vh, hasN]
    refine callM_of_pw dec_correct_code_choices mixed (by simp) (okV_vv b o fnd) h1 fun hwf hwo => ?_
    rw [enterM_eq]; unfold pc_correct_code_choices
    have har : argsM idR (.d (.list true []) :: cs) (.d (.list true []) :: cs) := ⟨rfl, hY.ar⟩
    have hz0 : ((0 : Nat) : Int) = 0 := rfl
    cases hg : G [] with
    | none =>
      rw [hg, vh_none] at c1
      rw [vh_none]
      unfold vv at c1 ⊢
      (try (simp -implicitDefEqProofs only [go_sem, hst, hbody, codD_eq, hz0])); repeat' first | with_reducible exact True.intro | with_reducible refine And.intro ?_ ?_ | with_reducible intro _ | (((with_reducible refine vc_b ?_ ?_) <;> intro _) <;> try (simp -implicitDefEqProofs only [go_sem, hst, hbody, codD_eq, hz0])) | simp (disch := omega) only [wrapI, wrapU, shl1, shl1', shl1'', shrN, shrN', and_one] | ((with_reducible refine isEx ?_); refine ⟨_, rfl, ?_, ?_⟩)
      all_goals first | omega | (simp; done) | (simp; omega) | skip
      refine call_m idR idR c1 har (by simp [Handed, Ren.get, AObj.ren, AV.ren, AV.ren.renL, View.get, lookO, callF, newS, View.reach, AV.sites, AV.sites.sitesL, View.osites, hst]) (by simp [namesOk, hasN, nodupB, Ren.get, newS, lim, upd]) (by rfl) (by simp only [backC, Ren.get, AObj.ren, AV.ren, AV.ren.renL, and_self, and_true, true_and, if_true, reduceIte]; rfl) ?_
      (try (simp -implicitDefEqProofs only [go_sem, hst])); repeat' first | with_reducible exact True.intro | with_reducible refine And.intro ?_ ?_ | with_reducible intro _ | (((with_reducible refine vc_b ?_ ?_) <;> intro _) <;> try (simp -implicitDefEqProofs only [go_sem, hst])) | simp (disch := omega) only [wrapI, wrapU, shl1, shl1', shl1'', shrN, shrN', and_one] | ((with_reducible refine isEx ?_); refine ⟨_, rfl, ?_, ?_⟩)
      all_goals first | omega | (simp; done) | (simp; omega) | skip
      all_goals first | rfl | skip
    | some z =>
      rw [hg, vh_some] at c1
      rw [vh_some]
      unfold vv at c1 ⊢
      (try (simp -implicitDefEqProofs only [go_sem, hst, hbody, codD_eq, hz0])); repeat' first | with_reducible exact True.intro | with_reducible refine And.intro ?_ ?_ | with_reducible intro _ | (((with_reducible refine vc_b ?_ ?_) <;> intro _) <;> try (simp -implicitDefEqProofs only [go_sem, hst, hbody, codD_eq, hz0])) | simp (disch := omega) only [wrapI, wrapU, shl1, shl1', shl1'', shrN, shrN', and_one] | ((with_reducible refine isEx ?_); refine ⟨_, rfl, ?_, ?_⟩)
      all_goals first | omega | (simp; done) | (simp; omega) | skip
      refine call_m idR idR c1 har (by simp [Handed, Ren.get, AObj.ren, AV.ren, AV.ren.renL, View.get, lookO, callF, newS, View.reach, AV.sites, AV.sites.sitesL, View.osites, hst]) (by simp [namesOk, hasN, nodupB, Ren.get, newS, lim, upd]) (by rfl) (by simp only [backC, Ren.get, AObj.ren, AV.ren, AV.ren.renL, and_self, and_true, true_and, if_true, reduceIte]; rfl) ?_
      (try (simp -implicitDefEqProofs only [go_sem, hst])); repeat' first | with_reducible exact True.intro | with_reducible refine And.intro ?_ ?_ | with_reducible intro _ | (((with_reducible refine vc_b ?_ ?_) <;> intro _) <;> try (simp -implicitDefEqProofs only [go_sem, hst])) | simp (disch := omega) only [wrapI, wrapU, shl1, shl1', shl1'', shrN, shrN', and_one] | ((with_reducible refine isEx ?_); refine ⟨_, rfl, ?_, ?_⟩)
      all_goals first | omega | (simp; done) | (simp; omega) | skip
      all_goals first | rfl | skip
  | m + 1, fr, G, A, f, cs, hY, hA, hfr, hm, b, o, fnd => by
    have hst := hY.st
    have hnr := hY.nr
    have h1 : ((vv b o fnd).all fun q => hasN (vh b o fnd ((setsS L mk (m + 1) fr).findSome? G)) q.1 q.2.1) = true := by cases (setsS L mk (m + 1) fr).findSome? G <;> simp [vv, vh, hasN]
    refine callM_of_pw dec_correct_code_choices mixed (by simp) (okV_vv b o fnd) h1 fun hwf hwo => ?_
    rw [enterM_eq]; unfold pc_correct_code_choices
    have hz0 : ¬ ((m + 1 : Nat) : Int) = 0 := by omega
    have hwm : IntKind.i64.wrap (((m + 1 : Nat) : Int) - 1) = (m : Int) := by rw [wrapI _ (by omega)]; omega
    unfold vv
    (try (simp -implicitDefEqProofs only [go_sem, hst, hnr, codD_eq, hz0])); repeat' first | with_reducible exact True.intro | with_reducible refine And.intro ?_ ?_ | with_reducible intro _ | (((with_reducible refine vc_b ?_ ?_) <;> intro _) <;> try (simp -implicitDefEqProofs only [go_sem, hst, hnr, codD_eq, hz0])) | simp (disch := omega) only [wrapI, wrapU, shl1, shl1', shl1'', shrN, shrN', and_one] | ((with_reducible refine isEx ?_); refine ⟨_, rfl, ?_, ?_⟩)
    all_goals first | omega | (simp; done) | (simp; omega) | skip
    refine pw_loopS (α := Nat) (l0 := ?l1) (m0 := ?m1) (fun x => []) (fun x => [(11, .cells [.d (.int .i64 (x : Int))])]) (fun x => fr ≤ x ∧ x ≤ L ∧ (setsS L mk (m + 1) x).findSome? G = (setsS L mk (m + 1) fr).findSome? G) (fun x => L - x) fr ?h01 ?he1 ?he21 ?hI1 ?step1
    case h01 => (simp -implicitDefEqProofs only [go_sem, hst, hnr]; rfl)
    case he1 => rfl
    case he21 => rfl
    case' step1 => (rintro j hI; try dsimp only at hI)
    case' hI1 => try dsimp only
    · exact ⟨by omega, hfr, rfl⟩
    · obtain ⟨j1, j2, j3⟩ := hI
      by_cases hj : j < L
      · have hj' : (j : Int) < (L : Int) := by omega
        have hwj : IntKind.i64.wrap ((j : Int) + 1) = ((j + 1 : Nat) : Int) := by rw [wrapI _ (by omega)]; omega
        have c0 := Contains_int_ret n (ni mk) (j : Int)
        rw [inB_ni] at c0
        have hnx := sets_next L mk m j G hj
        cases hc : mk.contains j with
        | true =>
          rw [hc] at c0 hnx
          rw [if_pos rfl] at hnx
          have hfin : (setsS L mk (m + 1) (j + 1)).findSome? G = (setsS L mk (m + 1) fr).findSome? G := by rw [← j3, hnx]
          (try (simp -implicitDefEqProofs only [go_sem, hst, hnr, hj', hwj])); repeat' first | with_reducible exact True.intro | with_reducible refine And.intro ?_ ?_ | with_reducible intro _ | (((with_reducible refine isCall ?_); first | refine call_b (c0) rfl ?_ ?_ | refine call_d (c0) rfl ?_ | refine call_sb (c0) rfl ?_ ?_ | refine call_s (c0) rfl rfl ?_) <;> try (simp -implicitDefEqProofs only [go_sem, hst, hnr, hj', hwj])) | (((with_reducible refine vc_b ?_ ?_) <;> intro _) <;> try (simp -implicitDefEqProofs only [go_sem, hst, hnr, hj', hwj])) | simp (disch := omega) only [wrapI, wrapU, shl1, shl1', shl1'', shrN, shrN', and_one] | ((with_reducible refine isEx ?_); refine ⟨_, rfl, ?_, ?_⟩)
          all_goals first | omega | (simp; done) | (simp; omega) | skip
          all_goals first | exact hfin | skip
        | false =>
          rw [hc] at c0 hnx
          simp only [Bool.false_eq_true, if_false] at hnx
          have hYn := yok_next hY j
          have hlen : ∀ l, l ∈ setsS L mk m (j + 1) → l.length ≤ 100 := fun l hl => by rw [sets_len L mk m (j + 1) l hl]; omega
          have ih := choices_own L P n mk hL m (j + 1) hYn (fun l hl => ⟨hA _ (sets_sub L mk m fr j l j1 hj hc hl), hlen l hl⟩) (by omega) (by omega) b o fnd
          have har : argsM idR [.d (codD L P), .d (.list n (ints (ni mk))), .d (.int .i64 ((j + 1 : Nat) : Int)), .d (.int .i64 (m : Int)), .fn F_correct_code_choices_1 [.ablk false [.fn f cs] 0, .d (.ptr [.int .i64 (j : Int)])]] [.d (codD L P), .d (.list n (ints (ni mk))), .d (.int .i64 ((j + 1 : Nat) : Int)), .d (.int .i64 (m : Int)), .fn F_correct_code_choices_1 [.ablk false [.fn f cs] 0, .d (.ptr [.int .i64 (j : Int)])]] :=
            ⟨rfl, rfl, rfl, rfl, by simp [argM, AV.ren, AV.ren.renL, hY.rn], trivial⟩
          cases hr : (setsS L mk m (j + 1)).findSome? fun l => G (j :: l) with
          | none =>
            rw [hr] at ih hnx
            have hfin : (setsS L mk (m + 1) (j + 1)).findSome? G = (setsS L mk (m + 1) fr).findSome? G := by rw [← j3, hnx]; rfl
            rw [vh_none, Option.isNone_none] at ih
            rw [codD_eq] at ih har
            unfold vv at ih
            (try (simp -implicitDefEqProofs only [go_sem, hst, hnr, hj', hwj, hwm])); repeat' first | with_reducible exact True.intro | with_reducible refine And.intro ?_ ?_ | with_reducible intro _ | (((with_reducible refine isCall ?_); first | refine call_b (c0) rfl ?_ ?_ | refine call_d (c0) rfl ?_ | refine call_sb (c0) rfl ?_ ?_ | refine call_s (c0) rfl rfl ?_) <;> try (simp -implicitDefEqProofs only [go_sem, hst, hnr, hj', hwj, hwm])) | (((with_reducible refine vc_b ?_ ?_) <;> intro _) <;> try (simp -implicitDefEqProofs only [go_sem, hst, hnr, hj', hwj, hwm])) | simp (disch := omega) only [wrapI, wrapU, shl1, shl1', shl1'', shrN, shrN', and_one] | ((with_reducible refine isEx ?_); refine ⟨_, rfl, ?_, ?_⟩)
            all_goals first | omega | (simp; done) | (simp; omega) | skip
            refine call_m idR idR ih har (by simp [Handed, Ren.get, AObj.ren, AV.ren, AV.ren.renL, View.get, lookO, callF, newS, View.reach, AV.sites, AV.sites.sitesL, View.osites, hst]) (by simp [namesOk, hasN, nodupB, Ren.get, newS, lim, upd]) (by rfl) (by simp only [backC, Ren.get, AObj.ren, AV.ren, AV.ren.renL, and_self, and_true, true_and, if_true, reduceIte]; rfl) ?_
            (try (simp -implicitDefEqProofs only [go_sem, hst, hnr, hwj])); repeat' first | with_reducible exact True.intro | with_reducible refine And.intro ?_ ?_ | with_reducible intro _ | (((with_reducible refine vc_b ?_ ?_) <;> intro _) <;> try (simp -implicitDefEqProofs only [go_sem, hst, hnr, hwj])) | simp (disch := omega) only [wrapI, wrapU, shl1, shl1', shl1'', shrN, shrN', and_one] | ((with_reducible refine isEx ?_); refine ⟨_, rfl, ?_, ?_⟩)
            all_goals first | omega | (simp; done) | (simp; omega) | skip
            all_goals first | exact hfin | skip
          | some z =>
            rw [hr] at ih hnx
            have hfin : (setsS L mk (m + 1) fr).findSome? G = some z := by rw [← j3, hnx]; rfl
            rw [hfin, vh_some]
            rw [vh_some, Option.isNone_some] at ih
            rw [codD_eq] at ih har
            unfold vv at ih ⊢
            (try (simp -implicitDefEqProofs only [go_sem, hst, hnr, hj', hwj, hwm])); repeat' first | with_reducible exact True.intro | with_reducible refine And.intro ?_ ?_ | with_reducible intro _ | (((with_reducible refine isCall ?_); first | refine call_b (c0) rfl ?_ ?_ | refine call_d (c0) rfl ?_ | refine call_sb (c0) rfl ?_ ?_ | refine call_s (c0) rfl rfl ?_) <;> try (simp -implicitDefEqProofs only [go_sem, hst, hnr, hj', hwj, hwm])) | (((with_reducible refine vc_b ?_ ?_) <;> intro _) <;> try (simp -implicitDefEqProofs only [go_sem, hst, hnr, hj', hwj, hwm])) | simp (disch := omega) only [wrapI, wrapU, shl1, shl1', shl1'', shrN, shrN', and_one] | ((with_reducible refine isEx ?_); refine ⟨_, rfl, ?_, ?_⟩)
            all_goals first | omega | (simp; done) | (simp; omega) | skip
            refine call_m idR idR ih har (by simp [Handed, Ren.get, AObj.ren, AV.ren, AV.ren.renL, View.get, lookO, callF, newS, View.reach, AV.sites, AV.sites.sitesL, View.osites, hst]) (by simp [namesOk, hasN, nodupB, Ren.get, newS, lim, upd]) (by rfl) (by simp only [backC, Ren.get, AObj.ren, AV.ren, AV.ren.renL, and_self, and_true, true_and, if_true, reduceIte]; rfl) ?_
            (try (simp -implicitDefEqProofs only [go_sem, hst, hnr, hwj])); repeat' first | with_reducible exact True.intro | with_reducible refine And.intro ?_ ?_ | with_reducible intro _ | (((with_reducible refine vc_b ?_ ?_) <;> intro _) <;> try (simp -implicitDefEqProofs only [go_sem, hst, hnr, hwj])) | simp (disch := omega) only [wrapI, wrapU, shl1, shl1', shl1'', shrN, shrN', and_one] | ((with_reducible refine isEx ?_); refine ⟨_, rfl, ?_, ?_⟩)
            all_goals first | omega | (simp; done) | (simp; omega) | skip
            all_goals first | rfl | skip
      · have hj' : ¬ (j : Int) < (L : Int) := by omega
        have hje : j = L := by omega
        subst hje
        have hfin : (setsS j mk (m + 1) fr).findSome? G = none := by rw [← j3, sets_end]; rfl
        rw [hfin, vh_none]
        unfold vv
        (try (simp -implicitDefEqProofs only [go_sem, hst, hnr, hj'])); repeat' first | with_reducible exact True.intro | with_reducible refine And.intro ?_ ?_ | with_reducible intro _ | (((with_reducible refine vc_b ?_ ?_) <;> intro _) <;> try (simp -implicitDefEqProofs only [go_sem, hst, hnr, hj'])) | simp (disch := omega) only [wrapI, wrapU, shl1, shl1', shl1'', shrN, shrN', and_one] | ((with_reducible refine isEx ?_); refine ⟨_, rfl, ?_, ?_⟩)
        all_goals first | omega | (simp; done) | (simp; omega) | skip
        all_goals first | rfl | skip
end Go.Pw
end
section
open Go Go.Pw Go.Proofs
namespace Go.Pw
set_option linter.unusedSimpArgs false
set_option linter.unusedVariables false
set_option maxRecDepth 100000
set_option maxHeartbeats 3200000
def decR (o : Option (List F)) : D := match o with
  | some r => .tup [.list false (us r), .bool true]
  | none => .tup [.list true [], .bool false]
theorem decR_some (v : List F) : decR (some v) = .tup [.list false (us v), .bool true] := rfl
theorem decR_none : decR none = .tup [.list true [], .bool false] := rfl
theorem body_decode_1 : hasBody E0.P F_correct_code_decode_1 = true := by kernel_rfl
theorem findSome_first {β : Type} {f : Nat → Option β} {e : Nat} {r : β} (h : ∀ i, i < e → f i = none) (he : f e = some r) : ∀ N, e < N → (List.range N).findSome? f = some r
  | 0, hN => by omega
  | N + 1, hN => by
    rw [List.range_succ, List.findSome?_append]
    by_cases h2 : e < N
    · rw [findSome_first h he N h2]; rfl
    · have : e = N := by omega
      subst this
      have hn : (List.range e).findSome? f = none := by
        rw [List.findSome?_eq_none_iff]; exact fun i hi => h i (by simpa using hi)
      rw [hn]
      simp [he]
noncomputable def decE (L P : Nat) (w : List F) (mk : List Nat) (e : Nat) : Option (List F) := (setsS L mk e 0).findSome? (hit L P w mk)
theorem dec_hit {L P : Nat} {w r : List F} {mk : List Nat} {e : Nat} (h : ∀ i, i < e → decE L P w mk i = none) (he : decE L P w mk e = some r) (hb : 2 * e + mk.length ≤ P) : decS L P w mk = some r := by
  unfold decS
  rw [if_pos (by omega)]
  exact findSome_first h he _ (by omega)
theorem dec_miss {L P : Nat} {w : List F} {mk : List Nat} {e : Nat} (h : ∀ i, i < e → decE L P w mk i = none) (hb : ¬ 2 * e + mk.length ≤ P) : decS L P w mk = none := by
  unfold decS
  split
  · rw [List.findSome?_eq_none_iff]
    intro i hi
    simp at hi
    exact h i (by omega)
  · rfl
theorem yok_dec {L P : Nat} {w : List F} {mk : List Nat} (n2 : Bool) (hL : L ≤ 15) (hL1 : 1 ≤ L) (hP : 1 ≤ P) (hP2 : P ≤ 15) (hw : w.length = L) (hm : Mks L mk) :
    YOk (hit L P w mk) (fun l => IsSet L mk 0 l ∧ 2 * l.length + mk.length ≤ P) F_correct_code_decode_1 [.d (.ptr [.list n2 (ints (ni mk))]), .d (.ptr [.int .i64 L, .int .i64 P]), .d (.ptr [.list false (us (synd L P w))]), .d (.ptr [.list false (us w)]), .ptr 900004 0 0, .ptr 901004 0 0] :=
  ⟨body_decode_1, rfl, fun V os h1 h2 => by simp [AV.nrm, AV.nrm.nrmL, h1, h2], rfl, ⟨rfl, rfl, rfl, rfl, rfl, rfl, trivial⟩, fun nl l b o fnd hA _ =>
    decode_1_own L P nl n2 false b fnd o w mk l hL hL1 hP hP2 hw (set_pos hm hA.1) (by have := hA.2; simp; omega) rfl⟩
attribute [local congr] cg_pw cg_seqI cg_seqE cg_stepI cg_ev cg_evBin cg_condB cg_condV cg_thenQ cg_blockQ cg_onSome cg_onCells cg_onRow cg_onRow2 cg_onMtx cg_frmV cg_fraV cg_frcV cg_frcO cg_frcX cg_fraO cg_owmV cg_ghosts cg_ghost cg_evCall cg_part cg_rng cg_guardV cg_frzV cg_frpV cg_ownV cg_resK cg_res1
attribute [local irreducible] IntKind.wrap bitsOp Option.getD and or

theorem correct_decode_ret (L P : Nat) (n1 n2 : Bool) (w : List F) (mk : List Nat) (hL : L ≤ 15) (hL1 : 1 ≤ L) (hP : 1 ≤ P) (hP2 : P ≤ 15) (hw : w.length = L) (hm : Mks L mk) (hml : mk.length ≤ 100) (hn1 : n1 = false) :
    Ret E0 F_correct_code_decode [codD L P, .list n1 (us w), .list n2 (ints (ni mk))] (decR (decS L P w mk)) := by
  subst hn1
  have c1 := correct_sums_ret L P false w hL hL1 hP hP2 hw
  have hY := yok_dec (P := P) n2 hL hL1 hP hP2 hw hm
  refine ret_of_pw dec_correct_code_decode mixed (by simp) fun hwf => ?_
  rw [enter_eq]; unfold pc_correct_code_decode
  rw [codD_eq] at c1 ⊢
  (try (simp -implicitDefEqProofs only [go_sem])); repeat' first | with_reducible exact True.intro | with_reducible refine And.intro ?_ ?_ | with_reducible intro _ | (((with_reducible refine isCall ?_); first | refine call_b (c1) rfl ?_ ?_ | refine call_d (c1) rfl ?_ | refine call_sb (c1) rfl ?_ ?_ | refine call_s (c1) rfl rfl ?_) <;> try (simp -implicitDefEqProofs only [go_sem])) | (((with_reducible refine vc_b ?_ ?_) <;> intro _) <;> try (simp -implicitDefEqProofs only [go_sem])) | simp (disch := omega) only [wrapI, wrapU, shl1, shl1', shl1'', shrN, shrN', and_one] | ((with_reducible refine isEx4 ?_); refine ⟨(_, _, _, _), rfl, ?_, ?_⟩)
  all_goals first | omega | (simp; done) | (simp; omega) | skip
  refine pw_loopS (α := Nat × Bool × (List F) × Bool) (l0 := ?l1) (m0 := ?m1) (fun x => [(9, .d (.int .i64 (x.1 : Int)))]) (fun x => [(6, .cells [.d (.list x.2.1 (us x.2.2.1))]), (7, .cells [.d (.bool x.2.2.2)])]) (fun x => x.1 ≤ 100 ∧ ((x.2.2.2 = false ∧ x.2.1 = true ∧ x.2.2.1 = [] ∧ ∀ i, i < x.1 → decE L P w mk i = none) ∨ (x.2.2.2 = true ∧ x.2.1 = false ∧ decS L P w mk = some x.2.2.1))) (fun x => (if x.2.2.2 then 0 else 101 - x.1)) (0, true, [], false) ?h01 ?he1 ?he21 ?hI1 ?step1
  case h01 => (simp -implicitDefEqProofs only [go_sem]; rfl)
  case he1 => rfl
  case he21 => rfl
  case' step1 => (rintro ⟨e, b, o, fnd⟩ hI; try dsimp only at hI)
  case' hI1 => try dsimp only
  · exact ⟨by omega, .inl ⟨rfl, rfl, rfl, fun i hi => absurd hi (by omega)⟩⟩
  · obtain ⟨h1, h2⟩ := hI
    have hw2 : IntKind.i64.wrap (2 * (e : Int)) = 2 * (e : Int) := wrapI _ (by omega)
    have hw3 : IntKind.i64.wrap (2 * (e : Int) + (mk.length : Int)) = 2 * (e : Int) + (mk.length : Int) := wrapI _ (by omega)
    have hw4 : IntKind.i64.wrap ((e : Int) + 1) = ((e + 1 : Nat) : Int) := by rw [wrapI _ (by omega)]; omega
    rcases h2 with ⟨rfl, rfl, rfl, h3⟩ | ⟨rfl, rfl, h3⟩
    · by_cases hb : 2 * e + mk.length ≤ P
      · have hb' : 2 * (e : Int) + (mk.length : Int) ≤ (P : Int) := by omega
        have c2 := choices_own L P n2 mk hL e 0 hY (fun l hl => ⟨(sets_spec L mk e 0 l hl).2, by rw [(sets_spec L mk e 0 l hl).1]; exact hb⟩) (by omega) (by omega) true [] false
        rw [show (((0 : Nat) : Int)) = 0 from rfl] at c2
        rw [codD_eq] at c2
        obtain ⟨R, hR⟩ : ∃ R, decE L P w mk e = R := ⟨_, rfl⟩
        rw [show (setsS L mk e 0).findSome? (hit L P w mk) = R from hR] at c2
        cases R with
        | none =>
          rw [vh_none, Option.isNone_none] at c2
          unfold vv at c2
          have hn : ∀ i, i < e + 1 → decE L P w mk i = none := fun i hi => by
            rcases Nat.lt_succ_iff_lt_or_eq.1 hi with hi | rfl
            · exact h3 i hi
            · exact hR
          (try (simp -implicitDefEqProofs only [go_sem, hw2, hw3, hb', hw4])); repeat' first | with_reducible exact True.intro | with_reducible refine And.intro ?_ ?_ | with_reducible intro _ | (((with_reducible refine isCall ?_); first | (refine call_m ([((900004, 0), (6, 0)), ((901004, 0), (7, 0))]) ([((900004, 0), (6, 0)), ((901004, 0), (7, 0))]) (c2) (by repeat' first | exact True.intro | exact rfl | refine And.intro ?_ ?_) (by simp [Handed, Ren.get, AObj.ren, AV.ren, AV.ren.renL, View.get, lookO, callF, newS, View.reach, AV.sites, AV.sites.sitesL, View.osites]) (by simp [namesOk, hasN, nodupB, Ren.get, newS, lim, upd]) (by rfl) (by simp only [backC, Ren.get, AObj.ren, AV.ren, AV.ren.renL, and_self, and_true, true_and, if_true, reduceIte]; rfl) ?_)) <;> try (simp -implicitDefEqProofs only [go_sem, hw2, hw3, hb', hw4])) | (((with_reducible refine vc_b ?_ ?_) <;> intro _) <;> try (simp -implicitDefEqProofs only [go_sem, hw2, hw3, hb', hw4])) | simp (disch := omega) only [wrapI, wrapU, shl1, shl1', shl1'', shrN, shrN', and_one] | ((with_reducible refine isEx4 ?_); refine ⟨(_, _, _, _), rfl, ?_, ?_⟩)
          all_goals first | omega | (simp; done) | (simp; omega) | skip
          all_goals first | exact .inl ⟨trivial, trivial, trivial, hn⟩ | skip
        | some r =>
          have hfin := dec_hit h3 hR hb
          rw [vh_some, Option.isNone_some] at c2
          unfold vv at c2
          (try (simp -implicitDefEqProofs only [go_sem, hw2, hw3, hb', hw4])); repeat' first | with_reducible exact True.intro | with_reducible refine And.intro ?_ ?_ | with_reducible intro _ | (((with_reducible refine isCall ?_); first | (refine call_m ([((900004, 0), (6, 0)), ((901004, 0), (7, 0))]) ([((900004, 0), (6, 0)), ((901004, 0), (7, 0))]) (c2) (by repeat' first | exact True.intro | exact rfl | refine And.intro ?_ ?_) (by simp [Handed, Ren.get, AObj.ren, AV.ren, AV.ren.renL, View.get, lookO, callF, newS, View.reach, AV.sites, AV.sites.sitesL, View.osites]) (by simp [namesOk, hasN, nodupB, Ren.get, newS, lim, upd]) (by rfl) (by simp only [backC, Ren.get, AObj.ren, AV.ren, AV.ren.renL, and_self, and_true, true_and, if_true, reduceIte]; rfl) ?_)) <;> try (simp -implicitDefEqProofs only [go_sem, hw2, hw3, hb', hw4])) | (((with_reducible refine vc_b ?_ ?_) <;> intro _) <;> try (simp -implicitDefEqProofs only [go_sem, hw2, hw3, hb', hw4])) | simp (disch := omega) only [wrapI, wrapU, shl1, shl1', shl1'', shrN, shrN', and_one] | ((with_reducible refine isEx4 ?_); refine ⟨(_, _, _, _), rfl, ?_, ?_⟩)
          all_goals first | omega | (simp; done) | (simp; omega) | skip
          all_goals first | exact .inr ⟨trivial, trivial, hfin⟩ | skip
      · have hb' : ¬ 2 * (e : Int) + (mk.length : Int) ≤ (P : Int) := by omega
        rw [dec_miss h3 hb, decR_none]
        (try (simp -implicitDefEqProofs only [go_sem, hw2, hw3, hb', hw4])); repeat' first | with_reducible exact True.intro | with_reducible refine And.intro ?_ ?_ | with_reducible intro _ | (((with_reducible refine vc_b ?_ ?_) <;> intro _) <;> try (simp -implicitDefEqProofs only [go_sem, hw2, hw3, hb', hw4])) | simp (disch := omega) only [wrapI, wrapU, shl1, shl1', shl1'', shrN, shrN', and_one] | ((with_reducible refine isEx4 ?_); refine ⟨(_, _, _, _), rfl, ?_, ?_⟩)
        all_goals first | omega | (simp; done) | (simp; omega) | skip
        all_goals first | rfl | skip
    · rw [h3, decR_some]
      (try (simp -implicitDefEqProofs only [go_sem, hw2, hw3, hw4])); repeat' first | with_reducible exact True.intro | with_reducible refine And.intro ?_ ?_ | with_reducible intro _ | (((with_reducible refine vc_b ?_ ?_) <;> intro _) <;> try (simp -implicitDefEqProofs only [go_sem, hw2, hw3, hw4])) | simp (disch := omega) only [wrapI, wrapU, shl1, shl1', shl1'', shrN, shrN', and_one] | ((with_reducible refine isEx4 ?_); refine ⟨(_, _, _, _), rfl, ?_, ?_⟩)
      all_goals first | omega | (simp; done) | (simp; omega) | skip
      all_goals first | rfl | skip
end Go.Pw
end
