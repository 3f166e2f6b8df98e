/- A part of the proof. -/
import Derived.Test.YtgeodifpcminpaaCodesZ
set_option linter.all false
open Go Go.Pw Go.Proofs
namespace Go.Pw
set_option linter.unusedSimpArgs false
set_option linter.unusedVariables false
set_option maxRecDepth 100000
set_option maxHeartbeats 3200000
attribute [local congr] cg_pw cg_seqI cg_seqE cg_stepI cg_ev cg_evBin cg_condB cg_condV cg_thenQ cg_blockQ cg_onSome cg_onCells cg_onRow cg_onMap cg_onOpt cg_ghosts cg_ghost cg_evCall cg_part cg_rng cg_guardV cg_frzV cg_frpV cg_ownV cg_owcV cg_occV cg_occX cg_resK cg_res1
attribute [local irreducible] IntKind.wrap bitsOp Option.getD and or

theorem rowsD_len (l : Rows) : (rowsD l).length = l.length := by simp [rowsD]
theorem rowsD_unif (l : Rows) : Unif 1 (rowsD l) = True := unif_map fun _ => rfl
theorem rowsD_empty (l : Rows) : (rowsD l).isEmpty = l.isEmpty := by cases l <;> rfl
def cpT (l : Rows) (n : Nat) : Rows := (l.take n).map cpR
theorem cpT_len {l : Rows} {n : Nat} (h : n ≤ l.length) : (cpT l n).length = n := by simp [cpT]; omega
theorem cpT_snoc {l : Rows} {n : Nat} (h : n < l.length) : rowsD (cpT l n) ++ [.list false (ints (l[n]?.getD default).2)] = rowsD (cpT l (n + 1)) := by
  rw [cpT, cpT, List.take_add_one, List.getElem?_eq_getElem h]
  rw [Option.getD_some, List.map_append]
  simp only [rowsD, List.map_append, Option.toList, List.map_cons, List.map_nil]; rfl
theorem cpT_full (l : Rows) : cpT l l.length = l.map cpR := by simp [cpT]
theorem copyD_eq (c : GCode) : codeD (copyC c) = .agg [.int .i64 c.bits, .int .i64 c.out, .int .i64 c.least, .int .i64 c.most, .list c.words.isEmpty (rowsD (cpT c.words c.words.length)), .list c.next.isEmpty (rowsD (cpT c.next c.next.length))] := by
  rw [cpT_full, cpT_full]; rfl

theorem far_all {c : GCode} (h : c.far = false) : (c.words.length ≤ 20 ∧ ∀ j : Nat, j < c.words.length → (c.words[j]?.getD default).2.length ≤ 20) ∧ (c.next.length ≤ 20 ∧ ∀ j : Nat, j < c.next.length → (c.next[j]?.getD default).2.length ≤ 20) := by
  simp only [GCode.far, Bool.or_eq_false_iff, decide_eq_false_iff_not] at h
  obtain ⟨⟨⟨h1, h2⟩, h3⟩, h4⟩ := h
  rw [any_iff] at h3 h4
  refine ⟨⟨by omega, fun j hj => ?_⟩, by omega, fun j hj => ?_⟩
  · have := h3 j hj; rw [decide_eq_false_iff_not] at this; omega
  · have := h4 j hj; rw [decide_eq_false_iff_not] at this; omega

theorem ref04_Copy_ret (c : GCode) (hf : c.far = false) : Ret E0 F_ref04_Copy [codeD c] (codeD (copyC c)) := by
  rw [copyD_eq]
  refine ret_of_pw dec_ref04_Copy mixed (by simp) fun hwf => ?_
  simp only [wf_int, wf_bool, wf_ints, wf_list, wf_agg, wf_ptr, wf_fn, wf_tup, wf_all_cons, wf_all_nil, wf_all_map, inK_i64, maxLen_eq, List.length_map, ints_len, true_and, and_true, codeD_eq, codeC_eq, rowsD_eq] at hwf
  have hfw := (far_all hf).1
  have hfn := (far_all hf).2
  rw [enter_eq]; unfold pc_ref04_Copy
  (try (simp -implicitDefEqProofs only [go_sem, codeD_eq, codeC_eq])); repeat' first | with_reducible exact True.intro | with_reducible refine And.intro ?_ ?_ | with_reducible intro _ | (((with_reducible refine vc_b ?_ ?_) <;> intro _) <;> try (simp -implicitDefEqProofs only [go_sem, codeD_eq, codeC_eq])) | simp (disch := omega) only [wrapI, wrapU, shl1, shl1', shl1'', shrN, shrN', and_one] | ((with_reducible refine isEx8 ?_); refine ⟨(_, _, _, _, _, _, _, _), rfl, ?_, ?_⟩) | ((with_reducible refine isEx7 ?_); refine ⟨(_, _, _, _, _, _, _), rfl, ?_, ?_⟩) | ((with_reducible refine isEx6 ?_); refine ⟨(_, _, _, _, _, _), rfl, ?_, ?_⟩) | ((with_reducible refine isEx5 ?_); refine ⟨(_, _, _, _, _), rfl, ?_, ?_⟩) | ((with_reducible refine isEx4 ?_); refine ⟨(_, _, _, _), rfl, ?_, ?_⟩) | ((with_reducible refine isEx3 ?_); refine ⟨(_, _, _), rfl, ?_, ?_⟩) | ((with_reducible refine isEx2 ?_); refine ⟨(_, _), rfl, ?_, ?_⟩) | ((with_reducible refine isEx ?_); refine ⟨_, rfl, ?_, ?_⟩)
  refine pw_loopS (α := Int × Bool × (List D)) (l0 := ?l1) (m0 := ?m1) (fun x => [(4, .d (.int .i64 x.1))]) (fun x => [(26, .row 25 1 x.2.1 x.2.2)]) (fun x => 0 ≤ x.1 ∧ x.1 ≤ c.words.length ∧ x.2.1 = decide (x.1 = 0) ∧ x.2.2 = rowsD (cpT c.words x.1.toNat)) (fun x => (c.words.length - x.1).toNat) (?a1_0, ?a1_1, []) ?h01 ?he1 ?he21 ?hI1 ?step1
  case h01 => (simp -implicitDefEqProofs only [go_sem, codeD_eq, codeC_eq, rowsD_eq]; rfl)
  case he1 => rfl
  case he21 => rfl
  case' step1 => (rintro ⟨i, nl, L⟩ hI; try dsimp only at hI)
  case' hI1 => try dsimp only
  · simp; rfl
  · obtain ⟨h1, h2, h3, h4⟩ := hI
    change nl = decide (i = 0) at h3; change L = rowsD (cpT c.words i.toNat) at h4
    subst h3; subst h4
    by_cases hi : i < c.words.length
    · have hl := cpT_len (l := c.words) (n := i.toNat) (by omega)
      have hs := cpT_snoc (l := c.words) (n := i.toNat) (by omega)
      have hr := hfw.2 i.toNat (by omega)
      have h1' : (i + 1).toNat = i.toNat + 1 := by omega
      (try (simp -implicitDefEqProofs only [go_sem, rowsD_len, rowsD_unif, rowD_eq, hl])); repeat' first | with_reducible exact True.intro | with_reducible refine And.intro ?_ ?_ | with_reducible intro _ | (((with_reducible refine vc_b ?_ ?_) <;> intro _) <;> try (simp -implicitDefEqProofs only [go_sem, rowsD_len, rowsD_unif, rowD_eq, hl])) | simp (disch := omega) only [wrapI, wrapU, shl1, shl1', shl1'', shrN, shrN', and_one] | ((with_reducible refine isEx8 ?_); refine ⟨(_, _, _, _, _, _, _, _), rfl, ?_, ?_⟩) | ((with_reducible refine isEx7 ?_); refine ⟨(_, _, _, _, _, _, _), rfl, ?_, ?_⟩) | ((with_reducible refine isEx6 ?_); refine ⟨(_, _, _, _, _, _), rfl, ?_, ?_⟩) | ((with_reducible refine isEx5 ?_); refine ⟨(_, _, _, _, _), rfl, ?_, ?_⟩) | ((with_reducible refine isEx4 ?_); refine ⟨(_, _, _, _), rfl, ?_, ?_⟩) | ((with_reducible refine isEx3 ?_); refine ⟨(_, _, _), rfl, ?_, ?_⟩) | ((with_reducible refine isEx2 ?_); refine ⟨(_, _), rfl, ?_, ?_⟩) | ((with_reducible refine isEx ?_); refine ⟨_, rfl, ?_, ?_⟩)
      all_goals first | omega | (simp; done) | (simp; omega) | skip
      all_goals first | (exfalso; omega) | (simp; omega) | (rw [h1', hs]) | skip
    · have he : i.toNat = c.words.length := by omega
      rw [he]
      have hl := cpT_len (l := c.words) (n := c.words.length) (by omega)
      have hz : decide (i = 0) = c.words.isEmpty := by rw [Bool.eq_iff_iff]; simp only [decide_eq_true_eq, List.isEmpty_iff, ← List.length_eq_zero_iff]; omega
      rw [hz]
      (try (simp -implicitDefEqProofs only [go_sem, rowsD_len, rowsD_unif, hl])); repeat' first | with_reducible exact True.intro | with_reducible refine And.intro ?_ ?_ | with_reducible intro _ | (((with_reducible refine vc_b ?_ ?_) <;> intro _) <;> try (simp -implicitDefEqProofs only [go_sem, rowsD_len, rowsD_unif, hl])) | simp (disch := omega) only [wrapI, wrapU, shl1, shl1', shl1'', shrN, shrN', and_one] | ((with_reducible refine isEx8 ?_); refine ⟨(_, _, _, _, _, _, _, _), rfl, ?_, ?_⟩) | ((with_reducible refine isEx7 ?_); refine ⟨(_, _, _, _, _, _, _), rfl, ?_, ?_⟩) | ((with_reducible refine isEx6 ?_); refine ⟨(_, _, _, _, _, _), rfl, ?_, ?_⟩) | ((with_reducible refine isEx5 ?_); refine ⟨(_, _, _, _, _), rfl, ?_, ?_⟩) | ((with_reducible refine isEx4 ?_); refine ⟨(_, _, _, _), rfl, ?_, ?_⟩) | ((with_reducible refine isEx3 ?_); refine ⟨(_, _, _), rfl, ?_, ?_⟩) | ((with_reducible refine isEx2 ?_); refine ⟨(_, _), rfl, ?_, ?_⟩) | ((with_reducible refine isEx ?_); refine ⟨_, rfl, ?_, ?_⟩)
      all_goals first | omega | (simp; done) | (simp; omega) | skip
      refine pw_loopS (α := Int × Bool × (List D)) (l0 := ?l2) (m0 := ?m2) (fun x => [(5, .d (.int .i64 x.1))]) (fun x => [(45, .row 25 1 x.2.1 x.2.2)]) (fun x => 0 ≤ x.1 ∧ x.1 ≤ c.next.length ∧ x.2.1 = decide (x.1 = 0) ∧ x.2.2 = rowsD (cpT c.next x.1.toNat)) (fun x => (c.next.length - x.1).toNat) (?a2_0, ?a2_1, []) ?h02 ?he2 ?he22 ?hI2 ?step2
      case h02 => (simp -implicitDefEqProofs only [go_sem, codeD_eq, codeC_eq, rowsD_eq]; rfl)
      case he2 => rfl
      case he22 => rfl
      case' step2 => (rintro ⟨k, nl2, L2⟩ hI2; try dsimp only at hI2)
      case' hI2 => try dsimp only
      · simp; rfl
      · obtain ⟨g1, g2, g3, g4⟩ := hI2
        change nl2 = decide (k = 0) at g3; change L2 = rowsD (cpT c.next k.toNat) at g4
        subst g3; subst g4
        by_cases hk : k < c.next.length
        · have gl := cpT_len (l := c.next) (n := k.toNat) (by omega)
          have gs := cpT_snoc (l := c.next) (n := k.toNat) (by omega)
          have gr := hfn.2 k.toNat (by omega)
          have g1' : (k + 1).toNat = k.toNat + 1 := by omega
          (try (simp -implicitDefEqProofs only [go_sem, rowsD_len, rowsD_unif, rowD_eq, gl])); repeat' first | with_reducible exact True.intro | with_reducible refine And.intro ?_ ?_ | with_reducible intro _ | (((with_reducible refine vc_b ?_ ?_) <;> intro _) <;> try (simp -implicitDefEqProofs only [go_sem, rowsD_len, rowsD_unif, rowD_eq, gl])) | simp (disch := omega) only [wrapI, wrapU, shl1, shl1', shl1'', shrN, shrN', and_one] | ((with_reducible refine isEx8 ?_); refine ⟨(_, _, _, _, _, _, _, _), rfl, ?_, ?_⟩) | ((with_reducible refine isEx7 ?_); refine ⟨(_, _, _, _, _, _, _), rfl, ?_, ?_⟩) | ((with_reducible refine isEx6 ?_); refine ⟨(_, _, _, _, _, _), rfl, ?_, ?_⟩) | ((with_reducible refine isEx5 ?_); refine ⟨(_, _, _, _, _), rfl, ?_, ?_⟩) | ((with_reducible refine isEx4 ?_); refine ⟨(_, _, _, _), rfl, ?_, ?_⟩) | ((with_reducible refine isEx3 ?_); refine ⟨(_, _, _), rfl, ?_, ?_⟩) | ((with_reducible refine isEx2 ?_); refine ⟨(_, _), rfl, ?_, ?_⟩) | ((with_reducible refine isEx ?_); refine ⟨_, rfl, ?_, ?_⟩)
          all_goals first | omega | (simp; done) | (simp; omega) | skip
          all_goals first | (exfalso; omega) | (simp; omega) | (rw [g1', gs]) | skip
        · have ge : k.toNat = c.next.length := by omega
          rw [ge]
          have gl := cpT_len (l := c.next) (n := c.next.length) (by omega)
          have gz : decide (k = 0) = c.next.isEmpty := by rw [Bool.eq_iff_iff]; simp only [decide_eq_true_eq, List.isEmpty_iff, ← List.length_eq_zero_iff]; omega
          rw [gz]
          (try (simp -implicitDefEqProofs only [go_sem, rowsD_len, rowsD_unif, hl, gl])); repeat' first | with_reducible exact True.intro | with_reducible refine And.intro ?_ ?_ | with_reducible intro _ | (((with_reducible refine vc_b ?_ ?_) <;> intro _) <;> try (simp -implicitDefEqProofs only [go_sem, rowsD_len, rowsD_unif, hl, gl])) | simp (disch := omega) only [wrapI, wrapU, shl1, shl1', shl1'', shrN, shrN', and_one] | ((with_reducible refine isEx8 ?_); refine ⟨(_, _, _, _, _, _, _, _), rfl, ?_, ?_⟩) | ((with_reducible refine isEx7 ?_); refine ⟨(_, _, _, _, _, _, _), rfl, ?_, ?_⟩) | ((with_reducible refine isEx6 ?_); refine ⟨(_, _, _, _, _, _), rfl, ?_, ?_⟩) | ((with_reducible refine isEx5 ?_); refine ⟨(_, _, _, _, _), rfl, ?_, ?_⟩) | ((with_reducible refine isEx4 ?_); refine ⟨(_, _, _, _), rfl, ?_, ?_⟩) | ((with_reducible refine isEx3 ?_); refine ⟨(_, _, _), rfl, ?_, ?_⟩) | ((with_reducible refine isEx2 ?_); refine ⟨(_, _), rfl, ?_, ?_⟩) | ((with_reducible refine isEx ?_); refine ⟨_, rfl, ?_, ?_⟩)
          all_goals first | omega | (simp; done) | (simp; omega) | skip
          rfl


theorem law04_sameCode_ret (c d : GCode) (h1 : d.bits = c.bits) (h2 : d.out = c.out) (h3 : d.least = c.least) (h4 : d.most = c.most)
    (h5 : d.words.length = c.words.length) (h6 : d.next.length = c.next.length)
    (h7 : ∀ i : Nat, (d.words[i]?.getD default).2 = (c.words[i]?.getD default).2) (h8 : ∀ i : Nat, (d.next[i]?.getD default).2 = (c.next[i]?.getD default).2) :
    Ret E0 F_law04_sameCode [codeD d, codeD c] (.bool true) := by
  refine ret_of_pw dec_law04_sameCode mixed (by simp) fun hwf => ?_
  simp only [wf_int, wf_bool, wf_ints, wf_list, wf_agg, wf_ptr, wf_fn, wf_tup, wf_all_cons, wf_all_nil, wf_all_map, inK_i64, maxLen_eq, List.length_map, ints_len, true_and, and_true, codeD_eq, codeC_eq, rowsD_eq] at hwf
  rw [enter_eq]; unfold pc_law04_sameCode
  (try (simp -implicitDefEqProofs only [go_sem, codeD_eq, codeC_eq, rowsD_eq, h1, h2, h3, h4, h5, h6])); repeat' first | with_reducible exact True.intro | with_reducible refine And.intro ?_ ?_ | with_reducible intro _ | (((with_reducible refine vc_b ?_ ?_) <;> intro _) <;> try (simp -implicitDefEqProofs only [go_sem, codeD_eq, codeC_eq, rowsD_eq, h1, h2, h3, h4, h5, h6])) | simp (disch := omega) only [wrapI, wrapU, shl1, shl1', shl1'', shrN, shrN', and_one] | ((with_reducible refine isEx8 ?_); refine ⟨(_, _, _, _, _, _, _, _), rfl, ?_, ?_⟩) | ((with_reducible refine isEx7 ?_); refine ⟨(_, _, _, _, _, _, _), rfl, ?_, ?_⟩) | ((with_reducible refine isEx6 ?_); refine ⟨(_, _, _, _, _, _), rfl, ?_, ?_⟩) | ((with_reducible refine isEx5 ?_); refine ⟨(_, _, _, _, _), rfl, ?_, ?_⟩) | ((with_reducible refine isEx4 ?_); refine ⟨(_, _, _, _), rfl, ?_, ?_⟩) | ((with_reducible refine isEx3 ?_); refine ⟨(_, _, _), rfl, ?_, ?_⟩) | ((with_reducible refine isEx2 ?_); refine ⟨(_, _), rfl, ?_, ?_⟩) | ((with_reducible refine isEx ?_); refine ⟨_, rfl, ?_, ?_⟩)
  all_goals first | omega | (simp; done) | (simp; omega) | skip
  refine pw_loopS (α := Int) (l0 := ?l3) (m0 := ?m3) (fun x => [(5, .d (.int .i64 x))]) (fun x => []) (fun x => 0 ≤ x ∧ x ≤ c.words.length) (fun x => (c.words.length - x).toNat) ?a3_0 ?h03 ?he3 ?he23 ?hI3 ?step3
  case h03 => (simp -implicitDefEqProofs only [go_sem, codeD_eq, codeC_eq, rowsD_eq, h1, h2, h3, h4, h5, h6]; rfl)
  case he3 => rfl
  case he23 => rfl
  case' step3 => (rintro i hI; try dsimp only at hI)
  case' hI3 => try dsimp only
  · simp
  · obtain ⟨hi0, hi1⟩ := hI
    by_cases hi : i < c.words.length
    · have cs := fun (a b : Bool) => law04_sameInts_ret a b (c.words[i.toNat]?.getD default).2 (c.words[i.toNat]?.getD default).2
      simp only [decide_true] at cs
      (try (simp -implicitDefEqProofs only [go_sem, codeD_eq, codeC_eq, rowsD_eq, rowD_eq, h1, h2, h3, h4, h5, h6, h7])); repeat' first | with_reducible exact True.intro | with_reducible refine And.intro ?_ ?_ | with_reducible intro _ | (((with_reducible refine isCall ?_); first | refine call_b (cs _ _) rfl ?_ ?_ | refine call_d (cs _ _) rfl ?_ | refine call_sb (cs _ _) rfl ?_ ?_ | refine call_s (cs _ _) rfl rfl ?_) <;> try (simp -implicitDefEqProofs only [go_sem, codeD_eq, codeC_eq, rowsD_eq, rowD_eq, h1, h2, h3, h4, h5, h6, h7])) | (((with_reducible refine vc_b ?_ ?_) <;> intro _) <;> try (simp -implicitDefEqProofs only [go_sem, codeD_eq, codeC_eq, rowsD_eq, rowD_eq, h1, h2, h3, h4, h5, h6, h7])) | simp (disch := omega) only [wrapI, wrapU, shl1, shl1', shl1'', shrN, shrN', and_one] | ((with_reducible refine isEx8 ?_); refine ⟨(_, _, _, _, _, _, _, _), rfl, ?_, ?_⟩) | ((with_reducible refine isEx7 ?_); refine ⟨(_, _, _, _, _, _, _), rfl, ?_, ?_⟩) | ((with_reducible refine isEx6 ?_); refine ⟨(_, _, _, _, _, _), rfl, ?_, ?_⟩) | ((with_reducible refine isEx5 ?_); refine ⟨(_, _, _, _, _), rfl, ?_, ?_⟩) | ((with_reducible refine isEx4 ?_); refine ⟨(_, _, _, _), rfl, ?_, ?_⟩) | ((with_reducible refine isEx3 ?_); refine ⟨(_, _, _), rfl, ?_, ?_⟩) | ((with_reducible refine isEx2 ?_); refine ⟨(_, _), rfl, ?_, ?_⟩) | ((with_reducible refine isEx ?_); refine ⟨_, rfl, ?_, ?_⟩)
      all_goals first | omega | (simp; done) | (simp; omega) | skip
      skip
    · (try (simp -implicitDefEqProofs only [go_sem, codeD_eq, codeC_eq, rowsD_eq, h1, h2, h3, h4, h5, h6])); repeat' first | with_reducible exact True.intro | with_reducible refine And.intro ?_ ?_ | with_reducible intro _ | (((with_reducible refine vc_b ?_ ?_) <;> intro _) <;> try (simp -implicitDefEqProofs only [go_sem, codeD_eq, codeC_eq, rowsD_eq, h1, h2, h3, h4, h5, h6])) | simp (disch := omega) only [wrapI, wrapU, shl1, shl1', shl1'', shrN, shrN', and_one] | ((with_reducible refine isEx8 ?_); refine ⟨(_, _, _, _, _, _, _, _), rfl, ?_, ?_⟩) | ((with_reducible refine isEx7 ?_); refine ⟨(_, _, _, _, _, _, _), rfl, ?_, ?_⟩) | ((with_reducible refine isEx6 ?_); refine ⟨(_, _, _, _, _, _), rfl, ?_, ?_⟩) | ((with_reducible refine isEx5 ?_); refine ⟨(_, _, _, _, _), rfl, ?_, ?_⟩) | ((with_reducible refine isEx4 ?_); refine ⟨(_, _, _, _), rfl, ?_, ?_⟩) | ((with_reducible refine isEx3 ?_); refine ⟨(_, _, _), rfl, ?_, ?_⟩) | ((with_reducible refine isEx2 ?_); refine ⟨(_, _), rfl, ?_, ?_⟩) | ((with_reducible refine isEx ?_); refine ⟨_, rfl, ?_, ?_⟩)
      all_goals first | omega | (simp; done) | (simp; omega) | skip
      refine pw_loopS (α := Int) (l0 := ?l4) (m0 := ?m4) (fun x => [(6, .d (.int .i64 x))]) (fun x => []) (fun x => 0 ≤ x ∧ x ≤ c.next.length) (fun x => (c.next.length - x).toNat) ?a4_0 ?h04 ?he4 ?he24 ?hI4 ?step4
      case h04 => (simp -implicitDefEqProofs only [go_sem, codeD_eq, codeC_eq, rowsD_eq, h1, h2, h3, h4, h5, h6]; rfl)
      case he4 => rfl
      case he24 => rfl
      case' step4 => (rintro k hI2; try dsimp only at hI2)
      case' hI4 => try dsimp only
      · simp
      · obtain ⟨hk0, hk1⟩ := hI2
        by_cases hk : k < c.next.length
        · have cs := fun (a b : Bool) => law04_sameInts_ret a b (c.next[k.toNat]?.getD default).2 (c.next[k.toNat]?.getD default).2
          simp only [decide_true] at cs
          (try (simp -implicitDefEqProofs only [go_sem, codeD_eq, codeC_eq, rowsD_eq, rowD_eq, h1, h2, h3, h4, h5, h6, h8])); repeat' first | with_reducible exact True.intro | with_reducible refine And.intro ?_ ?_ | with_reducible intro _ | (((with_reducible refine isCall ?_); first | refine call_b (cs _ _) rfl ?_ ?_ | refine call_d (cs _ _) rfl ?_ | refine call_sb (cs _ _) rfl ?_ ?_ | refine call_s (cs _ _) rfl rfl ?_) <;> try (simp -implicitDefEqProofs only [go_sem, codeD_eq, codeC_eq, rowsD_eq, rowD_eq, h1, h2, h3, h4, h5, h6, h8])) | (((with_reducible refine vc_b ?_ ?_) <;> intro _) <;> try (simp -implicitDefEqProofs only [go_sem, codeD_eq, codeC_eq, rowsD_eq, rowD_eq, h1, h2, h3, h4, h5, h6, h8])) | simp (disch := omega) only [wrapI, wrapU, shl1, shl1', shl1'', shrN, shrN', and_one] | ((with_reducible refine isEx8 ?_); refine ⟨(_, _, _, _, _, _, _, _), rfl, ?_, ?_⟩) | ((with_reducible refine isEx7 ?_); refine ⟨(_, _, _, _, _, _, _), rfl, ?_, ?_⟩) | ((with_reducible refine isEx6 ?_); refine ⟨(_, _, _, _, _, _), rfl, ?_, ?_⟩) | ((with_reducible refine isEx5 ?_); refine ⟨(_, _, _, _, _), rfl, ?_, ?_⟩) | ((with_reducible refine isEx4 ?_); refine ⟨(_, _, _, _), rfl, ?_, ?_⟩) | ((with_reducible refine isEx3 ?_); refine ⟨(_, _, _), rfl, ?_, ?_⟩) | ((with_reducible refine isEx2 ?_); refine ⟨(_, _), rfl, ?_, ?_⟩) | ((with_reducible refine isEx ?_); refine ⟨_, rfl, ?_, ?_⟩)
          all_goals first | omega | (simp; done) | (simp; omega) | skip
          skip
        · (try (simp -implicitDefEqProofs only [go_sem, codeD_eq, codeC_eq, rowsD_eq, h1, h2, h3, h4, h5, h6])); repeat' first | with_reducible exact True.intro | with_reducible refine And.intro ?_ ?_ | with_reducible intro _ | (((with_reducible refine vc_b ?_ ?_) <;> intro _) <;> try (simp -implicitDefEqProofs only [go_sem, codeD_eq, codeC_eq, rowsD_eq, h1, h2, h3, h4, h5, h6])) | simp (disch := omega) only [wrapI, wrapU, shl1, shl1', shl1'', shrN, shrN', and_one] | ((with_reducible refine isEx8 ?_); refine ⟨(_, _, _, _, _, _, _, _), rfl, ?_, ?_⟩) | ((with_reducible refine isEx7 ?_); refine ⟨(_, _, _, _, _, _, _), rfl, ?_, ?_⟩) | ((with_reducible refine isEx6 ?_); refine ⟨(_, _, _, _, _, _), rfl, ?_, ?_⟩) | ((with_reducible refine isEx5 ?_); refine ⟨(_, _, _, _, _), rfl, ?_, ?_⟩) | ((with_reducible refine isEx4 ?_); refine ⟨(_, _, _, _), rfl, ?_, ?_⟩) | ((with_reducible refine isEx3 ?_); refine ⟨(_, _, _), rfl, ?_, ?_⟩) | ((with_reducible refine isEx2 ?_); refine ⟨(_, _), rfl, ?_, ?_⟩) | ((with_reducible refine isEx ?_); refine ⟨_, rfl, ?_, ?_⟩)
          all_goals first | omega | (simp; done) | (simp; omega) | skip
          skip
end Go.Pw
