/- A part of the proof. -/
import Derived.Test.YtgeodifpcminpaaCodesU
import Derived.Test.YtgeodifpcminpaaCodesG
set_option linter.all false
open Go Go.Pw Go.Proofs
namespace Go.Pw
set_option linter.unusedSimpArgs false
set_option linter.unusedVariables false
set_option maxRecDepth 100000
set_option maxHeartbeats 1600000
attribute [local congr] cg_pw cg_seqI cg_seqE cg_stepI cg_ev cg_evBin cg_condB cg_condV cg_thenQ cg_blockQ cg_onSome cg_onCells cg_onRow cg_onMap cg_onOpt cg_ghosts cg_ghost cg_evCall cg_part cg_rng cg_guardV cg_frzV cg_frpV cg_ownV cg_owcV cg_occV cg_occX cg_resK cg_res1
attribute [local irreducible] IntKind.wrap bitsOp Option.getD and or

theorem ref04_Spread_ret (c : GCode) (y0 : Int) (h : 0 ≤ c.out ∧ c.out ≤ 5) (hx : 0 ≤ y0 ∧ y0 ≤ 1000) : Ret E0 F_ref04_Spread [codeD c, .int .i64 y0] (.list (bitsOf c.out.toNat y0).isEmpty (ints (bitsOf c.out.toNat y0))) := by
  refine ret_of_pw dec_ref04_Spread mixed (by simp) fun hwf => ?_
  rw [enter_eq]; unfold pc_ref04_Spread
  (try (simp -implicitDefEqProofs only [go_sem, codeD_eq, codeC_eq, rowsD_eq])); repeat' first | with_reducible exact True.intro | with_reducible refine And.intro ?_ ?_ | with_reducible intro _ | (((with_reducible refine vc_b ?_ ?_) <;> intro _) <;> try (simp -implicitDefEqProofs only [go_sem, codeD_eq, codeC_eq, rowsD_eq])) | simp (disch := omega) only [wrapI, wrapU, shl1, shl1', shl1'', shrN, shrN', and_one] | ((with_reducible refine isEx8 ?_); refine ⟨(_, _, _, _, _, _, _, _), rfl, ?_, ?_⟩) | ((with_reducible refine isEx7 ?_); refine ⟨(_, _, _, _, _, _, _), rfl, ?_, ?_⟩) | ((with_reducible refine isEx6 ?_); refine ⟨(_, _, _, _, _, _), rfl, ?_, ?_⟩) | ((with_reducible refine isEx5 ?_); refine ⟨(_, _, _, _, _), rfl, ?_, ?_⟩) | ((with_reducible refine isEx4 ?_); refine ⟨(_, _, _, _), rfl, ?_, ?_⟩) | ((with_reducible refine isEx3 ?_); refine ⟨(_, _, _), rfl, ?_, ?_⟩) | ((with_reducible refine isEx2 ?_); refine ⟨(_, _), rfl, ?_, ?_⟩) | ((with_reducible refine isEx ?_); refine ⟨_, rfl, ?_, ?_⟩)
  all_goals (try simp (disch := omega) only [wrapI, wrapU, shl1, shl1', shl1'', shrN, shrN', and_one] at *)
  refine pw_loopS (α := Int × Bool × (List Int)) (l0 := ?l1) (m0 := ?m1) (fun x => [(6, .d (.int .i64 x.1))]) (fun x => [(21, .row T_int 1 x.2.1 (ints x.2.2))]) (fun x => -1 ≤ x.1 ∧ x.1 < c.out ∧ x.2.2.length + x.1 = c.out - 1 ∧ x.2.1 = x.2.2.isEmpty ∧ x.2.2 ++ bitsOf (x.1+1).toNat y0 = bitsOf c.out.toNat y0) (fun x => (x.1+1).toNat) (?a1_0, ?a1_1, []) ?h01 ?he1 ?he21 ?hI1 ?step1
  case h01 => (simp -implicitDefEqProofs only [go_sem]; rfl)
  case he1 => rfl
  case he21 => rfl
  case' step1 => (rintro ⟨i, nl, acc⟩ hI; try dsimp only at hI)
  case' hI1 => try dsimp only
  · simp; (try omega)
  · obtain ⟨h1, h2, h3, h4, h5⟩ := hI
    by_cases hi : 0 ≤ i
    · have hb : bitsOf (i + 1).toNat y0 = (y0 / 2 ^ i.toNat % 2) :: bitsOf i.toNat y0 := by rw [show (i + 1).toNat = i.toNat + 1 by omega, bitsOf]
      rw [hb] at h5
      have hu : IntKind.u64.wrap i = i := wrapU _ (by omega)
      (try (simp -implicitDefEqProofs only [go_sem, hu])); repeat' first | with_reducible exact True.intro | with_reducible refine And.intro ?_ ?_ | with_reducible intro _ | (((with_reducible refine vc_b ?_ ?_) <;> intro _) <;> try (simp -implicitDefEqProofs only [go_sem, hu])) | simp (disch := omega) only [wrapI, wrapU, shl1, shl1', shl1'', shrN, shrN', and_one] | ((with_reducible refine isEx8 ?_); refine ⟨(_, _, _, _, _, _, _, _), rfl, ?_, ?_⟩) | ((with_reducible refine isEx7 ?_); refine ⟨(_, _, _, _, _, _, _), rfl, ?_, ?_⟩) | ((with_reducible refine isEx6 ?_); refine ⟨(_, _, _, _, _, _), rfl, ?_, ?_⟩) | ((with_reducible refine isEx5 ?_); refine ⟨(_, _, _, _, _), rfl, ?_, ?_⟩) | ((with_reducible refine isEx4 ?_); refine ⟨(_, _, _, _), rfl, ?_, ?_⟩) | ((with_reducible refine isEx3 ?_); refine ⟨(_, _, _), rfl, ?_, ?_⟩) | ((with_reducible refine isEx2 ?_); refine ⟨(_, _), rfl, ?_, ?_⟩) | ((with_reducible refine isEx ?_); refine ⟨_, rfl, ?_, ?_⟩)
      all_goals (try simp (disch := omega) only [wrapI, wrapU, shl1, shl1', shl1'', shrN, shrN', and_one] at *)
      all_goals first | omega | (simp; done) | (simp; omega) | skip
      all_goals (rw [← h5, show (i - 1 + 1).toNat = i.toNat by omega]; simp)
    · have h0 : (i + 1).toNat = 0 := by omega
      rw [h0, bitsOf, List.append_nil] at h5
      (try (simp -implicitDefEqProofs only [go_sem])); repeat' first | with_reducible exact True.intro | with_reducible refine And.intro ?_ ?_ | with_reducible intro _ | (((with_reducible refine vc_b ?_ ?_) <;> intro _) <;> try (simp -implicitDefEqProofs only [go_sem])) | simp (disch := omega) only [wrapI, wrapU, shl1, shl1', shl1'', shrN, shrN', and_one] | ((with_reducible refine isEx8 ?_); refine ⟨(_, _, _, _, _, _, _, _), rfl, ?_, ?_⟩) | ((with_reducible refine isEx7 ?_); refine ⟨(_, _, _, _, _, _, _), rfl, ?_, ?_⟩) | ((with_reducible refine isEx6 ?_); refine ⟨(_, _, _, _, _, _), rfl, ?_, ?_⟩) | ((with_reducible refine isEx5 ?_); refine ⟨(_, _, _, _, _), rfl, ?_, ?_⟩) | ((with_reducible refine isEx4 ?_); refine ⟨(_, _, _, _), rfl, ?_, ?_⟩) | ((with_reducible refine isEx3 ?_); refine ⟨(_, _, _), rfl, ?_, ?_⟩) | ((with_reducible refine isEx2 ?_); refine ⟨(_, _), rfl, ?_, ?_⟩) | ((with_reducible refine isEx ?_); refine ⟨_, rfl, ?_, ?_⟩)
      all_goals first | omega | (simp; done) | (simp; omega) | skip
      all_goals (rw [← h5, h4])

theorem ref04_same_ret (n1 n2 : Bool) (xs ys : List Int) : Ret E0 F_ref04_same [.list n1 (ints xs), .list n2 (ints ys)] (.bool (decide (xs = ys))) := by
  refine ret_of_pw dec_ref04_same mixed (by simp) fun hwf => ?_
  simp only [wf_int, wf_bool, wf_ints, wf_list, wf_agg, wf_ptr, wf_fn, wf_tup, wf_all_cons, wf_all_nil, wf_all_map, inK_i64, maxLen_eq, List.length_map, ints_len, true_and, and_true] at hwf
  rw [enter_eq]; unfold pc_ref04_same
  simp -implicitDefEqProofs only [go_sem]
  refine pw_loopS (α := Int) (l0 := ?l2) (m0 := ?m2) (fun x => [(5, .d (.int .i64 x))]) (fun x => []) (fun x => 0 ≤ x ∧ x ≤ xs.length ∧ x ≤ ys.length ∧ xs.take x.toNat = ys.take x.toNat) (fun x => (xs.length - x).toNat) ?a2_0 ?h02 ?he2 ?he22 ?hI2 ?step2
  case h02 => (simp -implicitDefEqProofs only [go_sem]; rfl)
  case he2 => rfl
  case he22 => rfl
  case' step2 => (rintro i hI; try dsimp only at hI)
  case' hI2 => try dsimp only
  · simp
  · obtain ⟨hi0, hi1, hi2, heq⟩ := hI
    by_cases hi : i < xs.length ∧ i < ys.length
    · have hx := take_get (xs := xs) (i := i.toNat) (by omega)
      have hy := take_get (xs := ys) (i := i.toNat) (by omega)
      have hii : (i + 1).toNat = i.toNat + 1 := by omega
      by_cases he : xs[i.toNat]?.getD 0 = ys[i.toNat]?.getD 0
      · (try (simp -implicitDefEqProofs only [go_sem])); repeat' first | with_reducible exact True.intro | with_reducible refine And.intro ?_ ?_ | with_reducible intro _ | (((with_reducible refine vc_b ?_ ?_) <;> intro _) <;> try (simp -implicitDefEqProofs only [go_sem])) | simp (disch := omega) only [wrapI, wrapU, shl1, shl1', shl1'', shrN, shrN', and_one] | ((with_reducible refine isEx8 ?_); refine ⟨(_, _, _, _, _, _, _, _), rfl, ?_, ?_⟩) | ((with_reducible refine isEx7 ?_); refine ⟨(_, _, _, _, _, _, _), rfl, ?_, ?_⟩) | ((with_reducible refine isEx6 ?_); refine ⟨(_, _, _, _, _, _), rfl, ?_, ?_⟩) | ((with_reducible refine isEx5 ?_); refine ⟨(_, _, _, _, _), rfl, ?_, ?_⟩) | ((with_reducible refine isEx4 ?_); refine ⟨(_, _, _, _), rfl, ?_, ?_⟩) | ((with_reducible refine isEx3 ?_); refine ⟨(_, _, _), rfl, ?_, ?_⟩) | ((with_reducible refine isEx2 ?_); refine ⟨(_, _), rfl, ?_, ?_⟩) | ((with_reducible refine isEx ?_); refine ⟨_, rfl, ?_, ?_⟩)
        all_goals (try simp (disch := omega) only [wrapI, wrapU, shl1, shl1', shl1'', shrN, shrN', and_one] at *)
        all_goals first | omega | (simp; done) | (simp; omega) | skip
        all_goals (rw [hii, hx, hy, heq, he])
      · have hne : ¬ xs = ys := fun e => he (by rw [e])
        (try (simp -implicitDefEqProofs only [go_sem])); repeat' first | with_reducible exact True.intro | with_reducible refine And.intro ?_ ?_ | with_reducible intro _ | (((with_reducible refine vc_b ?_ ?_) <;> intro _) <;> try (simp -implicitDefEqProofs only [go_sem])) | simp (disch := omega) only [wrapI, wrapU, shl1, shl1', shl1'', shrN, shrN', and_one] | ((with_reducible refine isEx8 ?_); refine ⟨(_, _, _, _, _, _, _, _), rfl, ?_, ?_⟩) | ((with_reducible refine isEx7 ?_); refine ⟨(_, _, _, _, _, _, _), rfl, ?_, ?_⟩) | ((with_reducible refine isEx6 ?_); refine ⟨(_, _, _, _, _, _), rfl, ?_, ?_⟩) | ((with_reducible refine isEx5 ?_); refine ⟨(_, _, _, _, _), rfl, ?_, ?_⟩) | ((with_reducible refine isEx4 ?_); refine ⟨(_, _, _, _), rfl, ?_, ?_⟩) | ((with_reducible refine isEx3 ?_); refine ⟨(_, _, _), rfl, ?_, ?_⟩) | ((with_reducible refine isEx2 ?_); refine ⟨(_, _), rfl, ?_, ?_⟩) | ((with_reducible refine isEx ?_); refine ⟨_, rfl, ?_, ?_⟩)
        all_goals first | omega | (simp; done) | (simp; omega) | skip
        all_goals first | (exfalso; omega) | simp [hne]
    · by_cases hl : xs.length = ys.length
      · have hxy : xs = ys := by
          have h1 : xs.take i.toNat = xs := List.take_of_length_le (by omega)
          have h2 : ys.take i.toNat = ys := List.take_of_length_le (by omega)
          rw [← h1, heq, h2]
        (try (simp -implicitDefEqProofs only [go_sem])); repeat' first | with_reducible exact True.intro | with_reducible refine And.intro ?_ ?_ | with_reducible intro _ | (((with_reducible refine vc_b ?_ ?_) <;> intro _) <;> try (simp -implicitDefEqProofs only [go_sem])) | simp (disch := omega) only [wrapI, wrapU, shl1, shl1', shl1'', shrN, shrN', and_one] | ((with_reducible refine isEx8 ?_); refine ⟨(_, _, _, _, _, _, _, _), rfl, ?_, ?_⟩) | ((with_reducible refine isEx7 ?_); refine ⟨(_, _, _, _, _, _, _), rfl, ?_, ?_⟩) | ((with_reducible refine isEx6 ?_); refine ⟨(_, _, _, _, _, _), rfl, ?_, ?_⟩) | ((with_reducible refine isEx5 ?_); refine ⟨(_, _, _, _, _), rfl, ?_, ?_⟩) | ((with_reducible refine isEx4 ?_); refine ⟨(_, _, _, _), rfl, ?_, ?_⟩) | ((with_reducible refine isEx3 ?_); refine ⟨(_, _, _), rfl, ?_, ?_⟩) | ((with_reducible refine isEx2 ?_); refine ⟨(_, _), rfl, ?_, ?_⟩) | ((with_reducible refine isEx ?_); refine ⟨_, rfl, ?_, ?_⟩)
        all_goals first | omega | (simp; done) | (simp; omega) | skip
        all_goals simp [hxy]
      · have hne : ¬ xs = ys := fun e => hl (by rw [e])
        have hl2 : ¬ (xs.length : Int) = ys.length := by omega
        (try (simp -implicitDefEqProofs only [go_sem])); repeat' first | with_reducible exact True.intro | with_reducible refine And.intro ?_ ?_ | with_reducible intro _ | (((with_reducible refine vc_b ?_ ?_) <;> intro _) <;> try (simp -implicitDefEqProofs only [go_sem])) | simp (disch := omega) only [wrapI, wrapU, shl1, shl1', shl1'', shrN, shrN', and_one] | ((with_reducible refine isEx8 ?_); refine ⟨(_, _, _, _, _, _, _, _), rfl, ?_, ?_⟩) | ((with_reducible refine isEx7 ?_); refine ⟨(_, _, _, _, _, _, _), rfl, ?_, ?_⟩) | ((with_reducible refine isEx6 ?_); refine ⟨(_, _, _, _, _, _), rfl, ?_, ?_⟩) | ((with_reducible refine isEx5 ?_); refine ⟨(_, _, _, _, _), rfl, ?_, ?_⟩) | ((with_reducible refine isEx4 ?_); refine ⟨(_, _, _, _), rfl, ?_, ?_⟩) | ((with_reducible refine isEx3 ?_); refine ⟨(_, _, _), rfl, ?_, ?_⟩) | ((with_reducible refine isEx2 ?_); refine ⟨(_, _), rfl, ?_, ?_⟩) | ((with_reducible refine isEx ?_); refine ⟨_, rfl, ?_, ?_⟩)
        all_goals first | omega | (simp; done) | (simp; omega) | skip
        all_goals first | (exfalso; omega) | simp [hne, hl2]

theorem ref04_Stream_ret (c : GCode) (h : c.ok = true) (s : Int) (nl : Bool) (l : List Int) (hs : c.isState s = true) (hw : ∀ w, w ∈ l → c.isWord w = true) (hl : l.length ≤ 24) :
    Ret E0 F_ref04_Stream [codeD c, .int .i64 s, .list nl (ints l)] (.tup [.list (c.stream s l).1.isEmpty (ints (c.stream s l).1), .int .i64 (c.stream s l).2]) := by
  refine ret_of_pw dec_ref04_Stream mixed (by simp) fun hwf => ?_
  have hd := GCode.ok_head h
  rw [enter_eq]; unfold pc_ref04_Stream
  (try (simp -implicitDefEqProofs only [go_sem, codeD_eq, codeC_eq, rowsD_eq])); repeat' first | with_reducible exact True.intro | with_reducible refine And.intro ?_ ?_ | with_reducible intro _ | (((with_reducible refine vc_b ?_ ?_) <;> intro _) <;> try (simp -implicitDefEqProofs only [go_sem, codeD_eq, codeC_eq, rowsD_eq])) | simp (disch := omega) only [wrapI, wrapU, shl1, shl1', shl1'', shrN, shrN', and_one] | ((with_reducible refine isEx8 ?_); refine ⟨(_, _, _, _, _, _, _, _), rfl, ?_, ?_⟩) | ((with_reducible refine isEx7 ?_); refine ⟨(_, _, _, _, _, _, _), rfl, ?_, ?_⟩) | ((with_reducible refine isEx6 ?_); refine ⟨(_, _, _, _, _, _), rfl, ?_, ?_⟩) | ((with_reducible refine isEx5 ?_); refine ⟨(_, _, _, _, _), rfl, ?_, ?_⟩) | ((with_reducible refine isEx4 ?_); refine ⟨(_, _, _, _), rfl, ?_, ?_⟩) | ((with_reducible refine isEx3 ?_); refine ⟨(_, _, _), rfl, ?_, ?_⟩) | ((with_reducible refine isEx2 ?_); refine ⟨(_, _), rfl, ?_, ?_⟩) | ((with_reducible refine isEx ?_); refine ⟨_, rfl, ?_, ?_⟩)
  refine pw_loopS (α := Int × Int × Bool × (List Int)) (l0 := ?l3) (m0 := ?m3) (fun x => [(8, .d (.int .i64 x.1)), (1, .d (.int .i64 x.2.1))]) (fun x => [(29, .row T_int 1 x.2.2.1 (ints x.2.2.2))]) (fun x => 0 ≤ x.1 ∧ x.1 ≤ l.length ∧ c.isState x.2.1 = true ∧ x.2.2.1 = x.2.2.2.isEmpty ∧ x.2.2.2.length ≤ 5 * x.1 ∧ (x.2.2.2 ++ (c.stream x.2.1 (l.drop x.1.toNat)).1, (c.stream x.2.1 (l.drop x.1.toNat)).2) = c.stream s l) (fun x => (l.length - x.1).toNat) (?a3_0, s, ?a3_2, []) ?h03 ?he3 ?he23 ?hI3 ?step3
  case h03 => (simp -implicitDefEqProofs only [go_sem]; rfl)
  case he3 => rfl
  case he23 => rfl
  case' step3 => (rintro ⟨i, t, n2, acc⟩ hI; try dsimp only at hI)
  case' hI3 => try dsimp only
  · simp [hs]
  · obtain ⟨hi0, hi1, ht, hn, ha, heq⟩ := hI
    by_cases hi : i < l.length
    · have hiw : c.isWord (l[i.toNat]?.getD 0) = true := hw _ (getD_mem0 (by omega))
      have hr := GCode.wrd_range c h ht hiw
      have hp5 : (2 : Int) ^ c.out.toNat ≤ 32 := by
        have : c.out.toNat = 1 ∨ c.out.toNat = 2 ∨ c.out.toNat = 3 ∨ c.out.toNat = 4 ∨ c.out.toNat = 5 := by omega
        rcases this with h | h | h | h | h <;> rw [h] <;> decide
      have hst := GCode.nxt_state h ht hiw
      have cs := ref04_Spread_ret c (c.wrd t (l[i.toNat]?.getD 0)) (by omega) (by omega)
      have hbl := bitsOf_length c.out.toNat (c.wrd t (l[i.toNat]?.getD 0))
      have hdr : l.drop i.toNat = (l[i.toNat]?.getD 0) :: l.drop (i + 1).toNat := by rw [drop_get (xs := l) (i := i.toNat) (by omega), show (i + 1).toNat = i.toNat + 1 by omega]
      rw [hdr] at heq
      simp only [GCode.stream] at heq
      have ht' := ht
      have hiw' := hiw
      simp only [GCode.isState, GCode.isWord, inR, decide_eq_true_eq] at ht' hiw'
      have hr1 := GCode.ok_words h t.toNat (by omega)
      have hr2 := GCode.ok_next h t.toNat (by omega)
      have hnc : ((2 ^ c.bits.toNat : Nat) : Int) = 2 ^ c.bits.toNat := by simp
      generalize hw0 : l[i.toNat]?.getD 0 = w at *
      generalize bitsOf c.out.toNat (c.wrd t w) = B at *
      have hBe : B.isEmpty = false := by cases B with
        | nil => simp at hbl; omega
        | cons _ _ => rfl
      (try (simp -implicitDefEqProofs only [go_sem, codeD_eq, codeC_eq, rowsD_eq, rowD_eq, c.nxt_eq, c.wrd_eq, hw0])); repeat' first | with_reducible exact True.intro | with_reducible refine And.intro ?_ ?_ | with_reducible intro _ | (((with_reducible refine isCall ?_); first | refine call_b (cs) rfl ?_ ?_ | refine call_d (cs) rfl ?_ | refine call_sb (cs) rfl ?_ ?_ | refine call_s (cs) rfl rfl ?_) <;> try (simp -implicitDefEqProofs only [go_sem, codeD_eq, codeC_eq, rowsD_eq, rowD_eq, c.nxt_eq, c.wrd_eq, hw0])) | (((with_reducible refine vc_b ?_ ?_) <;> intro _) <;> try (simp -implicitDefEqProofs only [go_sem, codeD_eq, codeC_eq, rowsD_eq, rowD_eq, c.nxt_eq, c.wrd_eq, hw0])) | simp (disch := omega) only [wrapI, wrapU, shl1, shl1', shl1'', shrN, shrN', and_one] | ((with_reducible refine isEx8 ?_); refine ⟨(_, _, _, _, _, _, _, _), rfl, ?_, ?_⟩) | ((with_reducible refine isEx7 ?_); refine ⟨(_, _, _, _, _, _, _), rfl, ?_, ?_⟩) | ((with_reducible refine isEx6 ?_); refine ⟨(_, _, _, _, _, _), rfl, ?_, ?_⟩) | ((with_reducible refine isEx5 ?_); refine ⟨(_, _, _, _, _), rfl, ?_, ?_⟩) | ((with_reducible refine isEx4 ?_); refine ⟨(_, _, _, _), rfl, ?_, ?_⟩) | ((with_reducible refine isEx3 ?_); refine ⟨(_, _, _), rfl, ?_, ?_⟩) | ((with_reducible refine isEx2 ?_); refine ⟨(_, _), rfl, ?_, ?_⟩) | ((with_reducible refine isEx ?_); refine ⟨_, rfl, ?_, ?_⟩)
      all_goals (try simp (disch := omega) only [wrapI, wrapU, shl1, shl1', shl1'', shrN, shrN', and_one] at *)
      all_goals first | omega | (simp; done) | (simp; omega) | skip
      all_goals first | exact hst | (rw [c.nxt_eq, ← heq]; simp; done) | (simp; omega) | (subst hn; cases acc <;> cases B <;> simp_all; done) | skip
    · have h0 : l.drop i.toNat = [] := List.drop_eq_nil_of_le (by omega)
      rw [h0] at heq
      simp only [GCode.stream, List.append_nil] at heq
      (try (simp -implicitDefEqProofs only [go_sem])); repeat' first | with_reducible exact True.intro | with_reducible refine And.intro ?_ ?_ | with_reducible intro _ | (((with_reducible refine vc_b ?_ ?_) <;> intro _) <;> try (simp -implicitDefEqProofs only [go_sem])) | simp (disch := omega) only [wrapI, wrapU, shl1, shl1', shl1'', shrN, shrN', and_one] | ((with_reducible refine isEx8 ?_); refine ⟨(_, _, _, _, _, _, _, _), rfl, ?_, ?_⟩) | ((with_reducible refine isEx7 ?_); refine ⟨(_, _, _, _, _, _, _), rfl, ?_, ?_⟩) | ((with_reducible refine isEx6 ?_); refine ⟨(_, _, _, _, _, _), rfl, ?_, ?_⟩) | ((with_reducible refine isEx5 ?_); refine ⟨(_, _, _, _, _), rfl, ?_, ?_⟩) | ((with_reducible refine isEx4 ?_); refine ⟨(_, _, _, _), rfl, ?_, ?_⟩) | ((with_reducible refine isEx3 ?_); refine ⟨(_, _, _), rfl, ?_, ?_⟩) | ((with_reducible refine isEx2 ?_); refine ⟨(_, _), rfl, ?_, ?_⟩) | ((with_reducible refine isEx ?_); refine ⟨_, rfl, ?_, ?_⟩)
      all_goals first | omega | (simp; done) | (simp; omega) | skip
      all_goals (rw [← heq]; try simp [hn])

theorem GCode.stream_empty (c : GCode) (h : c.ok = true) (s : Int) (l : List Int) : (c.stream s l).1.isEmpty = l.isEmpty := by
  cases l with
  | nil => rfl
  | cons w l =>
    have hd := GCode.ok_head h
    have hbl := bitsOf_length c.out.toNat (c.wrd s w)
    simp only [GCode.stream]
    cases hB : bitsOf c.out.toNat (c.wrd s w) with
    | nil => rw [hB] at hbl; simp at hbl; omega
    | cons _ _ => rfl

theorem ref04_Encode_ret (c : GCode) (s : Int) (nl : Bool) (l : List Int) : Ret E0 F_ref04_Encode [codeD c, .int .i64 s, .list nl (ints l)] (.tup [.list (c.encode s l).1.isEmpty (ints (c.encode s l).1), .int .i64 (c.encode s l).2.1, .int .i64 (c.encode s l).2.2]) := by
  refine ret_of_pw dec_ref04_Encode mixed (by simp) fun hwf => ?_
  rw [enter_eq]; unfold pc_ref04_Encode
  cases hok : c.ok with
  | false =>
    have ho : c.encode s l = ([], 0, 40) := by simp [GCode.encode, hok]
    rw [ho]
    (try (simp -implicitDefEqProofs only [go_sem, codeD_eq, codeC_eq, rowsD_eq])); repeat' first | with_reducible exact True.intro | with_reducible refine And.intro ?_ ?_ | with_reducible intro _ | (((with_reducible refine isCall ?_); first | refine call_b (ref04_CheckState_ret c s) rfl ?_ ?_ | refine call_d (ref04_CheckState_ret c s) rfl ?_ | refine call_sb (ref04_CheckState_ret c s) rfl ?_ ?_ | refine call_s (ref04_CheckState_ret c s) rfl rfl ?_) <;> try (simp -implicitDefEqProofs only [go_sem, codeD_eq, codeC_eq, rowsD_eq])) | (((with_reducible refine vc_b ?_ ?_) <;> intro _) <;> try (simp -implicitDefEqProofs only [go_sem, codeD_eq, codeC_eq, rowsD_eq])) | simp (disch := omega) only [wrapI, wrapU, shl1, shl1', shl1'', shrN, shrN', and_one] | ((with_reducible refine isEx8 ?_); refine ⟨(_, _, _, _, _, _, _, _), rfl, ?_, ?_⟩) | ((with_reducible refine isEx7 ?_); refine ⟨(_, _, _, _, _, _, _), rfl, ?_, ?_⟩) | ((with_reducible refine isEx6 ?_); refine ⟨(_, _, _, _, _, _), rfl, ?_, ?_⟩) | ((with_reducible refine isEx5 ?_); refine ⟨(_, _, _, _, _), rfl, ?_, ?_⟩) | ((with_reducible refine isEx4 ?_); refine ⟨(_, _, _, _), rfl, ?_, ?_⟩) | ((with_reducible refine isEx3 ?_); refine ⟨(_, _, _), rfl, ?_, ?_⟩) | ((with_reducible refine isEx2 ?_); refine ⟨(_, _), rfl, ?_, ?_⟩) | ((with_reducible refine isEx ?_); refine ⟨_, rfl, ?_, ?_⟩)
    all_goals simp_all
  | true =>
  cases hst : c.isState s with
  | false =>
    have ho : c.encode s l = ([], 0, 41) := by simp [GCode.encode, hok, hst]
    rw [ho]
    (try (simp -implicitDefEqProofs only [go_sem, codeD_eq, codeC_eq, rowsD_eq])); repeat' first | with_reducible exact True.intro | with_reducible refine And.intro ?_ ?_ | with_reducible intro _ | (((with_reducible refine isCall ?_); first | refine call_b (ref04_CheckState_ret c s) rfl ?_ ?_ | refine call_d (ref04_CheckState_ret c s) rfl ?_ | refine call_sb (ref04_CheckState_ret c s) rfl ?_ ?_ | refine call_s (ref04_CheckState_ret c s) rfl rfl ?_) <;> try (simp -implicitDefEqProofs only [go_sem, codeD_eq, codeC_eq, rowsD_eq])) | (((with_reducible refine vc_b ?_ ?_) <;> intro _) <;> try (simp -implicitDefEqProofs only [go_sem, codeD_eq, codeC_eq, rowsD_eq])) | simp (disch := omega) only [wrapI, wrapU, shl1, shl1', shl1'', shrN, shrN', and_one] | ((with_reducible refine isEx8 ?_); refine ⟨(_, _, _, _, _, _, _, _), rfl, ?_, ?_⟩) | ((with_reducible refine isEx7 ?_); refine ⟨(_, _, _, _, _, _, _), rfl, ?_, ?_⟩) | ((with_reducible refine isEx6 ?_); refine ⟨(_, _, _, _, _, _), rfl, ?_, ?_⟩) | ((with_reducible refine isEx5 ?_); refine ⟨(_, _, _, _, _), rfl, ?_, ?_⟩) | ((with_reducible refine isEx4 ?_); refine ⟨(_, _, _, _), rfl, ?_, ?_⟩) | ((with_reducible refine isEx3 ?_); refine ⟨(_, _, _), rfl, ?_, ?_⟩) | ((with_reducible refine isEx2 ?_); refine ⟨(_, _), rfl, ?_, ?_⟩) | ((with_reducible refine isEx ?_); refine ⟨_, rfl, ?_, ?_⟩)
    all_goals simp_all
  | true =>
  have hd := GCode.ok_head hok
  have ccs := ref04_CheckState_ret c s
  simp only [hok, hst, Bool.not_true, Bool.false_eq_true, if_false] at ccs
  have cid := fun nl => ref04_IsData_ret c nl l (by omega)
  cases hdt : c.isData l with
  | false =>
    have ho : c.encode s l = ([], 0, 42) := by simp [GCode.encode, hok, hst, hdt]
    rw [ho]
    (try (simp -implicitDefEqProofs only [go_sem, codeD_eq, codeC_eq, rowsD_eq])); repeat' first | with_reducible exact True.intro | with_reducible refine And.intro ?_ ?_ | with_reducible intro _ | (((with_reducible refine isCall ?_); first | refine call_b (ccs) rfl ?_ ?_ | refine call_d (ccs) rfl ?_ | refine call_sb (ccs) rfl ?_ ?_ | refine call_s (ccs) rfl rfl ?_ | refine call_b (cid _) rfl ?_ ?_ | refine call_d (cid _) rfl ?_ | refine call_sb (cid _) rfl ?_ ?_ | refine call_s (cid _) rfl rfl ?_) <;> try (simp -implicitDefEqProofs only [go_sem, codeD_eq, codeC_eq, rowsD_eq])) | (((with_reducible refine vc_b ?_ ?_) <;> intro _) <;> try (simp -implicitDefEqProofs only [go_sem, codeD_eq, codeC_eq, rowsD_eq])) | simp (disch := omega) only [wrapI, wrapU, shl1, shl1', shl1'', shrN, shrN', and_one] | ((with_reducible refine isEx8 ?_); refine ⟨(_, _, _, _, _, _, _, _), rfl, ?_, ?_⟩) | ((with_reducible refine isEx7 ?_); refine ⟨(_, _, _, _, _, _, _), rfl, ?_, ?_⟩) | ((with_reducible refine isEx6 ?_); refine ⟨(_, _, _, _, _, _), rfl, ?_, ?_⟩) | ((with_reducible refine isEx5 ?_); refine ⟨(_, _, _, _, _), rfl, ?_, ?_⟩) | ((with_reducible refine isEx4 ?_); refine ⟨(_, _, _, _), rfl, ?_, ?_⟩) | ((with_reducible refine isEx3 ?_); refine ⟨(_, _, _), rfl, ?_, ?_⟩) | ((with_reducible refine isEx2 ?_); refine ⟨(_, _), rfl, ?_, ?_⟩) | ((with_reducible refine isEx ?_); refine ⟨_, rfl, ?_, ?_⟩)
    all_goals simp_all
  | true =>
    have hword : ∀ w, w ∈ l → c.isWord w = true := by simp only [GCode.isData, Bool.and_eq_true, List.all_eq_true] at hdt; exact hdt.2
    have h24 : l.length ≤ 24 := by simp [GCode.isData] at hdt; omega
    have ho : c.encode s l = ((c.stream s l).1, (c.stream s l).2, 0) := by simp [GCode.encode, hok, hst, hdt]
    rw [ho]
    have cst := ref04_Stream_ret c hok s nl l hst hword h24
    (try (simp -implicitDefEqProofs only [go_sem, codeD_eq, codeC_eq, rowsD_eq])); repeat' first | with_reducible exact True.intro | with_reducible refine And.intro ?_ ?_ | with_reducible intro _ | (((with_reducible refine isCall ?_); first | refine call_b (ccs) rfl ?_ ?_ | refine call_d (ccs) rfl ?_ | refine call_sb (ccs) rfl ?_ ?_ | refine call_s (ccs) rfl rfl ?_ | refine call_b (cid _) rfl ?_ ?_ | refine call_d (cid _) rfl ?_ | refine call_sb (cid _) rfl ?_ ?_ | refine call_s (cid _) rfl rfl ?_ | refine call_b (cst) rfl ?_ ?_ | refine call_d (cst) rfl ?_ | refine call_sb (cst) rfl ?_ ?_ | refine call_s (cst) rfl rfl ?_) <;> try (simp -implicitDefEqProofs only [go_sem, codeD_eq, codeC_eq, rowsD_eq])) | (((with_reducible refine vc_b ?_ ?_) <;> intro _) <;> try (simp -implicitDefEqProofs only [go_sem, codeD_eq, codeC_eq, rowsD_eq])) | simp (disch := omega) only [wrapI, wrapU, shl1, shl1', shl1'', shrN, shrN', and_one] | ((with_reducible refine isEx8 ?_); refine ⟨(_, _, _, _, _, _, _, _), rfl, ?_, ?_⟩) | ((with_reducible refine isEx7 ?_); refine ⟨(_, _, _, _, _, _, _), rfl, ?_, ?_⟩) | ((with_reducible refine isEx6 ?_); refine ⟨(_, _, _, _, _, _), rfl, ?_, ?_⟩) | ((with_reducible refine isEx5 ?_); refine ⟨(_, _, _, _, _), rfl, ?_, ?_⟩) | ((with_reducible refine isEx4 ?_); refine ⟨(_, _, _, _), rfl, ?_, ?_⟩) | ((with_reducible refine isEx3 ?_); refine ⟨(_, _, _), rfl, ?_, ?_⟩) | ((with_reducible refine isEx2 ?_); refine ⟨(_, _), rfl, ?_, ?_⟩) | ((with_reducible refine isEx ?_); refine ⟨_, rfl, ?_, ?_⟩)
    all_goals simp_all

/-! decode, from the back -/
def optR (o : Option (List Int)) : D := match o with | some l => .list l.isEmpty (ints l) | none => .list true []
def optB (o : Option (List Int)) : D := .bool o.isSome
theorem optR_some {l : List Int} : optR (some l) = .list l.isEmpty (ints l) := rfl
theorem optR_none : optR none = .list true [] := rfl
theorem optB_eq (o : Option (List Int)) : optB o = .bool o.isSome := rfl
theorem optR_cells (o : Option (List Int)) : (optR o).cells.length = 1 := by cases o <;> rfl
theorem optR_load (o : Option (List Int)) : (optR o).cells = [optR o] := by cases o <;> rfl
abbrev Tbl := List (Option (List Int))
/-- The first data for the bits from a place on, for each state. -/
def GCode.tbl (c : GCode) (bits : List Int) (K : Nat) (q : Nat) : Tbl := (List.range c.words.length).map fun (s : Nat) => c.decP bits (K - q) (s : Int) (q : Int)
theorem tbl_len (c : GCode) (bits : List Int) (K q : Nat) : (c.tbl bits K q).length = c.words.length := by simp [GCode.tbl]
theorem tbl_get (c : GCode) (bits : List Int) (K q : Nat) {s : Int} (h0 : 0 ≤ s) (h : s < c.words.length) : (c.tbl bits K q)[s.toNat]?.getD default = c.decP bits (K - q) s q := by
  have hs : ((s.toNat : Nat) : Int) = s := by omega
  simp only [GCode.tbl, List.getElem?_map]
  rw [List.getElem?_range (by omega)]
  simp [hs]
end Go.Pw
