/- A part of the proof. -/
import Derived.Test.YtgeodifpcminpaaPgCodesHq
import Derived.Test.YtgeodifpcminpaaPgCodesD
import Derived.Test.YtgeodifpcminpaaCodesHv
set_option linter.all false
open Go Go.Pw Go.Proofs
namespace Go.Pw
set_option linter.unusedSimpArgs false
set_option linter.unusedVariables false
set_option maxRecDepth 100000
set_option maxHeartbeats 6400000
theorem W_pow2 (c : GCode) : (2 : Int) ^ c.bits.toNat = c.W := by unfold GCode.W; simp
def boolsD (l : List Bool) : List D := l.map .bool
theorem boolsD_len (l : List Bool) : (boolsD l).length = l.length := by simp [boolsD]
theorem boolsD_unif (l : List Bool) : Unif 1 (boolsD l) = True := unif_map fun _ => rfl
theorem boolsD_rep (n : Nat) : List.replicate n (D.bool false) = boolsD (List.replicate n false) := by simp [boolsD]
theorem boolsD_set (l : List Bool) (i : Nat) (b : Bool) : (boolsD l).set i (.bool b) = boolsD (l.set i b) := by simp [boolsD, List.map_set]
theorem onSome_bools {l : List Bool} {i : Nat} {A : D → Prop} : onSome (boolsD l)[i]? A = (i < l.length ∧ A (.bool (l[i]?.getD false))) := by
  unfold boolsD
  exact onSome_map
theorem wrd_range' (c : GCode) (h : c.ok = true) {s w : Int} (hs : c.isState s = true) (hw : c.isWord w = true) : c.isState (c.nxt s w) = true := GCode.nxt_state h hs hw
theorem all_take_next {l : List Bool} {i : Int} (h0 : 0 ≤ i) (h : i < l.length) : (l.take (i + 1).toNat).all (fun b => !b) = ((l.take i.toNat).all (fun b => !b) && !(l[i.toNat]?.getD false)) := by
  rw [show (i + 1).toNat = i.toNat + 1 by omega, List.take_add_one, List.getElem?_eq_getElem (by omega), List.all_append]
  simp
attribute [local congr] cg_pw cg_seqI cg_seqE cg_stepI cg_ev cg_evBin cg_condB cg_condV cg_thenQ cg_blockQ cg_onSome cg_onCells cg_onRow cg_onMap cg_onOpt cg_ghosts cg_ghost cg_evCall cg_part cg_rng cg_guardV cg_frzV cg_frpV cg_ownV cg_owcV cg_occV cg_occX cg_resK cg_res1 cg_yldP cg_rndE cg_onlyN cg_onHist
attribute [local irreducible] IntKind.wrap bitsOp Option.getD and or


theorem ref04_Order_ret (c : GCode) : Ret E0 F_ref04_Order [codeD c] (.tup [.int .i64 c.ordR.1, .int .i64 c.ordR.2]) := by
  refine ret_of_pw dec_ref04_Order mixed (by simp) fun hwf => ?_
  have c1 := ref04_Check_ret c
  unfold GCode.ordR
  rw [enter_eq]; unfold pc_ref04_Order
  cases h : c.ok with
  | false =>
    rw [h] at c1
    (try (simp -implicitDefEqProofs only [go_sem, codeD_eq, codeC_eq, errI])); repeat' first | with_reducible exact True.intro | with_reducible refine And.intro ?_ ?_ | with_reducible intro _ | (((with_reducible refine isCall ?_); first | refine call_b (c1) rfl ?_ ?_ | refine call_d (c1) rfl ?_ | refine call_sb (c1) rfl ?_ ?_ | refine call_s (c1) rfl rfl ?_) <;> try (simp -implicitDefEqProofs only [go_sem, codeD_eq, codeC_eq, errI])) | (((with_reducible refine vc_b ?_ ?_) <;> intro _) <;> try (simp -implicitDefEqProofs only [go_sem, codeD_eq, codeC_eq, errI])) | simp (disch := omega) only [wrapI, wrapU, shl1, shl1', shl1'', shrN, shrN', and_one] | ((with_reducible refine isEx3 ?_); refine ⟨(_, _, _), rfl, ?_, ?_⟩) | ((with_reducible refine isEx2 ?_); refine ⟨(_, _), rfl, ?_, ?_⟩)
    all_goals first | omega | rfl | trace_state
  | true =>
    rw [h] at c1
    have hd := GCode.ok_head h
    have hW4 := W_le h
    have hnc := W_pow2 c
    simp only [Bool.not_true, Bool.false_eq_true, if_false]
    obtain ⟨R, hR⟩ : ∃ R, c.ordF (c.words.length * c.words.length + 1) 1 c.ord0 = R := ⟨_, rfl⟩
    rw [hR]
    obtain ⟨B0, hB0⟩ : ∃ B0, c.ord0 = B0 := ⟨_, rfl⟩
    rw [hB0] at hR
    have hB0l : B0.length = c.words.length * c.words.length := by rw [← hB0]; exact ord0_len c
    unfold GCode.ord0 at hB0
    obtain ⟨M2, hM2⟩ : ∃ M2 : Nat, c.words.length * c.words.length = M2 := ⟨_, rfl⟩
    have hM2i : (c.words.length : Int) * c.words.length = M2 := by rw [← hM2]; simp
    have hM2b : M2 ≤ 16 := by
      rw [← hM2]; exact Nat.mul_le_mul (show c.words.length ≤ 4 by omega) (show c.words.length ≤ 4 by omega)
    rw [hM2] at hR hB0 hB0l
    have wM : IntKind.i64.wrap ((c.words.length : Int) * c.words.length) = M2 := by rw [hM2i]; exact wrapI _ (by omega)
    have wM1 : IntKind.i64.wrap ((M2 : Int) + 1) = M2 + 1 := wrapI _ (by omega)
    have hidx : ∀ p q : Int, c.isState p = true → c.isState q = true → (0 ≤ p * c.words.length + q ∧ p * c.words.length + q < M2 ∧ IntKind.i64.wrap (p * c.words.length) = p * c.words.length ∧ IntKind.i64.wrap (p * c.words.length + q) = p * c.words.length + q) := fun p q hp hq => by
      have h1 := prI_lt hp hq
      rw [hM2] at h1
      unfold prI at h1
      simp only [GCode.isState, inR, decide_eq_true_eq] at hp hq
      have h4 : 0 ≤ p * (c.words.length : Int) := Int.mul_nonneg (by omega) (by omega)
      refine ⟨by omega, by omega, wrapI _ (by omega), wrapI _ (by omega)⟩
    have rowsW : ∀ p : Int, c.isState p = true → (0 ≤ p ∧ p < c.words.length ∧ p.toNat < c.words.length ∧ p < c.next.length ∧ p.toNat < c.next.length ∧ (c.words[p.toNat]?.getD default).2.length = c.W ∧ (c.next[p.toNat]?.getD default).2.length = c.W) := fun p hp => by
      simp only [GCode.isState, inR, decide_eq_true_eq] at hp
      refine ⟨by omega, by omega, by omega, by omega, by omega, (GCode.ok_words h p.toNat (by omega)).1, (GCode.ok_next h p.toNat (by omega)).1⟩
    (try (simp -implicitDefEqProofs only [go_sem, codeD_eq, codeC_eq, errI, rowsD_eq, wM, boolsD_rep])); repeat' first | with_reducible exact True.intro | with_reducible refine And.intro ?_ ?_ | with_reducible intro _ | (((with_reducible refine isCall ?_); first | refine call_b (c1) rfl ?_ ?_ | refine call_d (c1) rfl ?_ | refine call_sb (c1) rfl ?_ ?_ | refine call_s (c1) rfl rfl ?_) <;> try (simp -implicitDefEqProofs only [go_sem, codeD_eq, codeC_eq, errI, rowsD_eq, wM, boolsD_rep])) | (((with_reducible refine vc_b ?_ ?_) <;> intro _) <;> try (simp -implicitDefEqProofs only [go_sem, codeD_eq, codeC_eq, errI, rowsD_eq, wM, boolsD_rep])) | simp (disch := omega) only [wrapI, wrapU, shl1, shl1', shl1'', shrN, shrN', and_one] | ((with_reducible refine isEx3 ?_); refine ⟨(_, _, _), rfl, ?_, ?_⟩) | ((with_reducible refine isEx2 ?_); refine ⟨(_, _), rfl, ?_, ?_⟩)
    all_goals (try omega)
    refine pw_loopS (α := Int × (List Bool)) (l0 := ?l1) (m0 := ?m1) (fun x => [(6, .d (.int .i64 x.1))]) (fun x => [(26, .row 4 1 false (boolsD x.2))]) (fun x => (0 ≤ x.1 ∧ x.1 ≤ c.words.length) ∧ x.2.length = M2 ∧ foldN c.oS (c.words.length - x.1.toNat) x.1 x.2 = B0) (fun x => (c.words.length - x.1).toNat) (?a1_0, ?a1_1) ?h01 ?he1 ?he21 ?hI1 ?step1
    case h01 => (simp -implicitDefEqProofs only [go_sem, boolsD_rep, rowsD_eq]; rfl)
    case he1 => rfl
    case he21 => rfl
    case' step1 => (rintro ⟨s, B⟩ hI; try dsimp only at hI)
    case' hI1 => try dsimp only
    · refine ⟨⟨by omega, by omega⟩, by simp, hB0⟩
    · obtain ⟨⟨q1, q2⟩, q3, q4⟩ := hI
      by_cases hs : s < c.words.length
      · have w1 : IntKind.i64.wrap (s + 1) = s + 1 := wrapI _ (by omega)
        have hst : c.isState s = true := state_iff.1 ⟨q1, by omega⟩
        rw [foldN_step _ _ q1 hs] at q4
        obtain ⟨B1, hB1⟩ : ∃ B1, c.oS B s = B1 := ⟨_, rfl⟩
        rw [hB1] at q4
        unfold GCode.oS GCode.oP at hB1
        obtain ⟨r1, r2, r3, r4, r5, r6, r7⟩ := rowsW s hst
        (try (simp -implicitDefEqProofs only [go_sem, hs])); repeat' first | with_reducible exact True.intro | with_reducible refine And.intro ?_ ?_ | with_reducible intro _ | (((with_reducible refine vc_b ?_ ?_) <;> intro _) <;> try (simp -implicitDefEqProofs only [go_sem, hs])) | simp (disch := omega) only [wrapI, wrapU, shl1, shl1', shl1'', shrN, shrN', and_one] | ((with_reducible refine isEx3 ?_); refine ⟨(_, _, _), rfl, ?_, ?_⟩) | ((with_reducible refine isEx2 ?_); refine ⟨(_, _), rfl, ?_, ?_⟩)
        all_goals (try omega)
        refine pw_loopS (α := Int × (List Bool)) (l0 := ?l2) (m0 := ?m2) (fun x => [(7, .d (.int .i64 x.1))]) (fun x => [(26, .row 4 1 false (boolsD x.2))]) (fun x => (0 ≤ x.1 ∧ x.1 ≤ c.W) ∧ x.2.length = M2 ∧ foldN (c.oA s s true) (c.W - x.1.toNat) x.1 x.2 = B1) (fun x => (c.W - x.1).toNat) (?a2_0, ?a2_1) ?h02 ?he2 ?he22 ?hI2 ?step2
        case h02 => (simp -implicitDefEqProofs only [go_sem, rowsD_eq]; rfl)
        case he2 => rfl
        case he22 => rfl
        case' step2 => (rintro ⟨a, B⟩ hI2; try dsimp only at hI2)
        case' hI2 => try dsimp only
        · exact ⟨⟨by omega, by omega⟩, q3, hB1⟩
        · obtain ⟨⟨p1, p2⟩, p3, p4⟩ := hI2
          by_cases ha : a < c.W
          · have w2 : IntKind.i64.wrap (a + 1) = a + 1 := wrapI _ (by omega)
            have haw : c.isWord a = true := word_iff.1 ⟨p1, by omega⟩
            rw [foldN_step _ _ p1 ha] at p4
            obtain ⟨B2, hB2⟩ : ∃ B2, c.oA s s true B a = B2 := ⟨_, rfl⟩
            rw [hB2] at p4
            unfold GCode.oA at hB2
            have ha2 : a.toNat < c.W := by omega
            (try (simp -implicitDefEqProofs only [go_sem, rowsD_eq, rowD_eq, r1, r2, r3, r6, ha])); repeat' first | with_reducible exact True.intro | with_reducible refine And.intro ?_ ?_ | with_reducible intro _ | (((with_reducible refine vc_b ?_ ?_) <;> intro _) <;> try (simp -implicitDefEqProofs only [go_sem, rowsD_eq, rowD_eq, r1, r2, r3, r6, ha])) | simp (disch := omega) only [wrapI, wrapU, shl1, shl1', shl1'', shrN, shrN', and_one] | ((with_reducible refine isEx3 ?_); refine ⟨(_, _, _), rfl, ?_, ?_⟩) | ((with_reducible refine isEx2 ?_); refine ⟨(_, _), rfl, ?_, ?_⟩)
            all_goals (try omega)
            refine pw_loopS (α := Int × (List Bool)) (l0 := ?l3) (m0 := ?m3) (fun x => [(8, .d (.int .i64 x.1))]) (fun x => [(26, .row 4 1 false (boolsD x.2))]) (fun x => (0 ≤ x.1 ∧ x.1 ≤ c.W) ∧ x.2.length = M2 ∧ foldN (c.oB s s true a) (c.W - x.1.toNat) x.1 x.2 = B2) (fun x => (c.W - x.1).toNat) (?a3_0, ?a3_1) ?h03 ?he3 ?he23 ?hI3 ?step3
            case h03 => (simp -implicitDefEqProofs only [go_sem, rowsD_eq]; rfl)
            case he3 => rfl
            case he23 => rfl
            case' step3 => (rintro ⟨b, B⟩ hI3; try dsimp only at hI3)
            case' hI3 => try dsimp only
            · exact ⟨⟨by omega, by omega⟩, p3, hB2⟩
            · obtain ⟨⟨o1, o2⟩, o3, o4⟩ := hI3
              by_cases hb : b < c.W
              · have w3 : IntKind.i64.wrap (b + 1) = b + 1 := wrapI _ (by omega)
                have hbw : c.isWord b = true := word_iff.1 ⟨o1, by omega⟩
                have hb2 : b.toNat < c.W := by omega
                rw [foldN_step _ _ o1 hb] at o4
                unfold GCode.oB at o4
                by_cases hab : a = b
                · rw [if_neg (fun hh => hh.2.elim (fun h9 => h9 hab) (fun h9 => by cases h9))] at o4
                  (try (simp -implicitDefEqProofs only [go_sem, rowsD_eq, rowD_eq, r1, r2, r3, r6, ha, ha2, hb, hb2, p1, o1, w3, eq_true hab])); repeat' first | with_reducible exact True.intro | with_reducible refine And.intro ?_ ?_ | with_reducible intro _ | (((with_reducible refine vc_b ?_ ?_) <;> intro _) <;> try (simp -implicitDefEqProofs only [go_sem, rowsD_eq, rowD_eq, r1, r2, r3, r6, ha, ha2, hb, hb2, p1, o1, w3, eq_true hab])) | simp (disch := omega) only [wrapI, wrapU, shl1, shl1', shl1'', shrN, shrN', and_one] | ((with_reducible refine isEx3 ?_); refine ⟨(_, _, _), rfl, ?_, ?_⟩) | ((with_reducible refine isEx2 ?_); refine ⟨(_, _), rfl, ?_, ?_⟩)
                  all_goals first | omega | exact o4 | exact o3 | trace_state
                · by_cases hww : c.wrd s a = c.wrd s b
                  · rw [if_pos ⟨hww, .inl hab⟩] at o4
                    obtain ⟨i1, i2, i3, i4⟩ := hidx _ _ (GCode.nxt_state h hst haw) (GCode.nxt_state h hst hbw)
                    obtain ⟨I, hI9⟩ : ∃ I, c.nxt s a * c.words.length + c.nxt s b = I := ⟨_, rfl⟩
                    have hpI : prI c.words.length (c.nxt s a) (c.nxt s b) = I.toNat := by unfold prI; rw [hI9]
                    rw [hpI] at o4
                    rw [hI9] at i1 i2 i4
                    have i5 : I.toNat < B.length := by omega
                    have i6 : I < B.length := by omega
                    (try (simp -implicitDefEqProofs only [go_sem, rowsD_eq, rowD_eq, c.wrd_eq, c.nxt_eq, r1, r2, r3, r4, r5, r6, r7, ha, ha2, hb, hb2, p1, o1, w3, hab, eq_true hww, i1, i2, i3, i4, hI9, i5, i6, boolsD_len, boolsD_unif, onSome_bools, boolsD_set])); repeat' first | with_reducible exact True.intro | with_reducible refine And.intro ?_ ?_ | with_reducible intro _ | (((with_reducible refine vc_b ?_ ?_) <;> intro _) <;> try (simp -implicitDefEqProofs only [go_sem, rowsD_eq, rowD_eq, c.wrd_eq, c.nxt_eq, r1, r2, r3, r4, r5, r6, r7, ha, ha2, hb, hb2, p1, o1, w3, hab, eq_true hww, i1, i2, i3, i4, hI9, i5, i6, boolsD_len, boolsD_unif, onSome_bools, boolsD_set])) | simp (disch := omega) only [wrapI, wrapU, shl1, shl1', shl1'', shrN, shrN', and_one] | ((with_reducible refine isEx3 ?_); refine ⟨(_, _, _), rfl, ?_, ?_⟩) | ((with_reducible refine isEx2 ?_); refine ⟨(_, _), rfl, ?_, ?_⟩)
                    all_goals first | omega | exact o4 | (simp [o3]; done) | exact o3 | trace_state
                  · rw [if_neg (fun hh => hww hh.1)] at o4
                    (try (simp -implicitDefEqProofs only [go_sem, rowsD_eq, rowD_eq, c.wrd_eq, c.nxt_eq, r1, r2, r3, r6, ha, ha2, hb, hb2, p1, o1, w3, hab, hww])); repeat' first | with_reducible exact True.intro | with_reducible refine And.intro ?_ ?_ | with_reducible intro _ | (((with_reducible refine vc_b ?_ ?_) <;> intro _) <;> try (simp -implicitDefEqProofs only [go_sem, rowsD_eq, rowD_eq, c.wrd_eq, c.nxt_eq, r1, r2, r3, r6, ha, ha2, hb, hb2, p1, o1, w3, hab, hww])) | simp (disch := omega) only [wrapI, wrapU, shl1, shl1', shl1'', shrN, shrN', and_one] | ((with_reducible refine isEx3 ?_); refine ⟨(_, _, _), rfl, ?_, ?_⟩) | ((with_reducible refine isEx2 ?_); refine ⟨(_, _), rfl, ?_, ?_⟩)
                    all_goals first | omega | exact o4 | exact o3 | trace_state
              · rw [show c.W - b.toNat = 0 by omega, foldN] at o4
                rw [← o4] at p4
                (try (simp -implicitDefEqProofs only [go_sem, rowsD_eq, rowD_eq, r1, r2, r3, r6, hb, w2])); repeat' first | with_reducible exact True.intro | with_reducible refine And.intro ?_ ?_ | with_reducible intro _ | (((with_reducible refine vc_b ?_ ?_) <;> intro _) <;> try (simp -implicitDefEqProofs only [go_sem, rowsD_eq, rowD_eq, r1, r2, r3, r6, hb, w2])) | simp (disch := omega) only [wrapI, wrapU, shl1, shl1', shl1'', shrN, shrN', and_one] | ((with_reducible refine isEx3 ?_); refine ⟨(_, _, _), rfl, ?_, ?_⟩) | ((with_reducible refine isEx2 ?_); refine ⟨(_, _), rfl, ?_, ?_⟩)
                all_goals first | omega | exact p4 | exact o3 | trace_state
          · rw [show c.W - a.toNat = 0 by omega, foldN] at p4
            rw [← p4] at q4
            (try (simp -implicitDefEqProofs only [go_sem, rowsD_eq, rowD_eq, r1, r2, r3, r6, ha, w1])); repeat' first | with_reducible exact True.intro | with_reducible refine And.intro ?_ ?_ | with_reducible intro _ | (((with_reducible refine vc_b ?_ ?_) <;> intro _) <;> try (simp -implicitDefEqProofs only [go_sem, rowsD_eq, rowD_eq, r1, r2, r3, r6, ha, w1])) | simp (disch := omega) only [wrapI, wrapU, shl1, shl1', shl1'', shrN, shrN', and_one] | ((with_reducible refine isEx3 ?_); refine ⟨(_, _, _), rfl, ?_, ?_⟩) | ((with_reducible refine isEx2 ?_); refine ⟨(_, _), rfl, ?_, ?_⟩)
            all_goals first | omega | exact q4 | exact p3 | trace_state
      · rw [show c.words.length - s.toNat = 0 by omega, foldN] at q4
        rw [← q4] at hR
        (try (simp -implicitDefEqProofs only [go_sem, hs])); repeat' first | with_reducible exact True.intro | with_reducible refine And.intro ?_ ?_ | with_reducible intro _ | (((with_reducible refine vc_b ?_ ?_) <;> intro _) <;> try (simp -implicitDefEqProofs only [go_sem, hs])) | simp (disch := omega) only [wrapI, wrapU, shl1, shl1', shl1'', shrN, shrN', and_one] | ((with_reducible refine isEx3 ?_); refine ⟨(_, _, _), rfl, ?_, ?_⟩) | ((with_reducible refine isEx2 ?_); refine ⟨(_, _), rfl, ?_, ?_⟩)
        all_goals (try omega)
        refine pw_loopS (α := Int × Nat × (List Bool)) (l0 := ?l4) (m0 := ?m4) (fun x => [(9, .d (.int .i64 x.1)), (5, .d (.list false (boolsD x.2.2)))]) (fun x => []) (fun x => 1 ≤ x.1 ∧ x.1 + x.2.1 = M2 + 2 ∧ x.2.2.length = M2 ∧ c.ordF x.2.1 x.1 x.2.2 = R) (fun x => x.2.1) (?a4_0, (M2 + 1), ?a4_2) ?h04 ?he4 ?he24 ?hI4 ?step4
        case h04 => (simp -implicitDefEqProofs only [go_sem, rowsD_eq]; rfl)
        case he4 => rfl
        case he24 => rfl
        case' step4 => (rintro ⟨n, k, B⟩ hI4; try dsimp only at hI4)
        case' hI4 => try dsimp only
        · exact ⟨by omega, by omega, q3, hR⟩
        · obtain ⟨n1, n2, n3, n4⟩ := hI4
          by_cases hn : n ≤ M2 + 1
          · have w2 : IntKind.i64.wrap (n + 1) = n + 1 := wrapI _ (by omega)
            obtain ⟨k', rfl⟩ : ∃ k', k = k' + 1 := ⟨k - 1, by omega⟩
            rw [GCode.ordF] at n4
            obtain ⟨NX, hNX⟩ : ∃ NX, c.ordN B = NX := ⟨_, rfl⟩
            rw [hNX] at n4
            have hNXl : NX.length = M2 := by rw [← hNX, ordN_len, hM2]
            unfold GCode.ordN at hNX
            rw [hM2] at hNX
            (try (simp -implicitDefEqProofs only [go_sem, hn, wM, wM1, boolsD_len, boolsD_rep])); repeat' first | with_reducible exact True.intro | with_reducible refine And.intro ?_ ?_ | with_reducible intro _ | (((with_reducible refine vc_b ?_ ?_) <;> intro _) <;> try (simp -implicitDefEqProofs only [go_sem, hn, wM, wM1, boolsD_len, boolsD_rep])) | simp (disch := omega) only [wrapI, wrapU, shl1, shl1', shl1'', shrN, shrN', and_one] | ((with_reducible refine isEx3 ?_); refine ⟨(_, _, _), rfl, ?_, ?_⟩) | ((with_reducible refine isEx2 ?_); refine ⟨(_, _), rfl, ?_, ?_⟩)
            all_goals (try omega)
            refine pw_loopS (α := Int × Bool × (List Bool)) (l0 := ?l5) (m0 := ?m5) (fun x => [(12, .d (.int .i64 x.1)), (10, .d (.bool x.2.1))]) (fun x => [(106, .row 4 1 false (boolsD x.2.2))]) (fun x => (0 ≤ x.1 ∧ x.1 ≤ B.length) ∧ x.2.1 = (B.take x.1.toNat).all (fun b => !b) ∧ x.2.2.length = M2 ∧ foldN (c.oI B) (B.length - x.1.toNat) x.1 x.2.2 = NX) (fun x => (B.length - x.1).toNat) (?a5_0, ?a5_1, ?a5_2) ?h05 ?he5 ?he25 ?hI5 ?step5
            case h05 => (simp -implicitDefEqProofs only [go_sem, boolsD_rep, boolsD_len, rowsD_eq]; rfl)
            case he5 => rfl
            case he25 => rfl
            case' step5 => (rintro ⟨i, nn, nx⟩ hI5; try dsimp only at hI5)
            case' hI5 => try dsimp only
            · exact ⟨⟨by omega, by omega⟩, by simp, by simp, hNX⟩
            · obtain ⟨⟨i1, i2⟩, i3, i4, i5⟩ := hI5
              by_cases hi : i < B.length
              · have w3 : IntKind.i64.wrap (i + 1) = i + 1 := wrapI _ (by omega)
                rw [foldN_step _ _ i1 hi] at i5
                have hat := all_take_next i1 hi
                rw [← i3] at hat
                unfold GCode.oI at i5
                have hi2 : i.toNat < B.length := by omega
                cases hbi : B[i.toNat]?.getD false with
                | false =>
                  rw [hbi] at hat i5
                  simp only [Bool.not_false, Bool.and_true] at hat
                  rw [if_neg (by simp)] at i5
                  (try (simp -implicitDefEqProofs only [go_sem, hi, hi2, i1, hbi, w3, boolsD_len, boolsD_unif, onSome_bools])); repeat' first | with_reducible exact True.intro | with_reducible refine And.intro ?_ ?_ | with_reducible intro _ | (((with_reducible refine vc_b ?_ ?_) <;> intro _) <;> try (simp -implicitDefEqProofs only [go_sem, hi, hi2, i1, hbi, w3, boolsD_len, boolsD_unif, onSome_bools])) | simp (disch := omega) only [wrapI, wrapU, shl1, shl1', shl1'', shrN, shrN', and_one] | ((with_reducible refine isEx3 ?_); refine ⟨(_, _, _), rfl, ?_, ?_⟩) | ((with_reducible refine isEx2 ?_); refine ⟨(_, _), rfl, ?_, ?_⟩)
                  all_goals first | omega | exact i5 | exact hat.symm | exact i4 | trace_state
                | true =>
                  rw [hbi] at hat i5
                  simp only [Bool.not_true, Bool.and_false] at hat
                  rw [if_pos rfl] at i5
                  obtain ⟨p, hp⟩ : ∃ p, i / (c.words.length : Int) = p := ⟨_, rfl⟩
                  obtain ⟨q, hq⟩ : ∃ q, i % (c.words.length : Int) = q := ⟨_, rfl⟩
                  have hpq : p * c.words.length + q = i := by rw [← hp, ← hq]; exact Int.ediv_mul_add_emod ..
                  have hp0 : 0 ≤ p := by rw [← hp]; exact Int.ediv_nonneg i1 (by omega)
                  have hp1 : p < c.words.length := by
                    rw [← hp]; exact Int.ediv_lt_of_lt_mul (show (0 : Int) < c.words.length by omega) (by rw [hM2i]; omega)
                  have hq0 : 0 ≤ q := by rw [← hq]; exact Int.emod_nonneg _ (by omega)
                  have hq1 : q < c.words.length := by rw [← hq]; exact Int.emod_lt_of_pos _ (by omega)
                  have hdv : i.tdiv (c.words.length : Int) = p := by rw [← hp]; exact Int.tdiv_eq_ediv_of_nonneg i1
                  have hmd : i.tmod (c.words.length : Int) = q := by rw [← hq]; exact Int.tmod_eq_emod_of_nonneg i1
                  have hlz : ¬ (c.words.length : Int) = 0 := by omega
                  have hps : c.isState p = true := state_iff.1 ⟨hp0, by omega⟩
                  have hqs : c.isState q = true := state_iff.1 ⟨hq0, by omega⟩
                  rw [hp, hq] at i5
                  obtain ⟨N1, hN1⟩ : ∃ N1, c.oP p q false nx = N1 := ⟨_, rfl⟩
                  rw [hN1] at i5
                  unfold GCode.oP at hN1
                  obtain ⟨r1, r2, r3, r4, r5, r6, r7⟩ := rowsW p hps
                  obtain ⟨t1, t2, t3, t4, t5, t6, t7⟩ := rowsW q hqs
                  (try (simp -implicitDefEqProofs only [go_sem, hi, hi2, i1, hbi, boolsD_len, boolsD_unif, onSome_bools, hdv, hmd, hlz])); repeat' first | with_reducible exact True.intro | with_reducible refine And.intro ?_ ?_ | with_reducible intro _ | (((with_reducible refine vc_b ?_ ?_) <;> intro _) <;> try (simp -implicitDefEqProofs only [go_sem, hi, hi2, i1, hbi, boolsD_len, boolsD_unif, onSome_bools, hdv, hmd, hlz])) | simp (disch := omega) only [wrapI, wrapU, shl1, shl1', shl1'', shrN, shrN', and_one] | ((with_reducible refine isEx3 ?_); refine ⟨(_, _, _), rfl, ?_, ?_⟩) | ((with_reducible refine isEx2 ?_); refine ⟨(_, _), rfl, ?_, ?_⟩)
                  all_goals (try omega)
                  refine pw_loopS (α := Int × (List Bool)) (l0 := ?l6) (m0 := ?m6) (fun x => [(15, .d (.int .i64 x.1))]) (fun x => [(106, .row 4 1 false (boolsD x.2))]) (fun x => (0 ≤ x.1 ∧ x.1 ≤ c.W) ∧ x.2.length = M2 ∧ foldN (c.oA p q false) (c.W - x.1.toNat) x.1 x.2 = N1) (fun x => (c.W - x.1).toNat) (?a6_0, ?a6_1) ?h06 ?he6 ?he26 ?hI6 ?step6
                  case h06 => (simp -implicitDefEqProofs only [go_sem, rowsD_eq, boolsD_len]; rfl)
                  case he6 => rfl
                  case he26 => rfl
                  case' step6 => (rintro ⟨a, nx⟩ hI6; try dsimp only at hI6)
                  case' hI6 => try dsimp only
                  · exact ⟨⟨by omega, by omega⟩, i4, hN1⟩
                  · obtain ⟨⟨p1, p2⟩, p3, p4⟩ := hI6
                    by_cases ha : a < c.W
                    · have w4 : IntKind.i64.wrap (a + 1) = a + 1 := wrapI _ (by omega)
                      have haw : c.isWord a = true := word_iff.1 ⟨p1, by omega⟩
                      rw [foldN_step _ _ p1 ha] at p4
                      obtain ⟨N2, hN2⟩ : ∃ N2, c.oA p q false nx a = N2 := ⟨_, rfl⟩
                      rw [hN2] at p4
                      unfold GCode.oA at hN2
                      have ha2 : a.toNat < c.W := by omega
                      (try (simp -implicitDefEqProofs only [go_sem, rowsD_eq, rowD_eq, r1, r2, r3, r6, ha])); repeat' first | with_reducible exact True.intro | with_reducible refine And.intro ?_ ?_ | with_reducible intro _ | (((with_reducible refine vc_b ?_ ?_) <;> intro _) <;> try (simp -implicitDefEqProofs only [go_sem, rowsD_eq, rowD_eq, r1, r2, r3, r6, ha])) | simp (disch := omega) only [wrapI, wrapU, shl1, shl1', shl1'', shrN, shrN', and_one] | ((with_reducible refine isEx3 ?_); refine ⟨(_, _, _), rfl, ?_, ?_⟩) | ((with_reducible refine isEx2 ?_); refine ⟨(_, _), rfl, ?_, ?_⟩)
                      all_goals (try omega)
                      refine pw_loopS (α := Int × (List Bool)) (l0 := ?l7) (m0 := ?m7) (fun x => [(16, .d (.int .i64 x.1))]) (fun x => [(106, .row 4 1 false (boolsD x.2))]) (fun x => (0 ≤ x.1 ∧ x.1 ≤ c.W) ∧ x.2.length = M2 ∧ foldN (c.oB p q false a) (c.W - x.1.toNat) x.1 x.2 = N2) (fun x => (c.W - x.1).toNat) (?a7_0, ?a7_1) ?h07 ?he7 ?he27 ?hI7 ?step7
                      case h07 => (simp -implicitDefEqProofs only [go_sem, rowsD_eq, boolsD_len]; rfl)
                      case he7 => rfl
                      case he27 => rfl
                      case' step7 => (rintro ⟨b, nx⟩ hI7; try dsimp only at hI7)
                      case' hI7 => try dsimp only
                      · exact ⟨⟨by omega, by omega⟩, p3, hN2⟩
                      · obtain ⟨⟨o1, o2⟩, o3, o4⟩ := hI7
                        by_cases hb : b < c.W
                        · have w5 : IntKind.i64.wrap (b + 1) = b + 1 := wrapI _ (by omega)
                          have hbw : c.isWord b = true := word_iff.1 ⟨o1, by omega⟩
                          have hb2 : b.toNat < c.W := by omega
                          rw [foldN_step _ _ o1 hb] at o4
                          unfold GCode.oB at o4
                          by_cases hww : c.wrd p a = c.wrd q b
                          · rw [if_pos ⟨hww, .inr rfl⟩] at o4
                            obtain ⟨j1, j2, j3, j4⟩ := hidx _ _ (GCode.nxt_state h hps haw) (GCode.nxt_state h hqs hbw)
                            obtain ⟨I, hI9⟩ : ∃ I, c.nxt p a * c.words.length + c.nxt q b = I := ⟨_, rfl⟩
                            have hpI : prI c.words.length (c.nxt p a) (c.nxt q b) = I.toNat := by unfold prI; rw [hI9]
                            rw [hpI] at o4
                            rw [hI9] at j1 j2 j4
                            have j5 : I.toNat < nx.length := by omega
                            have j6 : I < nx.length := by omega
                            (try (simp -implicitDefEqProofs only [go_sem, rowsD_eq, rowD_eq, c.wrd_eq, c.nxt_eq, r1, r2, r3, r4, r5, r6, r7, t1, t2, t3, t4, t5, t6, t7, ha, ha2, hb, hb2, p1, o1, w5, eq_true hww, j1, j2, j3, j4, hI9, j5, j6, boolsD_len, boolsD_unif, onSome_bools, boolsD_set])); repeat' first | with_reducible exact True.intro | with_reducible refine And.intro ?_ ?_ | with_reducible intro _ | (((with_reducible refine vc_b ?_ ?_) <;> intro _) <;> try (simp -implicitDefEqProofs only [go_sem, rowsD_eq, rowD_eq, c.wrd_eq, c.nxt_eq, r1, r2, r3, r4, r5, r6, r7, t1, t2, t3, t4, t5, t6, t7, ha, ha2, hb, hb2, p1, o1, w5, eq_true hww, j1, j2, j3, j4, hI9, j5, j6, boolsD_len, boolsD_unif, onSome_bools, boolsD_set])) | simp (disch := omega) only [wrapI, wrapU, shl1, shl1', shl1'', shrN, shrN', and_one] | ((with_reducible refine isEx3 ?_); refine ⟨(_, _, _), rfl, ?_, ?_⟩) | ((with_reducible refine isEx2 ?_); refine ⟨(_, _), rfl, ?_, ?_⟩)
                            all_goals first | omega | exact o4 | (simp [o3]; done) | exact o3 | trace_state
                          · rw [if_neg (fun hh => hww hh.1)] at o4
                            (try (simp -implicitDefEqProofs only [go_sem, rowsD_eq, rowD_eq, c.wrd_eq, c.nxt_eq, r1, r2, r3, r6, t1, t2, t3, t6, ha, ha2, hb, hb2, p1, o1, w5, hww])); repeat' first | with_reducible exact True.intro | with_reducible refine And.intro ?_ ?_ | with_reducible intro _ | (((with_reducible refine vc_b ?_ ?_) <;> intro _) <;> try (simp -implicitDefEqProofs only [go_sem, rowsD_eq, rowD_eq, c.wrd_eq, c.nxt_eq, r1, r2, r3, r6, t1, t2, t3, t6, ha, ha2, hb, hb2, p1, o1, w5, hww])) | simp (disch := omega) only [wrapI, wrapU, shl1, shl1', shl1'', shrN, shrN', and_one] | ((with_reducible refine isEx3 ?_); refine ⟨(_, _, _), rfl, ?_, ?_⟩) | ((with_reducible refine isEx2 ?_); refine ⟨(_, _), rfl, ?_, ?_⟩)
                            all_goals first | omega | exact o4 | exact o3 | trace_state
                        · rw [show c.W - b.toNat = 0 by omega, foldN] at o4
                          rw [← o4] at p4
                          (try (simp -implicitDefEqProofs only [go_sem, rowsD_eq, rowD_eq, t1, t2, t3, t6, hb, w4])); repeat' first | with_reducible exact True.intro | with_reducible refine And.intro ?_ ?_ | with_reducible intro _ | (((with_reducible refine vc_b ?_ ?_) <;> intro _) <;> try (simp -implicitDefEqProofs only [go_sem, rowsD_eq, rowD_eq, t1, t2, t3, t6, hb, w4])) | simp (disch := omega) only [wrapI, wrapU, shl1, shl1', shl1'', shrN, shrN', and_one] | ((with_reducible refine isEx3 ?_); refine ⟨(_, _, _), rfl, ?_, ?_⟩) | ((with_reducible refine isEx2 ?_); refine ⟨(_, _), rfl, ?_, ?_⟩)
                          all_goals first | omega | exact p4 | exact o3 | trace_state
                    · rw [show c.W - a.toNat = 0 by omega, foldN] at p4
                      rw [← p4] at i5
                      (try (simp -implicitDefEqProofs only [go_sem, rowsD_eq, rowD_eq, r1, r2, r3, r6, ha, w3])); repeat' first | with_reducible exact True.intro | with_reducible refine And.intro ?_ ?_ | with_reducible intro _ | (((with_reducible refine vc_b ?_ ?_) <;> intro _) <;> try (simp -implicitDefEqProofs only [go_sem, rowsD_eq, rowD_eq, r1, r2, r3, r6, ha, w3])) | simp (disch := omega) only [wrapI, wrapU, shl1, shl1', shl1'', shrN, shrN', and_one] | ((with_reducible refine isEx3 ?_); refine ⟨(_, _, _), rfl, ?_, ?_⟩) | ((with_reducible refine isEx2 ?_); refine ⟨(_, _), rfl, ?_, ?_⟩)
                      all_goals first | omega | exact i5 | exact hat.symm | exact p3 | trace_state
              · rw [List.take_of_length_le (by omega)] at i3
                rw [show B.length - i.toNat = 0 by omega, foldN] at i5
                rw [← i5] at n4
                cases nn with
                | true =>
                  rw [if_pos i3.symm] at n4
                  rw [← n4]
                  (try (simp -implicitDefEqProofs only [go_sem, hi, boolsD_len])); repeat' first | with_reducible exact True.intro | with_reducible refine And.intro ?_ ?_ | with_reducible intro _ | (((with_reducible refine vc_b ?_ ?_) <;> intro _) <;> try (simp -implicitDefEqProofs only [go_sem, hi, boolsD_len])) | simp (disch := omega) only [wrapI, wrapU, shl1, shl1', shl1'', shrN, shrN', and_one] | ((with_reducible refine isEx3 ?_); refine ⟨(_, _, _), rfl, ?_, ?_⟩) | ((with_reducible refine isEx2 ?_); refine ⟨(_, _), rfl, ?_, ?_⟩)
                  all_goals first | omega | rfl | trace_state
                | false =>
                  rw [if_neg (by rw [← i3]; simp)] at n4
                  (try (simp -implicitDefEqProofs only [go_sem, hi, boolsD_len, w2])); repeat' first | with_reducible exact True.intro | with_reducible refine And.intro ?_ ?_ | with_reducible intro _ | (((with_reducible refine vc_b ?_ ?_) <;> intro _) <;> try (simp -implicitDefEqProofs only [go_sem, hi, boolsD_len, w2])) | simp (disch := omega) only [wrapI, wrapU, shl1, shl1', shl1'', shrN, shrN', and_one] | ((with_reducible refine isEx3 ?_); refine ⟨(_, _, _), rfl, ?_, ?_⟩) | ((with_reducible refine isEx2 ?_); refine ⟨(_, _), rfl, ?_, ?_⟩)
                  all_goals (first | omega | skip)
                  refine ⟨(n + 1, k', nx), rfl, ⟨show 1 ≤ n + 1 by omega, show n + 1 + (k' : Int) = M2 + 2 by omega, i4, n4⟩, Nat.lt_succ_self _⟩
          · have hk0 : k = 0 := by omega
            subst hk0
            have hr0 : R = (0, 3) := n4.symm
            rw [hr0]
            (try (simp -implicitDefEqProofs only [go_sem, hn, wM, wM1])); repeat' first | with_reducible exact True.intro | with_reducible refine And.intro ?_ ?_ | with_reducible intro _ | (((with_reducible refine vc_b ?_ ?_) <;> intro _) <;> try (simp -implicitDefEqProofs only [go_sem, hn, wM, wM1])) | simp (disch := omega) only [wrapI, wrapU, shl1, shl1', shl1'', shrN, shrN', and_one] | ((with_reducible refine isEx3 ?_); refine ⟨(_, _, _), rfl, ?_, ?_⟩) | ((with_reducible refine isEx2 ?_); refine ⟨(_, _), rfl, ?_, ?_⟩)
            all_goals first | omega | rfl | trace_state
end Go.Pw
