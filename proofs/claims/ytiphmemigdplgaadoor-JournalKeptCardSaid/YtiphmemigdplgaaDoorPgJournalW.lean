/- A part of the proof. -/
import Derived.Test.YtiphmemigdplgaaDoorJournalSpec3
import Derived.Test.YtiphmemigdplgaaDoorPwLoop
import Derived.Test.YtiphmemigdplgaaDoorJournalV
set_option linter.all false
section
open Go Go.Pw Go.Proofs
namespace Go.Pw
set_option linter.unusedSimpArgs false
set_option linter.unusedVariables false
set_option maxRecDepth 100000
set_option maxHeartbeats 3200000
theorem expN_next (ks : List GRec) (n : Int) (ws : List GWr) (i : Int) (h : 0 ≤ i) : expN ks n ws (i + 1).toNat = expN ks n ws i.toNat ++ [⟨n + i + 1, (ws[i.toNat]?.getD default).blk, (ws[i.toNat]?.getD default).val, (ws[i.toNat]?.getD default).tail, false⟩] := by
  rw [show (i + 1).toNat = i.toNat + 1 by omega, expN, show ((i.toNat : Nat) : Int) = i by omega]
theorem expT_next (ws : List GWr) (i : Int) (h : 0 ≤ i) : expT ws (i + 1).toNat = (ws[i.toNat]?.getD default).tail := by
  rw [show (i + 1).toNat = i.toNat + 1 by omega, expT]
theorem expF_next (e : Bool) (t : Int) (al : List GRec) (i : Int) (h : 0 ≤ i) : expF e t al (i + 1).toNat = expF e t al i.toNat ++ if e || decide (t ≤ (al[i.toNat]?.getD default).num) then [al[i.toNat]?.getD default] else [] := by
  rw [show (i + 1).toNat = i.toNat + 1 by omega, expF]
def pd_law16_expected : PC :=
  .seq (.reg [] (
    ⟨some 6, none, .mov, [.k (.d (.list true []))]⟩ ::
    []) [0, 1, 2])
  (.seq (.reg [] (
    ⟨some 12, none, .mkrow 5 (.agg [.int .i64 0, .int .i64 0, .int .i64 0, .int .i64 0, .bool false]) 0 [], []⟩ ::
    ⟨some 13, none, .mov, [.t 0]⟩ ::
    ⟨some 14, none, .app 40 5 none true, [.t 12, .t 13]⟩ ::
    ⟨some 7, none, .mov, [.t 14]⟩ ::
    []) [1, 2, 7])
  (.seq (.reg [] (
    ⟨some 8, none, .mov, [.k (.d (.int .i64 0))]⟩ ::
    []) [1, 2, 7, 8])
  (.seq (.seq (.reg [] (
    ⟨some 9, none, .mov, [.k (.d (.int .i64 0))]⟩ ::
    []) [1, 2, 7, 8, 9])
  (.block 0
    (.loop [] [1, 2, 7, 8, 9] [14, 43, 900001, 900002, 901001, 901002]
      (.seq (.seq (.reg [] (
        ⟨some 15, none, .mov, [.t 9]⟩ ::
        ⟨some 16, none, .mov, [.t 2]⟩ ::
        ⟨some 17, none, .len false, [.t 16]⟩ ::
        ⟨some 18, none, .bin .lss, [.t 15, .t 17]⟩ ::
        []) [1, 2, 7, 8, 9, 18])
      (.cond (.t 18)
        (.skip)
        (.exit 0)))
      (.seq (.block 1
        (.seq (.reg [] (
          ⟨some 21, none, .mov, [.t 1]⟩ ::
          ⟨some 22, none, .bin .add, [.t 21, .k (.d (.int .i64 1))]⟩ ::
          ⟨some 1, none, .mov, [.t 22]⟩ ::
          []) [1, 2, 7, 9])
        (.seq (.reg [] (
          ⟨some 23, none, .mov, [.t 2]⟩ ::
          ⟨some 24, none, .mov, [.t 9]⟩ ::
          ⟨some 25, none, .iaddrS 3, [.t 23, .t 24]⟩ ::
          ⟨some 26, none, .faddr 2, [.t 25]⟩ ::
          ⟨some 27, none, .load false 1, [.t 26]⟩ ::
          ⟨some 8, none, .mov, [.t 27]⟩ ::
          []) [1, 2, 7, 8, 9])
        (.draw [] (
          (⟨some 28, none, .mov, [.t 7]⟩, []) ::
          (⟨some 29, none, .mov, [.t 1]⟩, []) ::
          (⟨some 30, none, .mov, [.t 2]⟩, []) ::
          (⟨some 31, none, .mov, [.t 9]⟩, []) ::
          (⟨some 32, none, .iaddrS 3, [.t 30, .t 31]⟩, []) ::
          (⟨some 33, none, .faddr 0, [.t 32]⟩, []) ::
          (⟨some 34, none, .load false 1, [.t 33]⟩, []) ::
          (⟨some 35, none, .mov, [.t 2]⟩, []) ::
          (⟨some 36, none, .mov, [.t 9]⟩, []) ::
          (⟨some 37, none, .iaddrS 3, [.t 35, .t 36]⟩, []) ::
          (⟨some 38, none, .faddr 1, [.t 37]⟩, []) ::
          (⟨some 39, none, .load false 1, [.t 38]⟩, []) ::
          (⟨some 40, none, .mov, [.t 8]⟩, []) ::
          (⟨some 41, none, .build [.int .i64 0, .int .i64 0, .int .i64 0, .int .i64 0, .bool false] [(0, 1), (1, 1), (2, 1), (3, 1)], [.t 29, .t 34, .t 39, .t 40]⟩, []) ::
          (⟨some 42, none, .mkrow 5 (.agg [.int .i64 0, .int .i64 0, .int .i64 0, .int .i64 0, .bool false]) 1 [0], [.t 41]⟩, []) ::
          (⟨some 43, none, .app 40 5 none true, [.t 28, .t 42]⟩, []) ::
          (⟨some 7, none, .mov, [.t 43]⟩, []) ::
          []) [1, 2, 7, 8, 9]))))
      (.reg [] (
        ⟨some 19, none, .mov, [.t 9]⟩ ::
        ⟨some 20, none, .bin .add, [.t 19, .k (.d (.int .i64 1))]⟩ ::
        ⟨some 9, none, .mov, [.t 20]⟩ ::
        []) [1, 2, 7, 8, 9]))))))
  (.seq (.reg [] (
    ⟨some 10, none, .mov, [.k (.d (.list true []))]⟩ ::
    []) [2, 7, 8, 10])
  (.seq (.seq (.reg [] (
    ⟨some 11, none, .mov, [.k (.d (.int .i64 0))]⟩ ::
    []) [2, 7, 8, 10, 11])
  (.block 2
    (.loop [.freeze 7, .own 10 68 40 5] [2, 7, 8, 10, 11] [68, 900002, 901002]
      (.seq (.seq (.reg [] (
        ⟨some 44, none, .mov, [.t 11]⟩ ::
        ⟨some 45, none, .mov, [.t 7]⟩ ::
        ⟨some 46, none, .len false, [.t 45]⟩ ::
        ⟨some 47, none, .bin .lss, [.t 44, .t 46]⟩ ::
        []) [2, 7, 8, 10, 11, 47])
      (.cond (.t 47)
        (.skip)
        (.exit 2)))
      (.seq (.block 3
        (.seq (.reg [] (
          ⟨some 50, none, .mov, [.t 2]⟩ ::
          ⟨some 51, none, .len false, [.t 50]⟩ ::
          ⟨some 52, none, .bin .eql, [.t 51, .k (.d (.int .i64 0))]⟩ ::
          ⟨some 53, none, .mov, [.t 52]⟩ ::
          ⟨some 54, some (53, false), .mov, [.t 7]⟩ ::
          ⟨some 55, some (53, false), .mov, [.t 11]⟩ ::
          ⟨some 56, some (53, false), .iaddrS 5, [.t 54, .t 55]⟩ ::
          ⟨some 57, some (53, false), .faddr 0, [.t 56]⟩ ::
          ⟨some 58, some (53, false), .load false 1, [.t 57]⟩ ::
          ⟨some 59, some (53, false), .mov, [.t 8]⟩ ::
          ⟨some 60, some (53, false), .bin .geq, [.t 58, .t 59]⟩ ::
          ⟨some 61, none, .pick, [.t 53, .k (.d (.bool true)), .t 60]⟩ ::
          []) [2, 7, 8, 10, 11, 61])
        (.cond (.t 61)
          (.reg [] (
            ⟨some 62, none, .mov, [.t 10]⟩ ::
            ⟨some 63, none, .mov, [.t 7]⟩ ::
            ⟨some 64, none, .mov, [.t 11]⟩ ::
            ⟨some 65, none, .iaddrS 5, [.t 63, .t 64]⟩ ::
            ⟨some 66, none, .load true 5, [.t 65]⟩ ::
            ⟨some 67, none, .mkrow 5 (.agg [.int .i64 0, .int .i64 0, .int .i64 0, .int .i64 0, .bool false]) 1 [0], [.t 66]⟩ ::
            ⟨some 68, none, .app 40 5 none true, [.t 62, .t 67]⟩ ::
            ⟨some 10, none, .mov, [.t 68]⟩ ::
            []) [2, 7, 8, 10, 11])
          (.skip))))
      (.reg [] (
        ⟨some 48, none, .mov, [.t 11]⟩ ::
        ⟨some 49, none, .bin .add, [.t 48, .k (.d (.int .i64 1))]⟩ ::
        ⟨some 11, none, .mov, [.t 49]⟩ ::
        []) [2, 7, 8, 10, 11]))))))
  (.seq (.reg [] (
    ⟨some 69, none, .mov, [.t 10]⟩ ::
    ⟨some 6, none, .mov, [.t 69]⟩ ::
    []) [6])
  (.ret)))))))
theorem ded_law16_expected : Fun E0 F_law16_expected pd_law16_expected [.t 6] 70 := fun_of_dec (fl := [43]) (by kernel_rfl)

attribute [local congr] cg_pw cg_seqI cg_seqE cg_stepI cg_ev cg_evBin cg_condB cg_condV cg_thenQ cg_blockQ cg_onSome cg_onCells cg_onRow cg_onMap cg_onOpt cg_ghosts cg_ghost cg_evCall cg_part cg_rng cg_guardV cg_frzV cg_frpV cg_ownV cg_owcV cg_occV cg_occX cg_resK cg_res1 cg_yldP cg_rndE cg_onlyN cg_onHist
attribute [local irreducible] IntKind.wrap bitsOp Option.getD and or

theorem law16_expected_ret (nk : Bool) (ks : List GRec) (hkn : nk = true → ks = []) (n : Int) (nw : Bool) (ws : List GWr) (hk : ks.length ≤ 2000) (hw : ws.length ≤ 2000) (hn : -1 ≤ n ∧ n ≤ 2000) :
    Ret E0 F_law16_expected [.list nk (recsD ks), .int .i64 n, .list nw (wrsD ws)] (.list (expect ks n ws).isEmpty (recsD (expect ks n ws))) := by
  refine ret_of_pw ded_law16_expected mixed (by simp) fun hwf => ?_
  rw [enter_eq]; unfold pd_law16_expected
  by_cases hke : ks = []
  · subst hke
    (try (simp -implicitDefEqProofs only [go_sem, recsD_len, recsD_unif, recsD_nil, recsD_eqnil])); repeat' first | with_reducible exact True.intro | with_reducible refine And.intro ?_ ?_ | with_reducible intro _ | (((with_reducible refine vc_b ?_ ?_) <;> intro _) <;> try (simp -implicitDefEqProofs only [go_sem, recsD_len, recsD_unif, recsD_nil, recsD_eqnil])) | simp (disch := omega) only [wrapI, wrapU, shl1, shl1', shl1'', shrN, shrN', and_one] | ((with_reducible refine isEx4 ?_); refine ⟨(_, _, _, _), rfl, ?_, ?_⟩) | ((with_reducible refine isEx3 ?_); refine ⟨(_, _, _), rfl, ?_, ?_⟩) | ((with_reducible refine isEx ?_); refine ⟨_, rfl, ?_, ?_⟩)
    refine pw_loopP (S0 := ⟨look ?lA, ⟨lookO ?mA, fun _ => 1⟩⟩) (α := Int × Int × Int × List GRec) (fun x => [(9, .d (.int .i64 x.1)), (8, .d (.int .i64 x.2.1)), (1, .d (.int .i64 x.2.2.1))]) (fun x => [(43, .row 40 5 false (recsD x.2.2.2))]) (fun x => (1 ≤ x.1 ∧ x.1 ≤ ws.length) ∧ x.2.2.2 = expN [] n ws x.1.toNat ∧ x.2.1 = expT ws x.1.toNat ∧ x.2.2.1 = n + x.1) (fun x => (ws.length - x.1).toNat) ws.length
      [(1, .undef), (2, .d (.list nw (wrsD ws))), (7, .own 43 0), (8, .undef), (9, .undef)] [(43, (0, .row 40 5 false []))] ?h0 ?first ?step
    case h0 => (simp -implicitDefEqProofs only [go_sem, recsD_len, wrsD_len]; rfl)
    case first =>
      by_cases hi : 0 < ws.length
      · have hi' : (0 : Int) < ws.length := by omega
        obtain ⟨x, hx⟩ : ∃ x, ws[0]?.getD default = x := ⟨_, rfl⟩
        have w1 : IntKind.i64.wrap (0 + 1) = 1 := wrapI _ (by omega)
        have w2 : IntKind.i64.wrap (n + 1) = n + 1 := wrapI _ (by omega)
        (try (simp -implicitDefEqProofs only [go_sem, recsD_len, wrsD_len, onSome_wrs, wrsD_unif, wrD_eq, wrC_eq, recsD_unif, recsD_snoc, hx, hi, hi', w1, w2])); repeat' first | with_reducible exact True.intro | with_reducible refine And.intro ?_ ?_ | with_reducible intro _ | (((with_reducible refine vc_b ?_ ?_) <;> intro _) <;> try (simp -implicitDefEqProofs only [go_sem, recsD_len, wrsD_len, onSome_wrs, wrsD_unif, wrD_eq, wrC_eq, recsD_unif, recsD_snoc, hx, hi, hi', w1, w2])) | simp (disch := omega) only [wrapI, wrapU, shl1, shl1', shl1'', shrN, shrN', and_one] | ((with_reducible refine isEx4 ?_); refine ⟨(_, _, _, _), rfl, ?_, ?_⟩) | ((with_reducible refine isEx3 ?_); refine ⟨(_, _, _), rfl, ?_, ?_⟩) | ((with_reducible refine isEx ?_); refine ⟨_, rfl, ?_, ?_⟩)
        all_goals (try omega)
        have e1 := expN_next [] n ws 0 (by omega)
        rw [show (0 + 1 : Int).toNat = 1 from rfl, show (0 : Int).toNat = 0 from rfl, hx] at e1
        refine ⟨(1, x.tail, n + 1, [⟨n + 1, x.blk, x.val, x.tail, false⟩]), rfl, ⟨⟨by simp, by simp; omega⟩, ?_, ?_, by simp⟩, by simp; omega⟩
        · show _ = expN [] n ws 1
          rw [e1]; simp [expN]
        · show x.tail = expT ws 1
          rw [expT, hx]
      · have hi' : ¬ (0 : Int) < ws.length := by omega
        have hX : expect [] n ws = [] := by
          have : ws = [] := by cases ws with | nil => rfl | cons a b => simp at hi
          subst this; rfl
        rw [hX]
        (try (simp -implicitDefEqProofs only [go_sem, recsD_len, wrsD_len, hi'])); repeat' first | with_reducible exact True.intro | with_reducible refine And.intro ?_ ?_ | with_reducible intro _ | (((with_reducible refine vc_b ?_ ?_) <;> intro _) <;> try (simp -implicitDefEqProofs only [go_sem, recsD_len, wrsD_len, hi'])) | simp (disch := omega) only [wrapI, wrapU, shl1, shl1', shl1'', shrN, shrN', and_one] | ((with_reducible refine isEx4 ?_); refine ⟨(_, _, _, _), rfl, ?_, ?_⟩) | ((with_reducible refine isEx3 ?_); refine ⟨(_, _, _), rfl, ?_, ?_⟩) | ((with_reducible refine isEx ?_); refine ⟨_, rfl, ?_, ?_⟩)
        all_goals (try omega)
        refine pw_loopS (α := Int) (l0 := ?l1) (m0 := ?m1) (fun x => [(11, .d (.int .i64 x))]) (fun x => [(68, .row 40 5 true [])]) (fun x => x = 0) (fun x => 0) ?a1_0 ?h01 ?he1 ?he21 ?hI1 ?step1
        case h01 => (simp -implicitDefEqProofs only [go_sem, recsD_len, wrsD_len]; rfl)
        case he1 => rfl
        case he21 => rfl
        case' step1 => (rintro j hI; try dsimp only at hI)
        case' hI1 => try dsimp only
        subst hI
        (try (simp -implicitDefEqProofs only [go_sem, recsD_len, wrsD_len, hi'])); repeat' first | with_reducible exact True.intro | with_reducible refine And.intro ?_ ?_ | with_reducible intro _ | (((with_reducible refine vc_b ?_ ?_) <;> intro _) <;> try (simp -implicitDefEqProofs only [go_sem, recsD_len, wrsD_len, hi'])) | simp (disch := omega) only [wrapI, wrapU, shl1, shl1', shl1'', shrN, shrN', and_one] | ((with_reducible refine isEx4 ?_); refine ⟨(_, _, _, _), rfl, ?_, ?_⟩) | ((with_reducible refine isEx3 ?_); refine ⟨(_, _, _), rfl, ?_, ?_⟩) | ((with_reducible refine isEx ?_); refine ⟨_, rfl, ?_, ?_⟩)
        all_goals first | omega | rfl | trace_state
    case step =>
      rintro ⟨i, t, m, al⟩ ⟨⟨q1, q2⟩, q3, q4, q5⟩
      dsimp only at q1 q2 q3 q4 q5
      have q1' := q1
      replace q1 : 0 ≤ i := by omega
      by_cases hi : i < ws.length
      · have w1 : IntKind.i64.wrap (i + 1) = i + 1 := wrapI _ (by omega)
        have w2 : IntKind.i64.wrap (m + 1) = m + 1 := wrapI _ (by omega)
        have e1 := expN_next [] n ws i q1
        have e2 := expT_next ws i q1
        have hal := expN_len [] n ws i.toNat
        rw [← q3] at e1 hal
        obtain ⟨x, hx⟩ : ∃ x, ws[i.toNat]?.getD default = x := ⟨_, rfl⟩
        rw [hx] at e1 e2
        have e1' : al ++ [⟨m + 1, x.blk, x.val, x.tail, false⟩] = expN [] n ws (i + 1).toNat := by rw [e1, q5]
        have hal2 : al.length ≤ 4000 := by
          try simp at hal
          omega
        (try (simp -implicitDefEqProofs only [go_sem, recsD_len, wrsD_len, onSome_wrs, wrsD_unif, wrD_eq, wrC_eq, recsD_unif, recsD_snoc, hx, hi, q1, w1, w2])); repeat' first | with_reducible exact True.intro | with_reducible refine And.intro ?_ ?_ | with_reducible intro _ | (((with_reducible refine vc_b ?_ ?_) <;> intro _) <;> try (simp -implicitDefEqProofs only [go_sem, recsD_len, wrsD_len, onSome_wrs, wrsD_unif, wrD_eq, wrC_eq, recsD_unif, recsD_snoc, hx, hi, q1, w1, w2])) | simp (disch := omega) only [wrapI, wrapU, shl1, shl1', shl1'', shrN, shrN', and_one] | ((with_reducible refine isEx4 ?_); refine ⟨(_, _, _, _), rfl, ?_, ?_⟩) | ((with_reducible refine isEx3 ?_); refine ⟨(_, _, _), rfl, ?_, ?_⟩) | ((with_reducible refine isEx ?_); refine ⟨_, rfl, ?_, ?_⟩)
        all_goals first | omega | exact e1' | exact e2.symm | trace_state
      · have hEw : decide (ws.length = 0) = false ∨ decide (ws.length = 0) = true := by cases decide (ws.length = 0) <;> simp
        have hie : i.toNat = ws.length := by omega
        rw [hie] at q3 q4
        have hwi : ¬ i < (ws.length : Int) := by omega
        have hX : expect [] n ws = expF (decide (ws.length = 0)) t al al.length := by unfold expect; rw [← q3, ← q4]
        rw [hX]
        have hal : al.length ≤ 4000 := by
          have := expN_len [] n ws ws.length
          rw [← q3] at this
          try simp at this
          omega
        (try (simp -implicitDefEqProofs only [go_sem, recsD_len, wrsD_len, hwi])); repeat' first | with_reducible exact True.intro | with_reducible refine And.intro ?_ ?_ | with_reducible intro _ | (((with_reducible refine vc_b ?_ ?_) <;> intro _) <;> try (simp -implicitDefEqProofs only [go_sem, recsD_len, wrsD_len, hwi])) | simp (disch := omega) only [wrapI, wrapU, shl1, shl1', shl1'', shrN, shrN', and_one] | ((with_reducible refine isEx4 ?_); refine ⟨(_, _, _, _), rfl, ?_, ?_⟩) | ((with_reducible refine isEx3 ?_); refine ⟨(_, _, _), rfl, ?_, ?_⟩) | ((with_reducible refine isEx ?_); refine ⟨_, rfl, ?_, ?_⟩)
        all_goals (try omega)
        refine pw_loopS (α := Int × (List GRec) × Bool) (l0 := ?l2) (m0 := ?m2) (fun x => [(11, .d (.int .i64 x.1))]) (fun x => [(68, .row 40 5 x.2.2 (recsD x.2.1))]) (fun x => (0 ≤ x.1 ∧ x.1 ≤ al.length) ∧ x.2.1 = expF (decide (ws.length = 0)) t al x.1.toNat ∧ x.2.2 = x.2.1.isEmpty) (fun x => (al.length - x.1).toNat) (?a2_0, [], true) ?h02 ?he2 ?he22 ?hI2 ?step2
        case h02 => (simp -implicitDefEqProofs only [go_sem, recsD_len, wrsD_len]; rfl)
        case he2 => rfl
        case he22 => rfl
        case' step2 => (rintro ⟨j, out, b⟩ hI2; try dsimp only at hI2)
        case' hI2 => try dsimp only
        · exact ⟨⟨by omega, by omega⟩, rfl, rfl⟩
        · obtain ⟨⟨p1, p2⟩, p3, p4⟩ := hI2
          by_cases hj : j < al.length
          · have w3 : IntKind.i64.wrap (j + 1) = j + 1 := wrapI _ (by omega)
            have hnx := expF_next (decide (ws.length = 0)) t al j p1
            have hol := expF_len (decide (ws.length = 0)) t al j.toNat
            rw [← p3] at hnx hol
            have hemp := isEmpty_snocR out
            obtain ⟨r, hr⟩ : ∃ r, al[j.toNat]?.getD default = r := ⟨_, rfl⟩
            rw [hr] at hnx
            by_cases hw0 : (ws.length : Int) = 0
            · have hw0' : ws.length = 0 := by omega
              rw [decide_eq_true hw0', Bool.true_or, if_pos rfl] at hnx
              rw [decide_eq_true hw0']
              have hnx' : expF true t al (j + 1).toNat = out ++ [⟨r.num, r.blk, r.val, r.tail, r.bad⟩] := hnx
              (try (simp -implicitDefEqProofs only [go_sem, recsD_len, wrsD_len, onSome_recs, recsD_unif, recsD_snoc, recD_eq, recC_eq, hr, hj, p1, eq_true hw0, w3])); repeat' first | with_reducible exact True.intro | with_reducible refine And.intro ?_ ?_ | with_reducible intro _ | (((with_reducible refine vc_b ?_ ?_) <;> intro _) <;> try (simp -implicitDefEqProofs only [go_sem, recsD_len, wrsD_len, onSome_recs, recsD_unif, recsD_snoc, recD_eq, recC_eq, hr, hj, p1, eq_true hw0, w3])) | simp (disch := omega) only [wrapI, wrapU, shl1, shl1', shl1'', shrN, shrN', and_one] | ((with_reducible refine isEx4 ?_); refine ⟨(_, _, _, _), rfl, ?_, ?_⟩) | ((with_reducible refine isEx3 ?_); refine ⟨(_, _, _), rfl, ?_, ?_⟩) | ((with_reducible refine isEx ?_); refine ⟨_, rfl, ?_, ?_⟩)
              all_goals first | omega | exact hnx'.symm | exact (hemp _).symm | trace_state
            · have hw0' : ¬ ws.length = 0 := by omega
              rw [decide_eq_false hw0', Bool.false_or] at hnx
              rw [decide_eq_false hw0']
              by_cases ht : t ≤ r.num
              · rw [decide_eq_true ht, if_pos rfl] at hnx
                have hnx' : expF false t al (j + 1).toNat = out ++ [⟨r.num, r.blk, r.val, r.tail, r.bad⟩] := hnx
                (try (simp -implicitDefEqProofs only [go_sem, recsD_len, wrsD_len, onSome_recs, recsD_unif, recsD_snoc, recD_eq, recC_eq, hr, hj, p1, hw0, w3, eq_true ht])); repeat' first | with_reducible exact True.intro | with_reducible refine And.intro ?_ ?_ | with_reducible intro _ | (((with_reducible refine vc_b ?_ ?_) <;> intro _) <;> try (simp -implicitDefEqProofs only [go_sem, recsD_len, wrsD_len, onSome_recs, recsD_unif, recsD_snoc, recD_eq, recC_eq, hr, hj, p1, hw0, w3, eq_true ht])) | simp (disch := omega) only [wrapI, wrapU, shl1, shl1', shl1'', shrN, shrN', and_one] | ((with_reducible refine isEx4 ?_); refine ⟨(_, _, _, _), rfl, ?_, ?_⟩) | ((with_reducible refine isEx3 ?_); refine ⟨(_, _, _), rfl, ?_, ?_⟩) | ((with_reducible refine isEx ?_); refine ⟨_, rfl, ?_, ?_⟩)
                all_goals first | omega | exact hnx'.symm | exact (hemp _).symm | trace_state
              · rw [decide_eq_false ht] at hnx
                simp only [Bool.false_eq_true, if_false, List.append_nil] at hnx
                (try (simp -implicitDefEqProofs only [go_sem, recsD_len, wrsD_len, onSome_recs, recsD_unif, recsD_snoc, recD_eq, recC_eq, hr, hj, p1, hw0, w3, ht])); repeat' first | with_reducible exact True.intro | with_reducible refine And.intro ?_ ?_ | with_reducible intro _ | (((with_reducible refine vc_b ?_ ?_) <;> intro _) <;> try (simp -implicitDefEqProofs only [go_sem, recsD_len, wrsD_len, onSome_recs, recsD_unif, recsD_snoc, recD_eq, recC_eq, hr, hj, p1, hw0, w3, ht])) | simp (disch := omega) only [wrapI, wrapU, shl1, shl1', shl1'', shrN, shrN', and_one] | ((with_reducible refine isEx4 ?_); refine ⟨(_, _, _, _), rfl, ?_, ?_⟩) | ((with_reducible refine isEx3 ?_); refine ⟨(_, _, _), rfl, ?_, ?_⟩) | ((with_reducible refine isEx ?_); refine ⟨_, rfl, ?_, ?_⟩)
                all_goals first | omega | exact hnx.symm | assumption | trace_state
          · have hje : j.toNat = al.length := by omega
            rw [hje] at p3
            rw [← p3, ← p4]
            (try (simp -implicitDefEqProofs only [go_sem, recsD_len, wrsD_len, hj])); repeat' first | with_reducible exact True.intro | with_reducible refine And.intro ?_ ?_ | with_reducible intro _ | (((with_reducible refine vc_b ?_ ?_) <;> intro _) <;> try (simp -implicitDefEqProofs only [go_sem, recsD_len, wrsD_len, hj])) | simp (disch := omega) only [wrapI, wrapU, shl1, shl1', shl1'', shrN, shrN', and_one] | ((with_reducible refine isEx4 ?_); refine ⟨(_, _, _, _), rfl, ?_, ?_⟩) | ((with_reducible refine isEx3 ?_); refine ⟨(_, _, _), rfl, ?_, ?_⟩) | ((with_reducible refine isEx ?_); refine ⟨_, rfl, ?_, ?_⟩)
            all_goals first | omega | rfl | trace_state
  · have hk2 : (ks.length : Int) ≤ 2000 := by omega
    (try (simp -implicitDefEqProofs only [go_sem, recsD_len, recsD_unif, recsD_eqnil, hke])); repeat' first | with_reducible exact True.intro | with_reducible refine And.intro ?_ ?_ | with_reducible intro _ | (((with_reducible refine vc_b ?_ ?_) <;> intro _) <;> try (simp -implicitDefEqProofs only [go_sem, recsD_len, recsD_unif, recsD_eqnil, hke])) | simp (disch := omega) only [wrapI, wrapU, shl1, shl1', shl1'', shrN, shrN', and_one] | ((with_reducible refine isEx4 ?_); refine ⟨(_, _, _, _), rfl, ?_, ?_⟩) | ((with_reducible refine isEx3 ?_); refine ⟨(_, _, _), rfl, ?_, ?_⟩) | ((with_reducible refine isEx ?_); refine ⟨_, rfl, ?_, ?_⟩)
    all_goals (try omega)
    refine pw_loopS (α := Int × Int × Int × (List GRec)) (l0 := ?l3) (m0 := ?m3) (fun x => [(9, .d (.int .i64 x.1)), (8, .d (.int .i64 x.2.1)), (1, .d (.int .i64 x.2.2.1))]) (fun x => [(14, .row 40 5 false (recsD x.2.2.2))]) (fun x => (0 ≤ x.1 ∧ x.1 ≤ ws.length) ∧ x.2.2.2 = expN ks n ws x.1.toNat ∧ x.2.1 = expT ws x.1.toNat ∧ x.2.2.1 = n + x.1) (fun x => (ws.length - x.1).toNat) (?a3_0, ?a3_1, ?a3_2, ?a3_3) ?h03 ?he3 ?he23 ?hI3 ?step3
    case h03 => (simp -implicitDefEqProofs only [go_sem, recsD_len, wrsD_len]; rfl)
    case he3 => rfl
    case he23 => rfl
    case' step3 => (rintro ⟨i, t, m, al⟩ hI3; try dsimp only at hI3)
    case' hI3 => try dsimp only
    · exact ⟨⟨by omega, by omega⟩, rfl, rfl, by omega⟩
    · obtain ⟨⟨q1, q2⟩, q3, q4, q5⟩ := hI3
      by_cases hi : i < ws.length
      · have w1 : IntKind.i64.wrap (i + 1) = i + 1 := wrapI _ (by omega)
        have w2 : IntKind.i64.wrap (m + 1) = m + 1 := wrapI _ (by omega)
        have e1 := expN_next ks n ws i q1
        have e2 := expT_next ws i q1
        have hal := expN_len ks n ws i.toNat
        rw [← q3] at e1 hal
        obtain ⟨x, hx⟩ : ∃ x, ws[i.toNat]?.getD default = x := ⟨_, rfl⟩
        rw [hx] at e1 e2
        have e1' : al ++ [⟨m + 1, x.blk, x.val, x.tail, false⟩] = expN ks n ws (i + 1).toNat := by rw [e1, q5]
        have hal2 : al.length ≤ 4000 := by
          try simp at hal
          omega
        (try (simp -implicitDefEqProofs only [go_sem, recsD_len, wrsD_len, onSome_wrs, wrsD_unif, wrD_eq, wrC_eq, recsD_unif, recsD_snoc, hx, hi, q1, w1, w2])); repeat' first | with_reducible exact True.intro | with_reducible refine And.intro ?_ ?_ | with_reducible intro _ | (((with_reducible refine vc_b ?_ ?_) <;> intro _) <;> try (simp -implicitDefEqProofs only [go_sem, recsD_len, wrsD_len, onSome_wrs, wrsD_unif, wrD_eq, wrC_eq, recsD_unif, recsD_snoc, hx, hi, q1, w1, w2])) | simp (disch := omega) only [wrapI, wrapU, shl1, shl1', shl1'', shrN, shrN', and_one] | ((with_reducible refine isEx4 ?_); refine ⟨(_, _, _, _), rfl, ?_, ?_⟩) | ((with_reducible refine isEx3 ?_); refine ⟨(_, _, _), rfl, ?_, ?_⟩) | ((with_reducible refine isEx ?_); refine ⟨_, rfl, ?_, ?_⟩)
        all_goals first | omega | exact e1' | exact e2.symm | trace_state
      · have hEw : decide (ws.length = 0) = false ∨ decide (ws.length = 0) = true := by cases decide (ws.length = 0) <;> simp
        have hie : i.toNat = ws.length := by omega
        rw [hie] at q3 q4
        have hwi : ¬ i < (ws.length : Int) := by omega
        have hX : expect ks n ws = expF (decide (ws.length = 0)) t al al.length := by unfold expect; rw [← q3, ← q4]
        rw [hX]
        have hal : al.length ≤ 4000 := by
          have := expN_len ks n ws ws.length
          rw [← q3] at this
          try simp at this
          omega
        (try (simp -implicitDefEqProofs only [go_sem, recsD_len, wrsD_len, hwi])); repeat' first | with_reducible exact True.intro | with_reducible refine And.intro ?_ ?_ | with_reducible intro _ | (((with_reducible refine vc_b ?_ ?_) <;> intro _) <;> try (simp -implicitDefEqProofs only [go_sem, recsD_len, wrsD_len, hwi])) | simp (disch := omega) only [wrapI, wrapU, shl1, shl1', shl1'', shrN, shrN', and_one] | ((with_reducible refine isEx4 ?_); refine ⟨(_, _, _, _), rfl, ?_, ?_⟩) | ((with_reducible refine isEx3 ?_); refine ⟨(_, _, _), rfl, ?_, ?_⟩) | ((with_reducible refine isEx ?_); refine ⟨_, rfl, ?_, ?_⟩)
        all_goals (try omega)
        refine pw_loopS (α := Int × (List GRec) × Bool) (l0 := ?l4) (m0 := ?m4) (fun x => [(11, .d (.int .i64 x.1))]) (fun x => [(68, .row 40 5 x.2.2 (recsD x.2.1))]) (fun x => (0 ≤ x.1 ∧ x.1 ≤ al.length) ∧ x.2.1 = expF (decide (ws.length = 0)) t al x.1.toNat ∧ x.2.2 = x.2.1.isEmpty) (fun x => (al.length - x.1).toNat) (?a4_0, [], true) ?h04 ?he4 ?he24 ?hI4 ?step4
        case h04 => (simp -implicitDefEqProofs only [go_sem, recsD_len, wrsD_len]; rfl)
        case he4 => rfl
        case he24 => rfl
        case' step4 => (rintro ⟨j, out, b⟩ hI4; try dsimp only at hI4)
        case' hI4 => try dsimp only
        · exact ⟨⟨by omega, by omega⟩, rfl, rfl⟩
        · obtain ⟨⟨p1, p2⟩, p3, p4⟩ := hI4
          by_cases hj : j < al.length
          · have w3 : IntKind.i64.wrap (j + 1) = j + 1 := wrapI _ (by omega)
            have hnx := expF_next (decide (ws.length = 0)) t al j p1
            have hol := expF_len (decide (ws.length = 0)) t al j.toNat
            rw [← p3] at hnx hol
            have hemp := isEmpty_snocR out
            obtain ⟨r, hr⟩ : ∃ r, al[j.toNat]?.getD default = r := ⟨_, rfl⟩
            rw [hr] at hnx
            by_cases hw0 : (ws.length : Int) = 0
            · have hw0' : ws.length = 0 := by omega
              rw [decide_eq_true hw0', Bool.true_or, if_pos rfl] at hnx
              rw [decide_eq_true hw0']
              have hnx' : expF true t al (j + 1).toNat = out ++ [⟨r.num, r.blk, r.val, r.tail, r.bad⟩] := hnx
              (try (simp -implicitDefEqProofs only [go_sem, recsD_len, wrsD_len, onSome_recs, recsD_unif, recsD_snoc, recD_eq, recC_eq, hr, hj, p1, eq_true hw0, w3])); repeat' first | with_reducible exact True.intro | with_reducible refine And.intro ?_ ?_ | with_reducible intro _ | (((with_reducible refine vc_b ?_ ?_) <;> intro _) <;> try (simp -implicitDefEqProofs only [go_sem, recsD_len, wrsD_len, onSome_recs, recsD_unif, recsD_snoc, recD_eq, recC_eq, hr, hj, p1, eq_true hw0, w3])) | simp (disch := omega) only [wrapI, wrapU, shl1, shl1', shl1'', shrN, shrN', and_one] | ((with_reducible refine isEx4 ?_); refine ⟨(_, _, _, _), rfl, ?_, ?_⟩) | ((with_reducible refine isEx3 ?_); refine ⟨(_, _, _), rfl, ?_, ?_⟩) | ((with_reducible refine isEx ?_); refine ⟨_, rfl, ?_, ?_⟩)
              all_goals first | omega | exact hnx'.symm | exact (hemp _).symm | trace_state
            · have hw0' : ¬ ws.length = 0 := by omega
              rw [decide_eq_false hw0', Bool.false_or] at hnx
              rw [decide_eq_false hw0']
              by_cases ht : t ≤ r.num
              · rw [decide_eq_true ht, if_pos rfl] at hnx
                have hnx' : expF false t al (j + 1).toNat = out ++ [⟨r.num, r.blk, r.val, r.tail, r.bad⟩] := hnx
                (try (simp -implicitDefEqProofs only [go_sem, recsD_len, wrsD_len, onSome_recs, recsD_unif, recsD_snoc, recD_eq, recC_eq, hr, hj, p1, hw0, w3, eq_true ht])); repeat' first | with_reducible exact True.intro | with_reducible refine And.intro ?_ ?_ | with_reducible intro _ | (((with_reducible refine vc_b ?_ ?_) <;> intro _) <;> try (simp -implicitDefEqProofs only [go_sem, recsD_len, wrsD_len, onSome_recs, recsD_unif, recsD_snoc, recD_eq, recC_eq, hr, hj, p1, hw0, w3, eq_true ht])) | simp (disch := omega) only [wrapI, wrapU, shl1, shl1', shl1'', shrN, shrN', and_one] | ((with_reducible refine isEx4 ?_); refine ⟨(_, _, _, _), rfl, ?_, ?_⟩) | ((with_reducible refine isEx3 ?_); refine ⟨(_, _, _), rfl, ?_, ?_⟩) | ((with_reducible refine isEx ?_); refine ⟨_, rfl, ?_, ?_⟩)
                all_goals first | omega | exact hnx'.symm | exact (hemp _).symm | trace_state
              · rw [decide_eq_false ht] at hnx
                simp only [Bool.false_eq_true, if_false, List.append_nil] at hnx
                (try (simp -implicitDefEqProofs only [go_sem, recsD_len, wrsD_len, onSome_recs, recsD_unif, recsD_snoc, recD_eq, recC_eq, hr, hj, p1, hw0, w3, ht])); repeat' first | with_reducible exact True.intro | with_reducible refine And.intro ?_ ?_ | with_reducible intro _ | (((with_reducible refine vc_b ?_ ?_) <;> intro _) <;> try (simp -implicitDefEqProofs only [go_sem, recsD_len, wrsD_len, onSome_recs, recsD_unif, recsD_snoc, recD_eq, recC_eq, hr, hj, p1, hw0, w3, ht])) | simp (disch := omega) only [wrapI, wrapU, shl1, shl1', shl1'', shrN, shrN', and_one] | ((with_reducible refine isEx4 ?_); refine ⟨(_, _, _, _), rfl, ?_, ?_⟩) | ((with_reducible refine isEx3 ?_); refine ⟨(_, _, _), rfl, ?_, ?_⟩) | ((with_reducible refine isEx ?_); refine ⟨_, rfl, ?_, ?_⟩)
                all_goals first | omega | exact hnx.symm | assumption | trace_state
          · have hje : j.toNat = al.length := by omega
            rw [hje] at p3
            rw [← p3, ← p4]
            (try (simp -implicitDefEqProofs only [go_sem, recsD_len, wrsD_len, hj])); repeat' first | with_reducible exact True.intro | with_reducible refine And.intro ?_ ?_ | with_reducible intro _ | (((with_reducible refine vc_b ?_ ?_) <;> intro _) <;> try (simp -implicitDefEqProofs only [go_sem, recsD_len, wrsD_len, hj])) | simp (disch := omega) only [wrapI, wrapU, shl1, shl1', shl1'', shrN, shrN', and_one] | ((with_reducible refine isEx4 ?_); refine ⟨(_, _, _, _), rfl, ?_, ?_⟩) | ((with_reducible refine isEx3 ?_); refine ⟨(_, _, _), rfl, ?_, ?_⟩) | ((with_reducible refine isEx ?_); refine ⟨_, rfl, ?_, ?_⟩)
            all_goals first | omega | rfl | trace_state
end Go.Pw
end
section
open Go Go.Pw Go.Proofs
namespace Go.Pw
set_option linter.unusedSimpArgs false
set_option linter.unusedVariables false
set_option maxRecDepth 100000
set_option maxHeartbeats 3200000
theorem cutS_all (s : List GRec) (es : List GWr) : cutS s es es.length false = putN s es es.length := rfl
theorem kept_succ {l : GLog} (g : l.Good) (hf : l.full = true) {i : Nat} (hi : i + 1 < l.kept.length) : (l.kept[i + 1]?.getD default).num = (l.kept[i]?.getD default).num + 1 := by
  rw [kept_len] at hi
  obtain ⟨r, h1, h2, h3, h4⟩ := kept_good g hf (i := i) (by omega)
  obtain ⟨r', h1', h2', h3', h4'⟩ := kept_good g hf (i := i + 1) hi
  rw [h1, h1', h3, h3']; omega
theorem kept_num {l : GLog} (g : l.Good) (hf : l.full = true) {i : Nat} (hi : i < l.kept.length) : 0 ≤ (l.kept[i]?.getD default).num ∧ (l.kept[i]?.getD default).num ≤ 2001 := by
  have hm := many_bound g
  obtain ⟨n1, n2, n3⟩ := newest_good g
  rw [kept_len] at hi
  obtain ⟨r, h1, h2, h3, h4⟩ := kept_good g hf (i := i) hi
  rw [h1, h3]; omega
attribute [local congr] cg_pw cg_seqI cg_seqE cg_stepI cg_ev cg_evBin cg_condB cg_condV cg_thenQ cg_blockQ cg_onSome cg_onCells cg_onRow cg_onMap cg_onOpt cg_ghosts cg_ghost cg_evCall cg_part cg_rng cg_guardV cg_frzV cg_frpV cg_ownV cg_owcV cg_occV cg_occX cg_resK cg_res1 cg_yldP cg_rndE cg_onlyN cg_onHist
attribute [local irreducible] IntKind.wrap bitsOp Option.getD and or

theorem JournalKept_ret (l : GLog) (hs : l.sn = true → l.slots = []) (hz : l.disk.zn = true → l.disk.zones = []) (nw : Bool) (es : List GWr) :
    Ret E0 F_law16_JournalKept [logD l, .list nw (wrsD es)] (.bool true) := by
  refine ret_of_pw dec_law16_JournalKept mixed (by simp) fun hwf => ?_
  have c0 := law16_ready_ret l
  have cw := law16_works_ret
  rw [enter_eq]; unfold pc_law16_JournalKept
  cases hf : l.rdy with
  | false =>
    rw [hf] at c0
    (try (simp -implicitDefEqProofs only [go_sem, logD_eq, logC_eq])); repeat' first | with_reducible exact True.intro | with_reducible refine And.intro ?_ ?_ | with_reducible intro _ | (((with_reducible refine isCall ?_); first | refine call_b (c0) rfl ?_ ?_ | refine call_d (c0) rfl ?_ | refine call_sb (c0) rfl ?_ ?_ | refine call_s (c0) rfl rfl ?_ | refine call_b (cw) rfl ?_ ?_ | refine call_d (cw) rfl ?_ | refine call_sb (cw) rfl ?_ ?_ | refine call_s (cw) rfl rfl ?_) <;> try (simp -implicitDefEqProofs only [go_sem, logD_eq, logC_eq])) | (((with_reducible refine vc_b ?_ ?_) <;> intro _) <;> try (simp -implicitDefEqProofs only [go_sem, logD_eq, logC_eq])) | simp (disch := omega) only [wrapI, wrapU, shl1, shl1', shl1'', shrN, shrN', and_one] | ((with_reducible refine isEx ?_); refine ⟨_, rfl, ?_, ?_⟩)
    all_goals trace_state
  | true =>
    rw [hf] at c0
    have he := rdy_open hf
    obtain ⟨e1, e2⟩ := openE_0 he
    have g := check_good e1
    by_cases h40 : 40 < (es.length : Int)
    · (try (simp -implicitDefEqProofs only [go_sem, logD_eq, logC_eq, wrsD_len, h40])); repeat' first | with_reducible exact True.intro | with_reducible refine And.intro ?_ ?_ | with_reducible intro _ | (((with_reducible refine isCall ?_); first | refine call_b (c0) rfl ?_ ?_ | refine call_d (c0) rfl ?_ | refine call_sb (c0) rfl ?_ ?_ | refine call_s (c0) rfl rfl ?_ | refine call_b (cw) rfl ?_ ?_ | refine call_d (cw) rfl ?_ | refine call_sb (cw) rfl ?_ ?_ | refine call_s (cw) rfl rfl ?_) <;> try (simp -implicitDefEqProofs only [go_sem, logD_eq, logC_eq, wrsD_len, h40])) | (((with_reducible refine vc_b ?_ ?_) <;> intro _) <;> try (simp -implicitDefEqProofs only [go_sem, logD_eq, logC_eq, wrsD_len, h40])) | simp (disch := omega) only [wrapI, wrapU, shl1, shl1', shl1'', shrN, shrN', and_one] | ((with_reducible refine isEx ?_); refine ⟨_, rfl, ?_, ?_⟩)
      all_goals trace_state
    · have k1 := cutE_of he es es.length false (by omega) (fun h => by cases h)
      have c1 := journal_Recover_ret l hs hz
      rw [recE_of he, he] at c1
      have c2 := journal_Append_ret l hs hz nw es
      rw [k1] at c2
      have hkb : l.kept.length ≤ 1001 := by rw [kept_len]; exact many_bound g
      by_cases hE : errN l.blocks l.slots es es.length = 0
      · have c3 := ref16_Newest_ret l
        have n2 := (newest_good g).2.1
        rw [hE] at k1
        obtain ⟨a1, a2, a3⟩ := cut_all (torn := false) e1 e2 hE (Nat.le_refl _) (fun h => by cases h)
        have gp := putN_good g es es.length hE
        have fp := putN_full g e2 es es.length hE
        have kp := putN_expect g e2 es es.length (Nat.le_refl _) hE
        rw [List.take_length] at kp
        have c5 := law16_expected_ret l.kept.isEmpty l.kept (fun h => by simpa using h) l.newest.num nw es (by omega) (by omega) (by omega)
        rw [← kp] at c5
        have hnu := fun i hi => kept_num gp fp (i := i) hi
        have hsu := fun i hi => kept_succ gp fp (i := i) hi
        have hKb : (l.setS (putN l.slots es es.length)).kept.length ≤ 1001 := by rw [kept_len]; exact many_bound gp
        have a1' : (l.cutL es es.length false).openE = 0 := by rw [cutL_of k1]; exact a1
        have a2' : (l.cutL es es.length false).kept = (l.setS (putN l.slots es es.length)).kept := by rw [cutL_of k1]; exact a2
        have c4 := journal_Recover_ret (l.cutL es es.length false) cutL_sn cutL_zn
        rw [recE_of a1', a2', a1'] at c4
        rw [hE] at c2
        generalize l.cutL es es.length false = L1 at *
        generalize (l.setS (putN l.slots es es.length)).kept = K at *
        generalize l.kept = K0 at *
        obtain ⟨nn, hnn⟩ : ∃ nn, l.newest.num = nn := ⟨_, rfl⟩
        rw [hnn] at c3 c5
        have c6 := law16_sameRecords_ret K.isEmpty K.isEmpty K K true (by simp)
        (try (simp -implicitDefEqProofs only [go_sem, logD_eq, logC_eq, wrsD_len, recsD_len, h40])); repeat' first | with_reducible exact True.intro | with_reducible refine And.intro ?_ ?_ | with_reducible intro _ | (((with_reducible refine isCall ?_); first | refine call_b (c0) rfl ?_ ?_ | refine call_d (c0) rfl ?_ | refine call_sb (c0) rfl ?_ ?_ | refine call_s (c0) rfl rfl ?_ | refine call_b (cw) rfl ?_ ?_ | refine call_d (cw) rfl ?_ | refine call_sb (cw) rfl ?_ ?_ | refine call_s (cw) rfl rfl ?_ | refine call_b (c1) rfl ?_ ?_ | refine call_d (c1) rfl ?_ | refine call_sb (c1) rfl ?_ ?_ | refine call_s (c1) rfl rfl ?_ | refine call_b (c2) rfl ?_ ?_ | refine call_d (c2) rfl ?_ | refine call_sb (c2) rfl ?_ ?_ | refine call_s (c2) rfl rfl ?_ | refine call_b (c3) rfl ?_ ?_ | refine call_d (c3) rfl ?_ | refine call_sb (c3) rfl ?_ ?_ | refine call_s (c3) rfl rfl ?_ | refine call_b (c4) rfl ?_ ?_ | refine call_d (c4) rfl ?_ | refine call_sb (c4) rfl ?_ ?_ | refine call_s (c4) rfl rfl ?_ | refine call_b (c5) rfl ?_ ?_ | refine call_d (c5) rfl ?_ | refine call_sb (c5) rfl ?_ ?_ | refine call_s (c5) rfl rfl ?_ | refine call_b (c6) rfl ?_ ?_ | refine call_d (c6) rfl ?_ | refine call_sb (c6) rfl ?_ ?_ | refine call_s (c6) rfl rfl ?_) <;> try (simp -implicitDefEqProofs only [go_sem, logD_eq, logC_eq, wrsD_len, recsD_len, h40])) | (((with_reducible refine vc_b ?_ ?_) <;> intro _) <;> try (simp -implicitDefEqProofs only [go_sem, logD_eq, logC_eq, wrsD_len, recsD_len, h40])) | simp (disch := omega) only [wrapI, wrapU, shl1, shl1', shl1'', shrN, shrN', and_one] | ((with_reducible refine isEx ?_); refine ⟨_, rfl, ?_, ?_⟩)
        all_goals (try omega)
        refine pw_loopS (α := Int) (l0 := ?l1) (m0 := ?m1) (fun x => [(13, .d (.int .i64 x))]) (fun x => []) (fun x => 1 ≤ x ∧ x ≤ 2000) (fun x => (2001 - x).toNat) ?a1_0 ?h01 ?he1 ?he21 ?hI1 ?step1
        case h01 => (simp -implicitDefEqProofs only [go_sem, recsD_len]; rfl)
        case he1 => rfl
        case he21 => rfl
        case' step1 => (rintro i hI; try dsimp only at hI)
        case' hI1 => try dsimp only
        · exact ⟨by omega, by omega⟩
        · obtain ⟨q1, q2⟩ := hI
          by_cases hi : i < K.length
          · have w1 : IntKind.i64.wrap (i + 1) = i + 1 := wrapI _ (by omega)
            have w2 : IntKind.i64.wrap (i - 1) = i - 1 := wrapI _ (by omega)
            have hn := hsu (i - 1).toNat (by omega)
            rw [show (i - 1).toNat + 1 = i.toNat by omega] at hn
            obtain ⟨r, hr⟩ : ∃ r, K[i.toNat]?.getD default = r := ⟨_, rfl⟩
            obtain ⟨r', hr'⟩ : ∃ r, K[(i - 1).toNat]?.getD default = r := ⟨_, rfl⟩
            rw [hr, hr'] at hn
            have q3 : 0 ≤ i := by omega
            have q4 : 0 ≤ i - 1 := by omega
            have q5 : i - 1 < K.length := by omega
            have q6 : (i - 1).toNat < K.length := by omega
            have hb := hnu (i - 1).toNat q6
            rw [hr'] at hb
            have w3 : IntKind.i64.wrap (r'.num + 1) = r'.num + 1 := wrapI _ (by omega)
            have hn' : (r'.num + 1 = r.num) = True := eq_true hn.symm
            have hn'' : (r.num = r'.num + 1) = True := eq_true hn
            (try (simp -implicitDefEqProofs only [go_sem, recsD_len, onSome_recs, recsD_unif, recD_eq, recC_eq, hr, hr', hi, q3, q4, q5, q6, w1, w2, w3, hn', hn''])); repeat' first | with_reducible exact True.intro | with_reducible refine And.intro ?_ ?_ | with_reducible intro _ | (((with_reducible refine vc_b ?_ ?_) <;> intro _) <;> try (simp -implicitDefEqProofs only [go_sem, recsD_len, onSome_recs, recsD_unif, recD_eq, recC_eq, hr, hr', hi, q3, q4, q5, q6, w1, w2, w3, hn', hn''])) | simp (disch := omega) only [wrapI, wrapU, shl1, shl1', shl1'', shrN, shrN', and_one] | ((with_reducible refine isEx ?_); refine ⟨_, rfl, ?_, ?_⟩)
            all_goals first | omega | rfl | trace_state
          · (try (simp -implicitDefEqProofs only [go_sem, recsD_len, hi])); repeat' first | with_reducible exact True.intro | with_reducible refine And.intro ?_ ?_ | with_reducible intro _ | (((with_reducible refine isCall ?_); first | refine call_b (cw) rfl ?_ ?_ | refine call_d (cw) rfl ?_ | refine call_sb (cw) rfl ?_ ?_ | refine call_s (cw) rfl rfl ?_) <;> try (simp -implicitDefEqProofs only [go_sem, recsD_len, hi])) | (((with_reducible refine vc_b ?_ ?_) <;> intro _) <;> try (simp -implicitDefEqProofs only [go_sem, recsD_len, hi])) | simp (disch := omega) only [wrapI, wrapU, shl1, shl1', shl1'', shrN, shrN', and_one] | ((with_reducible refine isEx ?_); refine ⟨_, rfl, ?_, ?_⟩)
            all_goals first | omega | rfl | trace_state
      · rcases errN_kind l.blocks l.slots es es.length with hx | hx | hx | hx
        · exact absurd hx hE
        all_goals
          rw [hx] at c2
          (try (simp -implicitDefEqProofs only [go_sem, logD_eq, logC_eq, wrsD_len, recsD_len, h40])); repeat' first | with_reducible exact True.intro | with_reducible refine And.intro ?_ ?_ | with_reducible intro _ | (((with_reducible refine isCall ?_); first | refine call_b (c0) rfl ?_ ?_ | refine call_d (c0) rfl ?_ | refine call_sb (c0) rfl ?_ ?_ | refine call_s (c0) rfl rfl ?_ | refine call_b (cw) rfl ?_ ?_ | refine call_d (cw) rfl ?_ | refine call_sb (cw) rfl ?_ ?_ | refine call_s (cw) rfl rfl ?_ | refine call_b (c1) rfl ?_ ?_ | refine call_d (c1) rfl ?_ | refine call_sb (c1) rfl ?_ ?_ | refine call_s (c1) rfl rfl ?_ | refine call_b (c2) rfl ?_ ?_ | refine call_d (c2) rfl ?_ | refine call_sb (c2) rfl ?_ ?_ | refine call_s (c2) rfl rfl ?_) <;> try (simp -implicitDefEqProofs only [go_sem, logD_eq, logC_eq, wrsD_len, recsD_len, h40])) | (((with_reducible refine vc_b ?_ ?_) <;> intro _) <;> try (simp -implicitDefEqProofs only [go_sem, logD_eq, logC_eq, wrsD_len, recsD_len, h40])) | simp (disch := omega) only [wrapI, wrapU, shl1, shl1', shl1'', shrN, shrN', and_one] | ((with_reducible refine isEx ?_); refine ⟨_, rfl, ?_, ?_⟩)
          all_goals first | omega | rfl | trace_state
end Go.Pw
end
