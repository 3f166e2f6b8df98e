/- A part of the proof. -/
import Derived.Test.YtgeodifpcminpaaCodesHy
set_option linter.all false
open Go Go.Pw Go.Proofs
namespace Go.Pw
set_option linter.unusedSimpArgs false
set_option linter.unusedVariables false
set_option maxRecDepth 100000
set_option maxHeartbeats 6400000
theorem tripsD_snoc0 (l : List Trip) (a z s : Int) (o : Bool) : tripsD l ++ [.agg [.int .i64 a, .int .i64 z, .bool o, .int .i64 s, .list true []]] = tripsD (l ++ [((a, z, o), s, [])]) := by simp [tripsD, tripD, ints]
theorem tripsD_snoc1 (l : List Trip) (a z s : Int) (o : Bool) (d : List Int) (w : Int) : tripsD l ++ [.agg [.int .i64 a, .int .i64 z, .bool o, .int .i64 s, .list false (ints (d ++ [w]))]] = tripsD (l ++ [((a, z, o), s, d ++ [w])]) := by simp [tripsD, tripD, ints]
theorem queue0_next (c : GCode) (i : Int) (h0 : 0 ≤ i) (h : i < c.words.length) : c.queue0.take (i + 1).toNat = c.queue0.take i.toNat ++ [((i, 0, false), i, [])] := by
  rw [show (i + 1).toNat = i.toNat + 1 by omega, List.take_add_one]
  congr 1
  unfold GCode.queue0 GCode.starts
  simp [show i.toNat < c.words.length by omega]
  omega
def GCode.holdsT (c : GCode) : D := if c.ok then c.holdsD else .tup [.bool false, .agg [.int .i64 0, .list true []], .int .i64 40]
def pd_codes_Holds : PC :=
  .seq (.reg [] (
    ⟨some 1, none, .box, [.t 0]⟩ ::
    ⟨some 2, none, .mov, [.k (.d (.bool false))]⟩ ::
    ⟨some 3, none, .zero [.int .i64 0, .list true []], []⟩ ::
    ⟨some 4, none, .mov, [.k (.d (.int .i64 0))]⟩ ::
    []) [1, 3])
  (.seq (.reg [] (
    ⟨some 15, none, .load true 6, [.t 1]⟩ ::
    ⟨some 16, none, .build [.int .i64 0, .int .i64 0, .int .i64 0, .int .i64 0, .list true [], .list true []] [(0, 6)], [.t 15]⟩ ::
    ⟨some 5, none, .zero [.int .i64 0, .int .i64 0, .int .i64 0, .int .i64 0, .list true [], .list true []], []⟩ ::
    ⟨none, none, .store 6, [.t 5, .t 16]⟩ ::
    []) [1, 3, 5])
  (.seq (.seq (.reg [] (
    ⟨some 17, none, .load true 6, [.t 1]⟩ ::
    ⟨some 18, none, .call 33, [.t 17]⟩ ::
    ⟨some 6, none, .mov, [.t 18]⟩ ::
    []) [3, 5, 6])
  (.seq (.reg [] (
    ⟨some 19, none, .mov, [.t 6]⟩ ::
    ⟨some 20, none, .bin .neq, [.t 19, .k (.d (.int .i64 0))]⟩ ::
    []) [3, 5, 6, 20])
  (.cond (.t 20)
    (.seq (.reg [] (
      ⟨some 21, none, .build [.int .i64 0, .list true []] [], []⟩ ::
      ⟨some 22, none, .mov, [.t 6]⟩ ::
      ⟨some 2, none, .mov, [.k (.d (.bool false))]⟩ ::
      ⟨none, none, .store 2, [.t 3, .t 21]⟩ ::
      ⟨some 4, none, .mov, [.t 22]⟩ ::
      []) [2, 3, 4])
    (.ret))
    (.skip))))
  (.seq (.reg [] (
    ⟨some 7, none, .mov, [.k (.d (.list true []))]⟩ ::
    []) [3, 5, 7])
  (.seq (.reg [] (
    ⟨some 23, none, .mkmap (true, [some .i64, some .i64, none]), []⟩ ::
    ⟨some 8, none, .mov, [.t 23]⟩ ::
    []) [3, 5, 7, 8])
  (.seq (.seq (.reg [] (
    ⟨some 24, none, .faddr 0, [.t 5]⟩ ::
    ⟨some 25, none, .faddr 4, [.t 24]⟩ ::
    ⟨some 26, none, .load false 1, [.t 25]⟩ ::
    ⟨some 27, none, .len false, [.t 26]⟩ ::
    ⟨some 28, none, .mov, [.k (.d (.int .i64 0))]⟩ ::
    []) [3, 5, 7, 8, 27, 28])
  (.block 0
    (.loop [.own 7 38 101 5] [3, 5, 7, 8, 27, 28] [3, 5, 23, 38, 68, 71, 96, 10068, 900000, 901000]
      (.seq (.reg [] (
        ⟨some 29, none, .bin .lss, [.t 28, .t 27]⟩ ::
        []) [3, 5, 7, 8, 27, 28, 29])
      (.seq (.cond (.t 29)
        (.skip)
        (.exit 0))
      (.seq (.block 1
        (.seq (.reg [] (
          ⟨some 30, none, .mov, [.t 28]⟩ ::
          ⟨some 9, none, .mov, [.t 30]⟩ ::
          []) [3, 5, 7, 8, 9, 27, 28])
        (.reg [] (
          ⟨some 31, none, .mov, [.t 7]⟩ ::
          ⟨some 32, none, .mov, [.t 9]⟩ ::
          ⟨some 33, none, .build [.int .i64 0, .int .i64 0, .bool false] [(0, 1)], [.t 32]⟩ ::
          ⟨some 34, none, .mov, [.t 9]⟩ ::
          ⟨some 35, none, .build [.int .i64 0, .list true []] [(0, 1)], [.t 34]⟩ ::
          ⟨some 36, none, .build [.int .i64 0, .int .i64 0, .bool false, .int .i64 0, .list true []] [(0, 3), (3, 2)], [.t 33, .t 35]⟩ ::
          ⟨some 37, none, .mkrow 5 (.agg [.int .i64 0, .int .i64 0, .bool false, .int .i64 0, .list true []]) 1 [0], [.t 36]⟩ ::
          ⟨some 38, none, .app 101 5 none true, [.t 31, .t 37]⟩ ::
          ⟨some 7, none, .mov, [.t 38]⟩ ::
          []) [3, 5, 7, 8, 27, 28])))
      (.reg [] (
        ⟨some 39, none, .bin .add, [.t 28, .k (.d (.int .i64 1))]⟩ ::
        ⟨some 28, none, .mov, [.t 39]⟩ ::
        []) [3, 5, 7, 8, 27, 28])))))))
  (.seq (.block 2
    (.loop [] [3, 5, 7, 8] [3, 5, 23, 38, 68, 71, 96, 10068, 900000, 901000]
      (.seq (.seq (.reg [] (
        ⟨some 40, none, .mov, [.t 7]⟩ ::
        ⟨some 41, none, .len false, [.t 40]⟩ ::
        ⟨some 42, none, .bin .gtr, [.t 41, .k (.d (.int .i64 0))]⟩ ::
        []) [3, 5, 7, 8, 42])
      (.cond (.t 42)
        (.skip)
        (.exit 2)))
      (.block 3
        (.seq (.reg [] (
          ⟨some 43, none, .mov, [.t 7]⟩ ::
          ⟨some 44, none, .iaddrS 5, [.t 43, .k (.d (.int .i64 0))]⟩ ::
          ⟨some 45, none, .load true 5, [.t 44]⟩ ::
          ⟨some 10, none, .zero [.int .i64 0, .int .i64 0, .bool false, .int .i64 0, .list true []], []⟩ ::
          ⟨none, none, .store 5, [.t 10, .t 45]⟩ ::
          []) [3, 5, 7, 8, 10])
        (.seq (.reg [] (
          ⟨some 46, none, .mov, [.t 7]⟩ ::
          ⟨some 47, none, .slice 5 true false false, [.t 46, .k (.d (.int .i64 1))]⟩ ::
          ⟨some 7, none, .mov, [.t 47]⟩ ::
          []) [3, 5, 7, 8, 10])
        (.seq anyR
        (.seq (.seq (.reg [] (
          ⟨some 55, none, .mov, [.t 8]⟩ ::
          ⟨some 56, none, .faddr 0, [.t 10]⟩ ::
          ⟨some 57, none, .load true 3, [.t 56]⟩ ::
          ⟨some 58, none, .lookup false (true, [some .i64, some .i64, none]) (.int .i64 0), [.t 55, .t 57]⟩ ::
          ⟨some 59, none, .bin .gtr, [.t 58, .k (.d (.int .i64 1))]⟩ ::
          []) [3, 5, 7, 8, 10, 59])
        (.cond (.t 59)
          (.exit 3)
          (.skip)))
        (.seq (.reg [] (
          ⟨some 60, none, .load true 6, [.t 5]⟩ ::
          ⟨some 61, none, .call 49, [.t 60]⟩ ::
          ⟨some 62, none, .mov, [.k (.d (.int .i64 0))]⟩ ::
          []) [3, 5, 7, 8, 10, 61, 62])
        (.block 4
          (.loop [] [3, 5, 7, 8, 10, 61, 62] [3, 5, 10, 23, 38, 61, 68, 71, 96, 10061, 10068, 900000, 901000]
            (.seq (.reg [] (
              ⟨some 63, none, .bin .lss, [.t 62, .t 61]⟩ ::
              []) [3, 5, 7, 8, 10, 61, 62, 63])
            (.seq (.cond (.t 63)
              (.skip)
              (.exit 4))
            (.seq (.block 5
              (.seq (.reg [] (
                ⟨some 64, none, .mov, [.t 62]⟩ ::
                ⟨some 11, none, .mov, [.t 64]⟩ ::
                []) [3, 5, 7, 8, 10, 11, 61, 62])
              (.seq (.reg [] (
                ⟨some 65, none, .faddr 3, [.t 10]⟩ ::
                ⟨some 66, none, .faddr 1, [.t 65]⟩ ::
                ⟨some 67, none, .load false 1, [.t 66]⟩ ::
                ⟨some 68, none, .call 64, [.t 67]⟩ ::
                ⟨some 69, none, .mov, [.t 11]⟩ ::
                ⟨some 70, none, .mkrow 1 (.int .i64 0) 1 [0], [.t 69]⟩ ::
                ⟨some 71, none, .app 3 1 none true, [.t 68, .t 70]⟩ ::
                ⟨some 12, none, .mov, [.t 71]⟩ ::
                []) [3, 5, 7, 8, 10, 11, 12, 61, 62])
              (.seq (.reg [] (
                ⟨some 73, none, .load true 6, [.t 5]⟩ ::
                ⟨some 74, none, .faddr 0, [.t 10]⟩ ::
                ⟨some 75, none, .load true 3, [.t 74]⟩ ::
                ⟨some 76, none, .mov, [.t 11]⟩ ::
                ⟨some 77, none, .call 65, [.t 73, .t 75, .t 76]⟩ ::
                ⟨some 72, none, .mov, [.t 77]⟩ ::
                ⟨some 78, none, .extract 0, [.t 72]⟩ ::
                ⟨some 79, none, .extract 1, [.t 72]⟩ ::
                ⟨some 13, none, .zero [.int .i64 0, .int .i64 0, .bool false], []⟩ ::
                ⟨none, none, .store 3, [.t 13, .t 78]⟩ ::
                ⟨some 14, none, .mov, [.t 79]⟩ ::
                []) [3, 5, 7, 8, 10, 12, 13, 14, 61, 62])
              (.seq (.seq (.reg [] (
                ⟨some 80, none, .mov, [.t 14]⟩ ::
                ⟨some 81, none, .un .not, [.t 80]⟩ ::
                []) [3, 5, 7, 8, 10, 12, 13, 61, 62, 81])
              (.cond (.t 81)
                (.seq (.draw [.freeze 12] (
                  (⟨some 82, none, .faddr 3, [.t 10]⟩, []) ::
                  (⟨some 83, none, .faddr 0, [.t 82]⟩, []) ::
                  (⟨some 84, none, .load false 1, [.t 83]⟩, []) ::
                  (⟨some 85, none, .mov, [.t 12]⟩, []) ::
                  (⟨some 86, none, .build [.int .i64 0, .list true []] [(0, 1), (1, 1)], [.t 84, .t 85]⟩, []) ::
                  (⟨some 2, none, .mov, [.k (.d (.bool false))]⟩, []) ::
                  (⟨none, none, .store 2, [.t 3, .t 86]⟩, []) ::
                  (⟨some 4, none, .mov, [.k (.d (.int .i64 0))]⟩, []) ::
                  []) [2, 3, 4])
                (.ret))
                (.skip)))
              (.reg [.freeze 12] (
                ⟨some 87, none, .mov, [.t 7]⟩ ::
                ⟨some 88, none, .load true 3, [.t 13]⟩ ::
                ⟨some 89, none, .faddr 3, [.t 10]⟩ ::
                ⟨some 90, none, .faddr 0, [.t 89]⟩ ::
                ⟨some 91, none, .load false 1, [.t 90]⟩ ::
                ⟨some 92, none, .mov, [.t 12]⟩ ::
                ⟨some 93, none, .build [.int .i64 0, .list true []] [(0, 1), (1, 1)], [.t 91, .t 92]⟩ ::
                ⟨some 94, none, .build [.int .i64 0, .int .i64 0, .bool false, .int .i64 0, .list true []] [(0, 3), (3, 2)], [.t 88, .t 93]⟩ ::
                ⟨some 95, none, .mkrow 5 (.agg [.int .i64 0, .int .i64 0, .bool false, .int .i64 0, .list true []]) 1 [0], [.t 94]⟩ ::
                ⟨some 96, none, .app 101 5 none true, [.t 87, .t 95]⟩ ::
                ⟨some 7, none, .mov, [.t 96]⟩ ::
                []) [3, 5, 7, 8, 10, 61, 62]))))))
            (.reg [] (
              ⟨some 97, none, .bin .add, [.t 62, .k (.d (.int .i64 1))]⟩ ::
              ⟨some 62, none, .mov, [.t 97]⟩ ::
              []) [3, 5, 7, 8, 10, 61, 62])))))))))))))))
  (.seq (.reg [] (
    ⟨some 98, none, .build [.int .i64 0, .list true []] [], []⟩ ::
    ⟨some 2, none, .mov, [.k (.d (.bool true))]⟩ ::
    ⟨none, none, .store 2, [.t 3, .t 98]⟩ ::
    ⟨some 4, none, .mov, [.k (.d (.int .i64 0))]⟩ ::
    []) [2, 3, 4])
  (.ret))))))))
theorem ded_codes_Holds : Fun E0 F_codes_Holds pd_codes_Holds [.t 2, .c 3 63 true 2, .t 4] 99 := fun_of_dec (fl := []) (by kernel_rfl)

theorem tripsD_snoc2 (l : List Trip) (a z s : Int) (o : Bool) (w : Int) : tripsD l ++ [.agg [.int .i64 a, .int .i64 z, .bool o, .int .i64 s, .list false [.int .i64 w]]] = tripsD (l ++ [((a, z, o), s, [] ++ [w])]) := by simp [tripsD, tripD, ints]
theorem bfsW_none {c : GCode} {t : Trip} {w : Int} {Qp : List Trip} (h0 : 0 ≤ w) (hw : w < c.W) (hs : c.stp t.1 w = none) : c.bfsW t (c.W - w.toNat) w Qp = .bad t.2.1 (t.2.2 ++ [w]) := by
  rw [show c.W - w.toNat = (c.W - w.toNat - 1) + 1 by omega, GCode.bfsW, hs]
theorem bfsW_some {c : GCode} {t : Trip} {w : Int} {Qp : List Trip} {r : GRun} (h0 : 0 ≤ w) (hw : w < c.W) (hs : c.stp t.1 w = some r) : c.bfsW t (c.W - w.toNat) w Qp = c.bfsW t (c.W - (w + 1).toNat) (w + 1) (Qp ++ [(r, t.2.1, t.2.2 ++ [w])]) := by
  rw [show c.W - w.toNat = (c.W - (w + 1).toNat) + 1 by omega, GCode.bfsW, hs]
theorem W_pow (c : GCode) : (2 : Int) ^ c.bits.toNat = c.W := by unfold GCode.W; simp
theorem lookK_old (a z : Int) (o : Bool) (v : Int) (m : RMemo) : lookK (.agg [.int .i64 a, .int .i64 z, .bool o]) (memG (setG (a, z, o) v m)) = some (.int .i64 v) := by rw [lookK_run', lookG_set]; rfl
attribute [local congr] cg_pw cg_seqI cg_seqE cg_stepI cg_ev cg_evBin cg_condB cg_condV cg_thenQ cg_blockQ cg_onSome cg_onCells cg_onRow cg_onMap cg_onOpt cg_ghosts cg_ghost cg_evCall cg_part cg_rng cg_guardV cg_frzV cg_frpV cg_ownV cg_owcV cg_occV cg_occX cg_resK cg_res1 cg_yldP cg_rndE cg_onlyN cg_onHist
attribute [local irreducible] IntKind.wrap bitsOp Option.getD and or

theorem Clone_codes_own (xs : List Int) (hl : xs.length ≤ 1000) (hne : 0 < xs.length) : CallM E0 F_slices_Clone_int_int [] [.d (.list false (ints xs))] [(7, 1, .row 3 1 false (ints xs))] (.own 7 1) := by
  refine callM_of_pw dec_slices_Clone_int_int mixed (by simp) (by simp [okV0, nodupB, lim]) (by simp [hasN]) fun hwf hwo => ?_
  rw [enterM_eq]; unfold pc_slices_Clone_int_int
  have hn : ¬ xs = [] := by intro h; rw [h] at hne; simp at hne
  (try (simp -implicitDefEqProofs only [go_sem, hn])); repeat' first | with_reducible exact True.intro | with_reducible refine And.intro ?_ ?_ | with_reducible intro _ | (((with_reducible refine vc_b ?_ ?_) <;> intro _) <;> try (simp -implicitDefEqProofs only [go_sem, hn])) | simp (disch := omega) only [wrapI, wrapU, shl1, shl1', shl1'', shrN, shrN', and_one] 
  all_goals first | omega | rfl
theorem Clone_codes_nil : Ret E0 F_slices_Clone_int_int [.list true []] (.list true []) := by
  refine ret_of_pw dec_slices_Clone_int_int mixed (by simp) fun hwf => ?_
  rw [enter_eq]; unfold pc_slices_Clone_int_int
  (try (simp -implicitDefEqProofs only [go_sem])); repeat' first | with_reducible exact True.intro | with_reducible refine And.intro ?_ ?_ | with_reducible intro _ | (((with_reducible refine vc_b ?_ ?_) <;> intro _) <;> try (simp -implicitDefEqProofs only [go_sem])) | simp (disch := omega) only [wrapI, wrapU, shl1, shl1', shl1'', shrN, shrN', and_one] 
  all_goals first | omega | rfl

theorem codes_Holds_ret (c : GCode) : Ret E0 F_codes_Holds [codeD c] c.holdsT := by
  refine ret_of_pw ded_codes_Holds mixed (by simp) fun hwf => ?_
  have c1 := codes_Check_ret c
  unfold GCode.holdsT
  rw [enter_eq]; unfold pd_codes_Holds
  cases h : c.ok with
  | false =>
    rw [h] at c1
    (try (simp -implicitDefEqProofs only [go_sem, codeD_eq, codeC_eq, errI])); repeat' first | with_reducible exact True.intro | with_reducible refine And.intro ?_ ?_ | with_reducible intro _ | (((with_reducible refine isCall ?_); first | refine call_b (c1) rfl ?_ ?_ | refine call_d (c1) rfl ?_ | refine call_sb (c1) rfl ?_ ?_ | refine call_s (c1) rfl rfl ?_) <;> try (simp -implicitDefEqProofs only [go_sem, codeD_eq, codeC_eq, errI])) | (((with_reducible refine vc_b ?_ ?_) <;> intro _) <;> try (simp -implicitDefEqProofs only [go_sem, codeD_eq, codeC_eq, errI])) | simp (disch := omega) only [wrapI, wrapU, shl1, shl1', shl1'', shrN, shrN', and_one] | ((with_reducible refine isEx3 ?_); refine ⟨(_, _, _), rfl, ?_, ?_⟩) | ((with_reducible refine isEx2 ?_); refine ⟨(_, _), rfl, ?_, ?_⟩)
    all_goals trace_state
  | true =>
    rw [h] at c1
    have hd := GCode.ok_head h
    unfold GCode.holdsD
    have hR := bfsR_ok h
    have hRR : c.bfsR = c.bfs 600 c.queue0 [] := rfl
    generalize c.bfsR = R at *
    simp only [if_true]
    (try (simp -implicitDefEqProofs only [go_sem, codeD_eq, codeC_eq, errI, rowsD_eq])); repeat' first | with_reducible exact True.intro | with_reducible refine And.intro ?_ ?_ | with_reducible intro _ | (((with_reducible refine isCall ?_); first | refine call_b (c1) rfl ?_ ?_ | refine call_d (c1) rfl ?_ | refine call_sb (c1) rfl ?_ ?_ | refine call_s (c1) rfl rfl ?_) <;> try (simp -implicitDefEqProofs only [go_sem, codeD_eq, codeC_eq, errI, rowsD_eq])) | (((with_reducible refine vc_b ?_ ?_) <;> intro _) <;> try (simp -implicitDefEqProofs only [go_sem, codeD_eq, codeC_eq, errI, rowsD_eq])) | simp (disch := omega) only [wrapI, wrapU, shl1, shl1', shl1'', shrN, shrN', and_one] | ((with_reducible refine isEx3 ?_); refine ⟨(_, _, _), rfl, ?_, ?_⟩) | ((with_reducible refine isEx2 ?_); refine ⟨(_, _), rfl, ?_, ?_⟩)
    all_goals (try omega)
    refine pw_loopS (α := Int × (List Trip) × Bool) (l0 := ?l1) (m0 := ?m1) (fun x => [(28, .d (.int .i64 x.1))]) (fun x => [(38, .row 101 5 x.2.2 (tripsD x.2.1))]) (fun x => (0 ≤ x.1 ∧ x.1 ≤ c.words.length) ∧ x.2.1 = c.queue0.take x.1.toNat ∧ x.2.2 = x.2.1.isEmpty) (fun x => (c.words.length - x.1).toNat) (?a1_0, [], true) ?h01 ?he1 ?he21 ?hI1 ?step1
    case h01 => (simp -implicitDefEqProofs only [go_sem, rowsD_eq]; rfl)
    case he1 => rfl
    case he21 => rfl
    case' step1 => (rintro ⟨i, Q, b⟩ hI; try dsimp only at hI)
    case' hI1 => try dsimp only
    · exact ⟨⟨by omega, by omega⟩, rfl, rfl⟩
    · obtain ⟨⟨q1, q2⟩, q3, q4⟩ := hI
      by_cases hi : i < c.words.length
      · have w1 : IntKind.i64.wrap (i + 1) = i + 1 := wrapI _ (by omega)
        have hnx := queue0_next c i q1 hi
        rw [← q3] at hnx
        have hql : Q.length ≤ 4 := by rw [q3, List.length_take]; omega
        (try (simp -implicitDefEqProofs only [go_sem, tripsD_len, tripsD_unif, tripsD_snoc0, hi, w1])); repeat' first | with_reducible exact True.intro | with_reducible refine And.intro ?_ ?_ | with_reducible intro _ | (((with_reducible refine vc_b ?_ ?_) <;> intro _) <;> try (simp -implicitDefEqProofs only [go_sem, tripsD_len, tripsD_unif, tripsD_snoc0, hi, w1])) | simp (disch := omega) only [wrapI, wrapU, shl1, shl1', shl1'', shrN, shrN', and_one] | ((with_reducible refine isEx3 ?_); refine ⟨(_, _, _), rfl, ?_, ?_⟩) | ((with_reducible refine isEx2 ?_); refine ⟨(_, _), rfl, ?_, ?_⟩)
        all_goals first | omega | exact hnx.symm | (simp; done) | trace_state
      · have hQ : Q = c.queue0 := by
          rw [q3, List.take_of_length_le]; unfold GCode.queue0 GCode.starts; simp; omega
        have hb : b = false := by
          rw [q4, hQ]; unfold GCode.queue0 GCode.starts
          cases hw : c.words.length with
          | zero => omega
          | succ n => simp [List.range_succ]
        subst hb
        (try (simp -implicitDefEqProofs only [go_sem, hi])); repeat' first | with_reducible exact True.intro | with_reducible refine And.intro ?_ ?_ | with_reducible intro _ | (((with_reducible refine vc_b ?_ ?_) <;> intro _) <;> try (simp -implicitDefEqProofs only [go_sem, hi])) | simp (disch := omega) only [wrapI, wrapU, shl1, shl1', shl1'', shrN, shrN', and_one] | ((with_reducible refine isEx3 ?_); refine ⟨(_, _, _), rfl, ?_, ?_⟩) | ((with_reducible refine isEx2 ?_); refine ⟨(_, _), rfl, ?_, ?_⟩)
        all_goals (try omega)
        refine pw_loopS (α := Nat × (List Trip) × RMemo) (l0 := ?l2) (m0 := ?m2) (fun x => []) (fun x => [(38, .row 101 5 false (tripsD x.2.1)), (23, .map tyR (memG x.2.2))]) (fun x => BfsJ c x.2.1 (x.2.2.map (·.1)) ∧ x.1 ≤ 600 ∧ (∀ e, e ∈ x.2.2 → 1 ≤ e.2 ∧ e.2 + x.1 ≤ 600) ∧ bfsM x.2.1 (x.2.2.map (·.1)) < x.1 ∧ c.bfs x.1 x.2.1 (x.2.2.map (·.1)) = R) (fun x => x.1) (600, ?a2_1, []) ?h02 ?he2 ?he22 ?hI2 ?step2
        case h02 => (simp -implicitDefEqProofs only [go_sem, tripsD_len]; rfl)
        case he2 => rfl
        case he22 => rfl
        case' step2 => (rintro ⟨k, Q, m⟩ hI2; try dsimp only at hI2)
        case' hI2 => try dsimp only
        · refine ⟨by rw [hQ]; exact BfsJ.start h, by omega, fun e he => (by cases he), ?_, by rw [hQ]; exact hRR.symm⟩
          rw [hQ]; unfold bfsM GCode.queue0 GCode.starts; simp; omega
        · obtain ⟨j, q8, q5, q6, q7⟩ := hI2
          cases Q with
          | nil =>
            have hr : R = none := by
              rw [← q7]
              cases k with
              | zero => rfl
              | succ k => rfl
            rw [hr]
            simp only
            (try (simp -implicitDefEqProofs only [go_sem, tripsD_len, tripsD_nil])); repeat' first | with_reducible exact True.intro | with_reducible refine And.intro ?_ ?_ | with_reducible intro _ | (((with_reducible refine vc_b ?_ ?_) <;> intro _) <;> try (simp -implicitDefEqProofs only [go_sem, tripsD_len, tripsD_nil])) | simp (disch := omega) only [wrapI, wrapU, shl1, shl1', shl1'', shrN, shrN', and_one] | ((with_reducible refine isEx3 ?_); refine ⟨(_, _, _), rfl, ?_, ?_⟩) | ((with_reducible refine isEx2 ?_); refine ⟨(_, _), rfl, ?_, ?_⟩)
            all_goals first | omega | rfl | trace_state
          | cons t Q' =>
            obtain ⟨⟨a, z, o⟩, s0, d⟩ := t
            obtain ⟨k', rfl⟩ : ∃ k', k = k' + 1 := ⟨k - 1, by omega⟩
            have hQl : 0 < (((a, z, o), s0, d) :: Q').length := by simp
            have hQ0 : (((a, z, o), s0, d) :: Q')[0]?.getD default = ((a, z, o), s0, d) := by simp
            have hQd : (((a, z, o), s0, d) :: Q').drop 1 = Q' := rfl
            have hbl : Q'.length ≤ 600 := by unfold bfsM at q6; simp only [List.length_cons] at q6; omega
            have hml : m.length ≤ 104 := by have := j.len h; simpa using this
            have hdl : d.length ≤ 104 := by have := j.f ((a, z, o), s0, d) (by simp); simp at this; omega
            have hrun : c.RunOk (a, z, o) := by
              obtain ⟨a1, a2, a3⟩ := j.a ((a, z, o), s0, d) (by simp)
              exact path_ok h (start_ok h a1) a2 a3
            have hbfs : c.bfs (k' + 1) (((a, z, o), s0, d) :: Q') (m.map (·.1)) = if (a, z, o) ∈ m.map (·.1) then c.bfs k' Q' (m.map (·.1)) else match c.bfsW ((a, z, o), s0, d) c.W 0 Q' with
              | .bad s d => some (s, d)
              | .go Q2 => c.bfs k' Q2 (m.map (·.1) ++ [(a, z, o)]) := rfl
            have hold := fun hin => j.old (t := ((a, z, o), s0, d)) hin
            have hnew := fun Q2 hin hq => j.new (t := ((a, z, o), s0, d)) (Q' := Q2) h hin hq
            have hmq : bfsM (((a, z, o), s0, d) :: Q') (m.map (·.1)) = bfsM Q' (m.map (·.1)) + 1 := by unfold bfsM; simp; omega
            obtain ⟨QQ, hQQ⟩ : ∃ QQ, ((a, z, o), s0, d) :: Q' = QQ := ⟨_, rfl⟩
            rw [hQQ] at hQl hQ0 hQd q6 q7 hbfs hmq ⊢
            have hQl' : (0 : Int) < QQ.length := by omega
            (try (simp -implicitDefEqProofs only [go_sem, tripsD_len, tripsD_unif, onSome_trips, hQ0, hQl, hQl', tripD_eq, tripsD_drop, hQd])); repeat' first | with_reducible exact True.intro | with_reducible refine And.intro ?_ ?_ | with_reducible intro _ | (((with_reducible refine vc_b ?_ ?_) <;> intro _) <;> try (simp -implicitDefEqProofs only [go_sem, tripsD_len, tripsD_unif, onSome_trips, hQ0, hQl, hQl', tripD_eq, tripsD_drop, hQd])) | simp (disch := omega) only [wrapI, wrapU, shl1, shl1', shl1'', shrN, shrN', and_one] | ((with_reducible refine isEx3 ?_); refine ⟨(_, _, _), rfl, ?_, ?_⟩) | ((with_reducible refine isEx2 ?_); refine ⟨(_, _), rfl, ?_, ?_⟩)
            all_goals (try omega)
            by_cases hin : (a, z, o) ∈ m.map (·.1)
            · rw [if_pos hin] at hbfs
              obtain ⟨v, hv⟩ : ∃ v, lookG (a, z, o) m = some v := by
                cases hl : lookG (a, z, o) m with
                | none => exact absurd hin (lookG_none.1 hl)
                | some v => exact ⟨v, rfl⟩
              have hvb := q5 _ (lookG_mem hv)
              simp only at hvb
              refine anyR_old (by omega) (v := v) (by omega) hv ?_
              have hlk := lookK_old a z o (v + 1) m
              have hgt : 1 < v + 1 := by omega
              (try (simp -implicitDefEqProofs only [go_sem, hlk, hgt])); repeat' first | with_reducible exact True.intro | with_reducible refine And.intro ?_ ?_ | with_reducible intro _ | (((with_reducible refine vc_b ?_ ?_) <;> intro _) <;> try (simp -implicitDefEqProofs only [go_sem, hlk, hgt])) | simp (disch := omega) only [wrapI, wrapU, shl1, shl1', shl1'', shrN, shrN', and_one] | ((with_reducible refine isEx3 ?_); refine ⟨(_, _, _), rfl, ?_, ?_⟩) | ((with_reducible refine isEx2 ?_); refine ⟨(_, _), rfl, ?_, ?_⟩)
              all_goals (try omega)
              have hkeys : (setG (a, z, o) (v + 1) m).map (·.1) = m.map (·.1) := by rw [setG_keys, if_pos hin]
              refine ⟨(k', Q', setG (a, z, o) (v + 1) m), rfl, ⟨?_, ?_, ?_, ?_, ?_⟩, Nat.lt_succ_self _⟩
              · show BfsJ c Q' ((setG (a, z, o) (v + 1) m).map (·.1)); rw [hkeys]; exact hold hin
              · show k' ≤ 600; omega
              · intro e he
                show 1 ≤ e.2 ∧ e.2 + (k' : Int) ≤ 600
                rcases setG_mem he with rfl | he'
                · simp only; omega
                · have := q5 e he'; omega
              · show bfsM Q' ((setG (a, z, o) (v + 1) m).map (·.1)) < k'; rw [hkeys]; omega
              · show c.bfs k' Q' ((setG (a, z, o) (v + 1) m).map (·.1)) = R; rw [hkeys, ← hbfs]; exact q7
            · rw [if_neg hin] at hbfs
              have hnone := lookG_none.2 hin
              refine anyR_new (by omega) hnone ?_
              have hlk := lookK_old a z o 1 m
              rw [setG_new hnone 1] at hlk
              have cw := codes_code_words_ret c (by omega)
              rw [codeD_eq, codeC_eq, W_pow] at cw
              have hW4 := W_le h
              obtain ⟨G, hG⟩ : ∃ G, c.bfsW ((a, z, o), s0, d) c.W 0 Q' = G := ⟨_, rfl⟩
              (try (simp -implicitDefEqProofs only [go_sem, hlk, codeD_eq, codeC_eq, rowsD_eq])); repeat' first | with_reducible exact True.intro | with_reducible refine And.intro ?_ ?_ | with_reducible intro _ | (((with_reducible refine isCall ?_); first | refine call_b (cw) rfl ?_ ?_ | refine call_d (cw) rfl ?_ | refine call_sb (cw) rfl ?_ ?_ | refine call_s (cw) rfl rfl ?_) <;> try (simp -implicitDefEqProofs only [go_sem, hlk, codeD_eq, codeC_eq, rowsD_eq])) | (((with_reducible refine vc_b ?_ ?_) <;> intro _) <;> try (simp -implicitDefEqProofs only [go_sem, hlk, codeD_eq, codeC_eq, rowsD_eq])) | simp (disch := omega) only [wrapI, wrapU, shl1, shl1', shl1'', shrN, shrN', and_one] | ((with_reducible refine isEx3 ?_); refine ⟨(_, _, _), rfl, ?_, ?_⟩) | ((with_reducible refine isEx2 ?_); refine ⟨(_, _), rfl, ?_, ?_⟩)
              all_goals (try omega)
              refine pw_loopS (α := Int × (List Trip)) (l0 := ?l3) (m0 := ?m3) (fun x => [(62, .d (.int .i64 x.1))]) (fun x => [(38, .row 101 5 false (tripsD x.2))]) (fun x => (0 ≤ x.1 ∧ x.1 ≤ c.W) ∧ x.2.length ≤ 600 + x.1 ∧ c.bfsW ((a, z, o), s0, d) (c.W - x.1.toNat) x.1 x.2 = G) (fun x => (c.W - x.1).toNat) (?a3_0, ?a3_1) ?h03 ?he3 ?he23 ?hI3 ?step3
              case h03 => (simp -implicitDefEqProofs only [go_sem, tripsD_len]; rfl)
              case he3 => rfl
              case he23 => rfl
              case' step3 => (rintro ⟨w, Qp⟩ hI3; try dsimp only at hI3)
              case' hI3 => try dsimp only
              · exact ⟨⟨by omega, by omega⟩, by omega, hG⟩
              · obtain ⟨⟨p1, p2⟩, p4, p3⟩ := hI3
                by_cases hw : w < c.W
                · have w1 : IntKind.i64.wrap (w + 1) = w + 1 := wrapI _ (by omega)
                  have hword : c.isWord w = true := word_iff.1 ⟨p1, by omega⟩
                  by_cases hde : d = []
                  · have e : D.list d.isEmpty (ints d) = .list true [] := by rw [hde]; rfl
                    have cl := Clone_codes_nil
                    have hsr := c.stepR (a, z, o) w
                    have cs := codes_code_step_ret c h (a, z, o) hrun w hword
                    rw [runD_eq, runC_eq] at cs
                    cases hs : c.stp (a, z, o) w with
                    | none =>
                      obtain ⟨⟨u1, u2, u3⟩, hu⟩ := stepR_none hs
                      rw [hu, runD_eq, runC_eq] at cs
                      have hb := bfsW_none (t := ((a, z, o), s0, d)) (Qp := Qp) p1 hw hs
                      rw [p3] at hb
                      rw [hb] at hG
                      have hR2 : R = some (s0, d ++ [w]) := by rw [← q7, hbfs, hG]
                      rw [hde, List.nil_append] at hR2
                      rw [hR2]
                      simp only
                      (try (simp -implicitDefEqProofs only [go_sem, codeD_eq, codeC_eq, e, W_pow, hw, w1])); repeat' first | with_reducible exact True.intro | with_reducible refine And.intro ?_ ?_ | with_reducible intro _ | (((with_reducible refine isCall ?_); first | refine call_b (cl) rfl ?_ ?_ | refine call_d (cl) rfl ?_ | refine call_sb (cl) rfl ?_ ?_ | refine call_s (cl) rfl rfl ?_ | refine call_b (cw) rfl ?_ ?_ | refine call_d (cw) rfl ?_ | refine call_sb (cw) rfl ?_ ?_ | refine call_s (cw) rfl rfl ?_ | refine call_b (cs) rfl ?_ ?_ | refine call_d (cs) rfl ?_ | refine call_sb (cs) rfl ?_ ?_ | refine call_s (cs) rfl rfl ?_) <;> try (simp -implicitDefEqProofs only [go_sem, codeD_eq, codeC_eq, e, W_pow, hw, w1])) | (((with_reducible refine vc_b ?_ ?_) <;> intro _) <;> try (simp -implicitDefEqProofs only [go_sem, codeD_eq, codeC_eq, e, W_pow, hw, w1])) | simp (disch := omega) only [wrapI, wrapU, shl1, shl1', shl1'', shrN, shrN', and_one] | ((with_reducible refine isEx3 ?_); refine ⟨(_, _, _), rfl, ?_, ?_⟩) | ((with_reducible refine isEx2 ?_); refine ⟨(_, _), rfl, ?_, ?_⟩)
                      all_goals first | omega | rfl | trace_state
                    | some r' =>
                      obtain ⟨u1, u2, u3⟩ := r'
                      rw [stepR_some hs, runD_eq, runC_eq] at cs
                      have hb := bfsW_some (t := ((a, z, o), s0, d)) (Qp := Qp) p1 hw hs
                      rw [p3] at hb
                      have hb2 : c.bfsW ((a, z, o), s0, d) (c.W - (w + 1).toNat) (w + 1) (Qp ++ [((u1, u2, u3), s0, [w])]) = G := by
                        have e9 : d ++ [w] = [w] := by rw [hde]; rfl
                        rw [← e9]; exact hb.symm
                      (try (simp -implicitDefEqProofs only [go_sem, codeD_eq, codeC_eq, e, W_pow, hw, w1, tripsD_len, tripsD_unif, tripsD_snoc1, tripsD_snoc2])); repeat' first | with_reducible exact True.intro | with_reducible refine And.intro ?_ ?_ | with_reducible intro _ | (((with_reducible refine isCall ?_); first | refine call_b (cl) rfl ?_ ?_ | refine call_d (cl) rfl ?_ | refine call_sb (cl) rfl ?_ ?_ | refine call_s (cl) rfl rfl ?_ | refine call_b (cw) rfl ?_ ?_ | refine call_d (cw) rfl ?_ | refine call_sb (cw) rfl ?_ ?_ | refine call_s (cw) rfl rfl ?_ | refine call_b (cs) rfl ?_ ?_ | refine call_d (cs) rfl ?_ | refine call_sb (cs) rfl ?_ ?_ | refine call_s (cs) rfl rfl ?_) <;> try (simp -implicitDefEqProofs only [go_sem, codeD_eq, codeC_eq, e, W_pow, hw, w1, tripsD_len, tripsD_unif, tripsD_snoc1, tripsD_snoc2])) | (((with_reducible refine vc_b ?_ ?_) <;> intro _) <;> try (simp -implicitDefEqProofs only [go_sem, codeD_eq, codeC_eq, e, W_pow, hw, w1, tripsD_len, tripsD_unif, tripsD_snoc1, tripsD_snoc2])) | simp (disch := omega) only [wrapI, wrapU, shl1, shl1', shl1'', shrN, shrN', and_one] | ((with_reducible refine isEx3 ?_); refine ⟨(_, _, _), rfl, ?_, ?_⟩) | ((with_reducible refine isEx2 ?_); refine ⟨(_, _), rfl, ?_, ?_⟩)
                      all_goals first | omega | exact hb | exact hb2 | (simp; omega) | trace_state
                  · have e : D.list d.isEmpty (ints d) = .list false (ints d) := by cases d with | nil => exact absurd rfl hde | cons _ _ => rfl
                    have hdp : 0 < d.length := by cases d with | nil => exact absurd rfl hde | cons _ _ => simp
                    have cl := Clone_codes_own d (by omega) hdp
                    have hsr := c.stepR (a, z, o) w
                    have cs := codes_code_step_ret c h (a, z, o) hrun w hword
                    rw [runD_eq, runC_eq] at cs
                    cases hs : c.stp (a, z, o) w with
                    | none =>
                      obtain ⟨⟨u1, u2, u3⟩, hu⟩ := stepR_none hs
                      rw [hu, runD_eq, runC_eq] at cs
                      have hb := bfsW_none (t := ((a, z, o), s0, d)) (Qp := Qp) p1 hw hs
                      rw [p3] at hb
                      rw [hb] at hG
                      have hR2 : R = some (s0, d ++ [w]) := by rw [← q7, hbfs, hG]
                      skip
                      rw [hR2]
                      simp only
                      (try (simp -implicitDefEqProofs only [go_sem, codeD_eq, codeC_eq, e, W_pow, hw, w1])); repeat' first | with_reducible exact True.intro | with_reducible refine And.intro ?_ ?_ | with_reducible intro _ | (((with_reducible refine isCall ?_); first | (refine call_m ([]) ([((7, 1), (68, 1))]) (cl) (by repeat' first | exact True.intro | exact rfl | refine And.intro ?_ ?_) (by simp [Handed, Ren.get, AObj.ren, AV.ren, AV.ren.renL, View.get, lookO, callF, newS, View.reach, AV.sites, AV.sites.sitesL, View.osites]) (by simp [namesOk, hasN, nodupB, Ren.get, newS, lim, upd]) (by rfl) (by simp only [backC, Ren.get, AObj.ren, AV.ren, AV.ren.renL, and_self, and_true, true_and, if_true, reduceIte]; rfl) ?_) | refine call_b (cw) rfl ?_ ?_ | refine call_d (cw) rfl ?_ | refine call_sb (cw) rfl ?_ ?_ | refine call_s (cw) rfl rfl ?_ | refine call_b (cs) rfl ?_ ?_ | refine call_d (cs) rfl ?_ | refine call_sb (cs) rfl ?_ ?_ | refine call_s (cs) rfl rfl ?_) <;> try (simp -implicitDefEqProofs only [go_sem, codeD_eq, codeC_eq, e, W_pow, hw, w1])) | (((with_reducible refine vc_b ?_ ?_) <;> intro _) <;> try (simp -implicitDefEqProofs only [go_sem, codeD_eq, codeC_eq, e, W_pow, hw, w1])) | simp (disch := omega) only [wrapI, wrapU, shl1, shl1', shl1'', shrN, shrN', and_one] | ((with_reducible refine isEx3 ?_); refine ⟨(_, _, _), rfl, ?_, ?_⟩) | ((with_reducible refine isEx2 ?_); refine ⟨(_, _), rfl, ?_, ?_⟩)
                      all_goals first | omega | rfl | trace_state
                    | some r' =>
                      obtain ⟨u1, u2, u3⟩ := r'
                      rw [stepR_some hs, runD_eq, runC_eq] at cs
                      have hb := bfsW_some (t := ((a, z, o), s0, d)) (Qp := Qp) p1 hw hs
                      rw [p3] at hb
                      have hb2 := hb.symm
                      (try (simp -implicitDefEqProofs only [go_sem, codeD_eq, codeC_eq, e, W_pow, hw, w1, tripsD_len, tripsD_unif, tripsD_snoc1, tripsD_snoc2])); repeat' first | with_reducible exact True.intro | with_reducible refine And.intro ?_ ?_ | with_reducible intro _ | (((with_reducible refine isCall ?_); first | (refine call_m ([]) ([((7, 1), (68, 1))]) (cl) (by repeat' first | exact True.intro | exact rfl | refine And.intro ?_ ?_) (by simp [Handed, Ren.get, AObj.ren, AV.ren, AV.ren.renL, View.get, lookO, callF, newS, View.reach, AV.sites, AV.sites.sitesL, View.osites]) (by simp [namesOk, hasN, nodupB, Ren.get, newS, lim, upd]) (by rfl) (by simp only [backC, Ren.get, AObj.ren, AV.ren, AV.ren.renL, and_self, and_true, true_and, if_true, reduceIte]; rfl) ?_) | refine call_b (cw) rfl ?_ ?_ | refine call_d (cw) rfl ?_ | refine call_sb (cw) rfl ?_ ?_ | refine call_s (cw) rfl rfl ?_ | refine call_b (cs) rfl ?_ ?_ | refine call_d (cs) rfl ?_ | refine call_sb (cs) rfl ?_ ?_ | refine call_s (cs) rfl rfl ?_) <;> try (simp -implicitDefEqProofs only [go_sem, codeD_eq, codeC_eq, e, W_pow, hw, w1, tripsD_len, tripsD_unif, tripsD_snoc1, tripsD_snoc2])) | (((with_reducible refine vc_b ?_ ?_) <;> intro _) <;> try (simp -implicitDefEqProofs only [go_sem, codeD_eq, codeC_eq, e, W_pow, hw, w1, tripsD_len, tripsD_unif, tripsD_snoc1, tripsD_snoc2])) | simp (disch := omega) only [wrapI, wrapU, shl1, shl1', shl1'', shrN, shrN', and_one] | ((with_reducible refine isEx3 ?_); refine ⟨(_, _, _), rfl, ?_, ?_⟩) | ((with_reducible refine isEx2 ?_); refine ⟨(_, _), rfl, ?_, ?_⟩)
                      all_goals first | omega | exact hb | exact hb2 | (simp; omega) | trace_state
                · have hwe : c.W - w.toNat = 0 := by omega
                  rw [hwe, GCode.bfsW] at p3
                  rw [← p3] at hG
                  rw [hG] at hbfs
                  have j' := hnew Qp hin hG
                  have hjl := j'.len h
                  obtain ⟨N, hN1, hN2, _⟩ := bfsW_go hG
                  have hNl : Qp.length = Q'.length + c.W := by rw [hN1]; simp [hN2]
                  have hkeys : (m ++ [((a, z, o), (1 : Int))]).map (·.1) = m.map (·.1) ++ [(a, z, o)] := by simp
                  have hkl : (m.map (·.1)).length = m.length := by simp
                  (try (simp -implicitDefEqProofs only [go_sem, W_pow, hw])); repeat' first | with_reducible exact True.intro | with_reducible refine And.intro ?_ ?_ | with_reducible intro _ | (((with_reducible refine isCall ?_); first | refine call_b (cw) rfl ?_ ?_ | refine call_d (cw) rfl ?_ | refine call_sb (cw) rfl ?_ ?_ | refine call_s (cw) rfl rfl ?_) <;> try (simp -implicitDefEqProofs only [go_sem, W_pow, hw])) | (((with_reducible refine vc_b ?_ ?_) <;> intro _) <;> try (simp -implicitDefEqProofs only [go_sem, W_pow, hw])) | simp (disch := omega) only [wrapI, wrapU, shl1, shl1', shl1'', shrN, shrN', and_one] | ((with_reducible refine isEx3 ?_); refine ⟨(_, _, _), rfl, ?_, ?_⟩) | ((with_reducible refine isEx2 ?_); refine ⟨(_, _), rfl, ?_, ?_⟩)
                  all_goals (try omega)
                  refine ⟨(k', Qp, m ++ [((a, z, o), 1)]), rfl, ⟨?_, ?_, ?_, ?_, ?_⟩, Nat.lt_succ_self _⟩
                  · show BfsJ c Qp ((m ++ [((a, z, o), (1 : Int))]).map (·.1)); rw [hkeys]; exact j'
                  · show k' ≤ 600; omega
                  · intro e he
                    show 1 ≤ e.2 ∧ e.2 + (k' : Int) ≤ 600
                    rcases List.mem_append.1 he with he' | he'
                    · have := q5 e he'; omega
                    · rw [List.mem_singleton.1 he']; simp only; omega
                  · show bfsM Qp ((m ++ [((a, z, o), (1 : Int))]).map (·.1)) < k'
                    rw [hkeys]
                    unfold bfsM at q6 hmq ⊢
                    rw [List.length_append, List.length_singleton] at hjl ⊢
                    omega
                  · show c.bfs k' Qp ((m ++ [((a, z, o), (1 : Int))]).map (·.1)) = R; rw [hkeys, ← q7, hbfs]
end Go.Pw
