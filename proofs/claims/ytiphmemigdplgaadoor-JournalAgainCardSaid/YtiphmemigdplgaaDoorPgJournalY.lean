/- A part of the proof. -/
import Derived.Test.YtiphmemigdplgaaDoorJournalV
import Derived.Test.YtiphmemigdplgaaDoorJournalT2
import Derived.Test.YtiphmemigdplgaaDoorPgJournalW
set_option linter.all false
section
open Go Go.Pw Go.Proofs
namespace Go.Pw
set_option linter.unusedSimpArgs false
set_option linter.unusedVariables false
set_option maxRecDepth 100000
set_option maxHeartbeats 3200000
theorem wrsD_snoc (l : List GWr) (a b c : Int) : wrsD l ++ [.agg [.int .i64 a, .int .i64 b, .int .i64 c]] = wrsD (l ++ [⟨a, b, c⟩]) := by simp [wrsD, wrD, wrC]
theorem isEmpty_snocW (l : List GWr) (x : GWr) : (l ++ [x]).isEmpty = false := by simp
theorem rep_succ (e : GWr) (i : Int) (h : 0 ≤ i) : List.replicate (i + 1).toNat e = List.replicate i.toNat e ++ [e] := by
  rw [show (i + 1).toNat = i.toNat + 1 by omega, List.replicate_succ']
theorem rep_at {e : GWr} {N i : Nat} (h : i < N) : (List.replicate N e)[i]?.getD default = e := by simp [h]
theorem rep_take (e : GWr) (n : Int) (h : 0 ≤ n) : (List.replicate (n + 1).toNat e).take n.toNat = List.replicate n.toNat e := by
  rw [List.take_replicate]; congr 1; omega
theorem span_full {l : GLog} (g : l.Good) (hf : l.full = true) : l.newest.num - l.newest.tail < l.slots.length := by
  obtain ⟨n1, n2, n3⟩ := newest_good g
  have hm := g.m1
  by_cases h : l.newest.num - l.newest.tail < l.slots.length
  · exact h
  · have hf' := hf
    unfold GLog.full at hf'
    have a := whole_at hf' (i := 0) (by unfold GLog.many; omega)
    have b := whole_at hf' (i := l.slots.length) (by unfold GLog.many; omega)
    have e : l.at' (l.newest.tail + (l.slots.length : Nat)) = l.at' (l.newest.tail + (0 : Nat)) := by
      unfold GLog.at'
      congr 2
      rw [Int.tmod_eq_emod_of_nonneg (by omega), Int.tmod_eq_emod_of_nonneg (by omega), Int.add_emod_right]
      simp
    rw [e, a.2] at b
    omega
/-- As many entries with the tail of the newest record as there is room for. -/
theorem rep_err {l : GLog} (g : l.Good) {e : GWr} (hb : 0 ≤ e.blk ∧ e.blk ≤ l.blocks - 1) (hv : 0 ≤ e.val ∧ e.val ≤ 999) (ht : e.tail = l.newest.tail) (hn : l.newest.num ≤ 900) (N : Nat) :
    ∀ i, i ≤ N → (i : Int) ≤ l.newest.tail + l.slots.length - l.newest.num - 1 → errN l.blocks l.slots (List.replicate N e) i = 0 ∧ (nwS (putN l.slots (List.replicate N e) i)).tail = l.newest.tail
  | 0, _, _ => ⟨rfl, rfl⟩
  | i + 1, h, hr => by
    obtain ⟨h1, h2⟩ := rep_err g hb hv ht hn N i (by omega) (by omega)
    obtain ⟨n1, n2, n3⟩ := newest_good g
    have m2 := g.m2
    have hnum := putN_newest g (List.replicate N e) i h1
    have e1 : errN l.blocks l.slots (List.replicate N e) (i + 1) = 0 := by
      rw [errN, if_pos h1, rep_at (by omega)]
      unfold appE entOk
      rw [h2, hnum, putN_len, inZ_iff.2 hb, inZ_iff.2 hv, ht, inZ_iff.2 (by omega), if_pos (show (true && (true && true)) = true from rfl), if_neg (by omega), if_neg (by omega)]
    refine ⟨e1, ?_⟩
    rw [putN_tail g (List.replicate N e) i e1, rep_at (by omega)]
    exact ht
theorem rep_full {l : GLog} (g : l.Good) {e : GWr} (hb : 0 ≤ e.blk ∧ e.blk ≤ l.blocks - 1) (hv : 0 ≤ e.val ∧ e.val ≤ 999) (ht : e.tail = l.newest.tail) (hn : l.newest.num ≤ 900) (N : Nat) (hN : (N : Int) = l.newest.tail + l.slots.length - l.newest.num - 1) :
    errN l.blocks l.slots (List.replicate (N + 1) e) (N + 1) = 163 := by
  obtain ⟨h1, h2⟩ := rep_err g hb hv ht hn (N + 1) N (by omega) (by omega)
  obtain ⟨n1, n2, n3⟩ := newest_good g
  have hnum := putN_newest g (List.replicate (N + 1) e) N h1
  rw [errN, if_pos h1, rep_at (by omega)]
  unfold appE entOk
  rw [h2, hnum, putN_len, inZ_iff.2 hb, inZ_iff.2 hv, ht, inZ_iff.2 (by omega), if_pos (show (true && (true && true)) = true from rfl), if_pos (by omega)]
theorem errN_one (b : Int) (s : List GRec) (v : GWr) : errN b s [v] [v].length = appE b s v := by
  show (if (0 : Int) = 0 then appE b s v else 0) = _
  rw [if_pos rfl]
theorem one_newest {l : GLog} (g : l.Good) (v : GWr) (h : errN l.blocks l.slots [v] [v].length = 0) : (l.setS (putN l.slots [v] [v].length)).newest = recS l.slots v := putN_tail g [v] 0 h
attribute [local congr] cg_pw cg_seqI cg_seqE cg_stepI cg_ev cg_evBin cg_condB cg_condV cg_thenQ cg_blockQ cg_onSome cg_onCells cg_onRow cg_onMap cg_onOpt cg_ghosts cg_ghost cg_evCall cg_part cg_rng cg_guardV cg_frzV cg_frpV cg_ownV cg_owcV cg_occV cg_occX cg_resK cg_res1 cg_yldP cg_rndE cg_onlyN cg_onHist
attribute [local irreducible] IntKind.wrap bitsOp Option.getD and or

theorem JournalRoom_ret (l : GLog) (hs : l.sn = true → l.slots = []) (hz : l.disk.zn = true → l.disk.zones = []) (v : GWr) :
    Ret E0 F_law16_JournalRoom [logD l, wrD v] (.bool true) := by
  refine ret_of_pw dec_law16_JournalRoom mixed (by simp) fun hwf => ?_
  simp only [wf_int, wf_bool, wf_ints, wf_list, wf_agg, wf_ptr, wf_fn, wf_tup, wf_all_cons, wf_all_nil, wf_all_map, inK_i64, maxLen_eq, List.length_map, ints_len, true_and, and_true, logD_eq, logC_eq, recsD_len, zpsD_len, wrD_eq, wrC_eq] at hwf
  have c0 := law16_ready_ret l
  have cw := law16_works_ret
  have c1 := ref16_Newest_ret l
  rw [enter_eq]; unfold pc_law16_JournalRoom
  obtain ⟨nn, hnn⟩ : ∃ nn, l.newest.num = nn := ⟨_, rfl⟩
  obtain ⟨nt, hnt⟩ : ∃ nt, l.newest.tail = nt := ⟨_, rfl⟩
  rw [hnn, hnt] at c1
  cases hf : l.rdy with
  | false =>
    rw [hf] at c0
    (try (simp -implicitDefEqProofs only [go_sem, logD_eq, logC_eq, wrD_eq, wrC_eq])); repeat' first | with_reducible exact True.intro | with_reducible refine And.intro ?_ ?_ | with_reducible intro _ | (((with_reducible refine isCall ?_); first | refine call_b (c0) rfl ?_ ?_ | refine call_d (c0) rfl ?_ | refine call_sb (c0) rfl ?_ ?_ | refine call_s (c0) rfl rfl ?_ | refine call_b (c1) rfl ?_ ?_ | refine call_d (c1) rfl ?_ | refine call_sb (c1) rfl ?_ ?_ | refine call_s (c1) rfl rfl ?_ | refine call_b (cw) rfl ?_ ?_ | refine call_d (cw) rfl ?_ | refine call_sb (cw) rfl ?_ ?_ | refine call_s (cw) rfl rfl ?_) <;> try (simp -implicitDefEqProofs only [go_sem, logD_eq, logC_eq, wrD_eq, wrC_eq])) | (((with_reducible refine vc_b ?_ ?_) <;> intro _) <;> try (simp -implicitDefEqProofs only [go_sem, logD_eq, logC_eq, wrD_eq, wrC_eq])) | simp (disch := omega) only [wrapI, wrapU, shl1, shl1', shl1'', shrN, shrN', and_one] | ((with_reducible refine isEx3 ?_); refine ⟨(_, _, _), rfl, ?_, ?_⟩)
    all_goals trace_state
  | true =>
    rw [hf] at c0
    have he := rdy_open hf
    obtain ⟨e1, e2⟩ := openE_0 he
    have g := check_good e1
    obtain ⟨n1, n2, n3⟩ := newest_good g
    have b1 := g.b1; have b2 := g.b2; have m1 := g.m1; have m2 := g.m2
    rw [hnn] at n2 n3
    rw [hnt] at n3
    by_cases x1 : nn ≤ 900 ∧ (0 ≤ v.blk ∧ v.blk ≤ l.blocks - 1) ∧ (0 ≤ v.val ∧ v.val ≤ 999)
    · obtain ⟨x1, x2, x3⟩ := x1
      have f1 : ¬ 900 < nn := by omega
      have f2 : ¬ v.blk < 0 := by omega
      have f3 : ¬ l.blocks ≤ v.blk := by omega
      have f4 : ¬ v.val < 0 := by omega
      have f5 : ¬ 999 < v.val := by omega
      have sp := span_full g e2
      rw [hnn, hnt] at sp
      have c2 := journal_Room_ret l hs hz
      have hroom : l.room = nt + l.slots.length - nn - 1 := by unfold GLog.room; rw [if_pos he, hnn, hnt]
      rw [hroom, he] at c2
      obtain ⟨n, hn⟩ : ∃ n, nt + (l.slots.length : Int) - nn - 1 = n := ⟨_, rfl⟩
      rw [hn] at c2
      have f6 : ¬ n < 0 := by omega
      have f7 : ¬ (l.slots.length : Int) < n := by omega
      (try (simp -implicitDefEqProofs only [go_sem, logD_eq, logC_eq, wrD_eq, wrC_eq, recsD_len, f1, f2, f3, f4, f5, f6, f7])); repeat' first | with_reducible exact True.intro | with_reducible refine And.intro ?_ ?_ | with_reducible intro _ | (((with_reducible refine isCall ?_); first | refine call_b (c0) rfl ?_ ?_ | refine call_d (c0) rfl ?_ | refine call_sb (c0) rfl ?_ ?_ | refine call_s (c0) rfl rfl ?_ | refine call_b (c1) rfl ?_ ?_ | refine call_d (c1) rfl ?_ | refine call_sb (c1) rfl ?_ ?_ | refine call_s (c1) rfl rfl ?_ | refine call_b (cw) rfl ?_ ?_ | refine call_d (cw) rfl ?_ | refine call_sb (cw) rfl ?_ ?_ | refine call_s (cw) rfl rfl ?_ | refine call_b (c2) rfl ?_ ?_ | refine call_d (c2) rfl ?_ | refine call_sb (c2) rfl ?_ ?_ | refine call_s (c2) rfl rfl ?_) <;> try (simp -implicitDefEqProofs only [go_sem, logD_eq, logC_eq, wrD_eq, wrC_eq, recsD_len, f1, f2, f3, f4, f5, f6, f7])) | (((with_reducible refine vc_b ?_ ?_) <;> intro _) <;> try (simp -implicitDefEqProofs only [go_sem, logD_eq, logC_eq, wrD_eq, wrC_eq, recsD_len, f1, f2, f3, f4, f5, f6, f7])) | simp (disch := omega) only [wrapI, wrapU, shl1, shl1', shl1'', shrN, shrN', and_one] | ((with_reducible refine isEx3 ?_); refine ⟨(_, _, _), rfl, ?_, ?_⟩)
      all_goals (try omega)
      refine pw_loopS (α := Int × (List GWr) × Bool) (l0 := ?l1) (m0 := ?m1) (fun x => [(10, .d (.int .i64 x.1))]) (fun x => [(85, .row 58 3 x.2.2 (wrsD x.2.1))]) (fun x => (0 ≤ x.1 ∧ x.1 ≤ n + 1) ∧ x.2.1 = List.replicate x.1.toNat ⟨v.blk, v.val, nt⟩ ∧ x.2.2 = x.2.1.isEmpty) (fun x => (n + 1 - x.1).toNat) (?a1_0, [], true) ?h01 ?he1 ?he21 ?hI1 ?step1
      case h01 => (simp -implicitDefEqProofs only [go_sem, recsD_len, wrsD_len]; rfl)
      case he1 => rfl
      case he21 => rfl
      case' step1 => (rintro ⟨i, out, b⟩ hI; try dsimp only at hI)
      case' hI1 => try dsimp only
      · exact ⟨⟨by omega, by omega⟩, rfl, rfl⟩
      · obtain ⟨⟨q1, q2⟩, q3, q4⟩ := hI
        by_cases hi : i ≤ n
        · have w1 : IntKind.i64.wrap (i + 1) = i + 1 := wrapI _ (by omega)
          have hnx := rep_succ ⟨v.blk, v.val, nt⟩ i q1
          have hol : out.length = i.toNat := by rw [q3]; simp
          rw [← q3] at hnx
          have hemp := isEmpty_snocW out
          (try (simp -implicitDefEqProofs only [go_sem, wrsD_len, wrsD_unif, wrsD_snoc, hi, w1])); repeat' first | with_reducible exact True.intro | with_reducible refine And.intro ?_ ?_ | with_reducible intro _ | (((with_reducible refine vc_b ?_ ?_) <;> intro _) <;> try (simp -implicitDefEqProofs only [go_sem, wrsD_len, wrsD_unif, wrsD_snoc, hi, w1])) | simp (disch := omega) only [wrapI, wrapU, shl1, shl1', shl1'', shrN, shrN', and_one] | ((with_reducible refine isEx3 ?_); refine ⟨(_, _, _), rfl, ?_, ?_⟩)
          all_goals first | omega | exact hnx.symm | exact (hemp _).symm | trace_state
        · have hin : i = n + 1 := by omega
          subst hin
          have hbf : b = false := by
            rw [q4, q3, show (n + 1).toNat = n.toNat + 1 by omega, List.replicate_succ]; rfl
          subst hbf
          have hout : out.length = (n + 1).toNat := by rw [q3]; simp
          have htk : out.take n.toNat = List.replicate n.toNat ⟨v.blk, v.val, nt⟩ := by rw [q3]; exact rep_take _ n (by omega)
          have htl : (out.take n.toNat).length = n.toNat := by rw [htk]; simp
          have r1 := (rep_err g (e := ⟨v.blk, v.val, nt⟩) x2 x3 hnt.symm (by omega) n.toNat n.toNat (Nat.le_refl _) (by omega)).1
          have r2 := rep_full g (e := ⟨v.blk, v.val, nt⟩) x2 x3 hnt.symm (by omega) n.toNat (by omega)
          rw [← htk] at r1
          rw [show n.toNat + 1 = (n + 1).toNat by omega, ← q3] at r2
          have c3 := journal_Append_ret l hs hz false (out.take n.toNat)
          have c4 := journal_Append_ret l hs hz false out
          rw [cutE_of he (out.take n.toNat) (out.take n.toNat).length false (by omega) (fun h => by cases h), htl, r1] at c3
          rw [cutE_of he out out.length false (by omega) (fun h => by cases h), hout, r2] at c4
          generalize l.cutL (out.take n.toNat) _ false = L3 at *
          generalize l.cutL out _ false = L4 at *
          have hnl : ¬ n + 1 ≤ n := by omega
          have q6 : 0 ≤ n := by omega
          have q7 : n ≤ (out.length : Int) := by omega
          by_cases y1 : n = 0
          · (try (simp -implicitDefEqProofs only [go_sem, logD_eq, logC_eq, wrsD_len, wrsD_unif, wrsD_take, hnl, q6, q7, eq_true y1, wrD_eq, wrC_eq])); repeat' first | with_reducible exact True.intro | with_reducible refine And.intro ?_ ?_ | with_reducible intro _ | (((with_reducible refine isCall ?_); first | refine call_b (cw) rfl ?_ ?_ | refine call_d (cw) rfl ?_ | refine call_sb (cw) rfl ?_ ?_ | refine call_s (cw) rfl rfl ?_ | refine call_b (c3) rfl ?_ ?_ | refine call_d (c3) rfl ?_ | refine call_sb (c3) rfl ?_ ?_ | refine call_s (c3) rfl rfl ?_ | refine call_b (c4) rfl ?_ ?_ | refine call_d (c4) rfl ?_ | refine call_sb (c4) rfl ?_ ?_ | refine call_s (c4) rfl rfl ?_) <;> try (simp -implicitDefEqProofs only [go_sem, logD_eq, logC_eq, wrsD_len, wrsD_unif, wrsD_take, hnl, q6, q7, eq_true y1, wrD_eq, wrC_eq])) | (((with_reducible refine vc_b ?_ ?_) <;> intro _) <;> try (simp -implicitDefEqProofs only [go_sem, logD_eq, logC_eq, wrsD_len, wrsD_unif, wrsD_take, hnl, q6, q7, eq_true y1, wrD_eq, wrC_eq])) | simp (disch := omega) only [wrapI, wrapU, shl1, shl1', shl1'', shrN, shrN', and_one] | ((with_reducible refine isEx3 ?_); refine ⟨(_, _, _), rfl, ?_, ?_⟩)
            all_goals first | omega | rfl | trace_state
          · have w2 : IntKind.i64.wrap (nn + 1) = nn + 1 := wrapI _ (by omega)
            by_cases y2 : v.tail < nt
            · (try (simp -implicitDefEqProofs only [go_sem, logD_eq, logC_eq, wrsD_len, wrsD_unif, wrsD_take, hnl, q6, q7, y1, y2, wrD_eq, wrC_eq])); repeat' first | with_reducible exact True.intro | with_reducible refine And.intro ?_ ?_ | with_reducible intro _ | (((with_reducible refine isCall ?_); first | refine call_b (cw) rfl ?_ ?_ | refine call_d (cw) rfl ?_ | refine call_sb (cw) rfl ?_ ?_ | refine call_s (cw) rfl rfl ?_ | refine call_b (c3) rfl ?_ ?_ | refine call_d (c3) rfl ?_ | refine call_sb (c3) rfl ?_ ?_ | refine call_s (c3) rfl rfl ?_ | refine call_b (c4) rfl ?_ ?_ | refine call_d (c4) rfl ?_ | refine call_sb (c4) rfl ?_ ?_ | refine call_s (c4) rfl rfl ?_) <;> try (simp -implicitDefEqProofs only [go_sem, logD_eq, logC_eq, wrsD_len, wrsD_unif, wrsD_take, hnl, q6, q7, y1, y2, wrD_eq, wrC_eq])) | (((with_reducible refine vc_b ?_ ?_) <;> intro _) <;> try (simp -implicitDefEqProofs only [go_sem, logD_eq, logC_eq, wrsD_len, wrsD_unif, wrsD_take, hnl, q6, q7, y1, y2, wrD_eq, wrC_eq])) | simp (disch := omega) only [wrapI, wrapU, shl1, shl1', shl1'', shrN, shrN', and_one] | ((with_reducible refine isEx3 ?_); refine ⟨(_, _, _), rfl, ?_, ?_⟩)
              all_goals first | omega | rfl | trace_state
            · by_cases y3 : nn + 1 < v.tail
              · (try (simp -implicitDefEqProofs only [go_sem, logD_eq, logC_eq, wrsD_len, wrsD_unif, wrsD_take, hnl, q6, q7, y1, y2, y3, w2, wrD_eq, wrC_eq])); repeat' first | with_reducible exact True.intro | with_reducible refine And.intro ?_ ?_ | with_reducible intro _ | (((with_reducible refine isCall ?_); first | refine call_b (cw) rfl ?_ ?_ | refine call_d (cw) rfl ?_ | refine call_sb (cw) rfl ?_ ?_ | refine call_s (cw) rfl rfl ?_ | refine call_b (c3) rfl ?_ ?_ | refine call_d (c3) rfl ?_ | refine call_sb (c3) rfl ?_ ?_ | refine call_s (c3) rfl rfl ?_ | refine call_b (c4) rfl ?_ ?_ | refine call_d (c4) rfl ?_ | refine call_sb (c4) rfl ?_ ?_ | refine call_s (c4) rfl rfl ?_) <;> try (simp -implicitDefEqProofs only [go_sem, logD_eq, logC_eq, wrsD_len, wrsD_unif, wrsD_take, hnl, q6, q7, y1, y2, y3, w2, wrD_eq, wrC_eq])) | (((with_reducible refine vc_b ?_ ?_) <;> intro _) <;> try (simp -implicitDefEqProofs only [go_sem, logD_eq, logC_eq, wrsD_len, wrsD_unif, wrsD_take, hnl, q6, q7, y1, y2, y3, w2, wrD_eq, wrC_eq])) | simp (disch := omega) only [wrapI, wrapU, shl1, shl1', shl1'', shrN, shrN', and_one] | ((with_reducible refine isEx3 ?_); refine ⟨(_, _, _), rfl, ?_, ?_⟩)
                all_goals first | omega | rfl | trace_state
              · have hE : errN l.blocks l.slots [v] [v].length = 0 := by
                  rw [errN_one]
                  unfold appE entOk
                  rw [← newest_eq, hnn, hnt, inZ_iff.2 x2, inZ_iff.2 x3, inZ_iff.2 (by omega), if_pos (by simp), if_neg (by omega), if_neg (by omega)]
                have k5 := cutE_of he [v] [v].length false (by omega) (fun h => by cases h)
                have c5 := journal_Append_ret l hs hz false [v]
                rw [hE] at k5
                obtain ⟨a1, a2, a3⟩ := cut_all (torn := false) e1 e2 hE (Nat.le_refl _) (fun h => by cases h)
                have hN' := one_newest g v hE
                rw [hN'] at a3
                have c6 := journal_Room_ret (l.cutL [v] [v].length false) cutL_sn cutL_zn
                have hlen : (l.op.setS (cutS l.slots [v] [v].length false)).slots.length = l.slots.length := by
                  show (putN l.slots [v] 1).length = _; exact putN_len _ _ _
                have hroom2 : (l.cutL [v] [v].length false).room = n - 1 + v.tail - nt := by
                  rw [cutL_of k5]
                  show (l.op.setS (cutS l.slots [v] [v].length false)).room = _
                  unfold GLog.room
                  rw [if_pos a1, a3, hlen]
                  show v.tail + l.slots.length - ((nwS l.slots).num + 1) - 1 = _
                  rw [← newest_eq, hnn]; omega
                have hop : (l.cutL [v] [v].length false).openE = 0 := by rw [cutL_of k5]; exact a1
                rw [hroom2, hop] at c6
                rw [k5] at c5
                have hx1 : wrsD [v] = [.agg [.int .i64 v.blk, .int .i64 v.val, .int .i64 v.tail]] := rfl
                rw [hx1] at c5
                generalize l.cutL [v] _ false = L5 at *
                have w3 : IntKind.i64.wrap (n - 1) = n - 1 := wrapI _ (by omega)
                have w4 : IntKind.i64.wrap (n - 1 + v.tail) = n - 1 + v.tail := wrapI _ (by omega)
                have w5 : IntKind.i64.wrap (n - 1 + v.tail - nt) = n - 1 + v.tail - nt := wrapI _ (by omega)
                (try (simp -implicitDefEqProofs only [go_sem, logD_eq, logC_eq, wrsD_len, wrsD_unif, wrsD_take, hnl, q6, q7, y1, y2, y3, w2, w3, w4, w5, wrD_eq, wrC_eq])); repeat' first | with_reducible exact True.intro | with_reducible refine And.intro ?_ ?_ | with_reducible intro _ | (((with_reducible refine isCall ?_); first | refine call_b (cw) rfl ?_ ?_ | refine call_d (cw) rfl ?_ | refine call_sb (cw) rfl ?_ ?_ | refine call_s (cw) rfl rfl ?_ | refine call_b (c3) rfl ?_ ?_ | refine call_d (c3) rfl ?_ | refine call_sb (c3) rfl ?_ ?_ | refine call_s (c3) rfl rfl ?_ | refine call_b (c4) rfl ?_ ?_ | refine call_d (c4) rfl ?_ | refine call_sb (c4) rfl ?_ ?_ | refine call_s (c4) rfl rfl ?_ | refine call_b (c5) rfl ?_ ?_ | refine call_d (c5) rfl ?_ | refine call_sb (c5) rfl ?_ ?_ | refine call_s (c5) rfl rfl ?_ | refine call_b (c6) rfl ?_ ?_ | refine call_d (c6) rfl ?_ | refine call_sb (c6) rfl ?_ ?_ | refine call_s (c6) rfl rfl ?_) <;> try (simp -implicitDefEqProofs only [go_sem, logD_eq, logC_eq, wrsD_len, wrsD_unif, wrsD_take, hnl, q6, q7, y1, y2, y3, w2, w3, w4, w5, wrD_eq, wrC_eq])) | (((with_reducible refine vc_b ?_ ?_) <;> intro _) <;> try (simp -implicitDefEqProofs only [go_sem, logD_eq, logC_eq, wrsD_len, wrsD_unif, wrsD_take, hnl, q6, q7, y1, y2, y3, w2, w3, w4, w5, wrD_eq, wrC_eq])) | simp (disch := omega) only [wrapI, wrapU, shl1, shl1', shl1'', shrN, shrN', and_one] | ((with_reducible refine isEx3 ?_); refine ⟨(_, _, _), rfl, ?_, ?_⟩)
                all_goals first | omega | rfl | trace_state
    · by_cases f1 : 900 < nn
      · (try (simp -implicitDefEqProofs only [go_sem, logD_eq, logC_eq, wrD_eq, wrC_eq, f1])); repeat' first | with_reducible exact True.intro | with_reducible refine And.intro ?_ ?_ | with_reducible intro _ | (((with_reducible refine isCall ?_); first | refine call_b (c0) rfl ?_ ?_ | refine call_d (c0) rfl ?_ | refine call_sb (c0) rfl ?_ ?_ | refine call_s (c0) rfl rfl ?_ | refine call_b (c1) rfl ?_ ?_ | refine call_d (c1) rfl ?_ | refine call_sb (c1) rfl ?_ ?_ | refine call_s (c1) rfl rfl ?_ | refine call_b (cw) rfl ?_ ?_ | refine call_d (cw) rfl ?_ | refine call_sb (cw) rfl ?_ ?_ | refine call_s (cw) rfl rfl ?_) <;> try (simp -implicitDefEqProofs only [go_sem, logD_eq, logC_eq, wrD_eq, wrC_eq, f1])) | (((with_reducible refine vc_b ?_ ?_) <;> intro _) <;> try (simp -implicitDefEqProofs only [go_sem, logD_eq, logC_eq, wrD_eq, wrC_eq, f1])) | simp (disch := omega) only [wrapI, wrapU, shl1, shl1', shl1'', shrN, shrN', and_one] | ((with_reducible refine isEx3 ?_); refine ⟨(_, _, _), rfl, ?_, ?_⟩)
        all_goals first | omega | rfl | trace_state
      · by_cases f2 : v.blk < 0
        · (try (simp -implicitDefEqProofs only [go_sem, logD_eq, logC_eq, wrD_eq, wrC_eq, f1, f2])); repeat' first | with_reducible exact True.intro | with_reducible refine And.intro ?_ ?_ | with_reducible intro _ | (((with_reducible refine isCall ?_); first | refine call_b (c0) rfl ?_ ?_ | refine call_d (c0) rfl ?_ | refine call_sb (c0) rfl ?_ ?_ | refine call_s (c0) rfl rfl ?_ | refine call_b (c1) rfl ?_ ?_ | refine call_d (c1) rfl ?_ | refine call_sb (c1) rfl ?_ ?_ | refine call_s (c1) rfl rfl ?_ | refine call_b (cw) rfl ?_ ?_ | refine call_d (cw) rfl ?_ | refine call_sb (cw) rfl ?_ ?_ | refine call_s (cw) rfl rfl ?_) <;> try (simp -implicitDefEqProofs only [go_sem, logD_eq, logC_eq, wrD_eq, wrC_eq, f1, f2])) | (((with_reducible refine vc_b ?_ ?_) <;> intro _) <;> try (simp -implicitDefEqProofs only [go_sem, logD_eq, logC_eq, wrD_eq, wrC_eq, f1, f2])) | simp (disch := omega) only [wrapI, wrapU, shl1, shl1', shl1'', shrN, shrN', and_one] | ((with_reducible refine isEx3 ?_); refine ⟨(_, _, _), rfl, ?_, ?_⟩)
          all_goals first | omega | rfl | trace_state
        · by_cases f3 : l.blocks ≤ v.blk
          · (try (simp -implicitDefEqProofs only [go_sem, logD_eq, logC_eq, wrD_eq, wrC_eq, f1, f2, f3])); repeat' first | with_reducible exact True.intro | with_reducible refine And.intro ?_ ?_ | with_reducible intro _ | (((with_reducible refine isCall ?_); first | refine call_b (c0) rfl ?_ ?_ | refine call_d (c0) rfl ?_ | refine call_sb (c0) rfl ?_ ?_ | refine call_s (c0) rfl rfl ?_ | refine call_b (c1) rfl ?_ ?_ | refine call_d (c1) rfl ?_ | refine call_sb (c1) rfl ?_ ?_ | refine call_s (c1) rfl rfl ?_ | refine call_b (cw) rfl ?_ ?_ | refine call_d (cw) rfl ?_ | refine call_sb (cw) rfl ?_ ?_ | refine call_s (cw) rfl rfl ?_) <;> try (simp -implicitDefEqProofs only [go_sem, logD_eq, logC_eq, wrD_eq, wrC_eq, f1, f2, f3])) | (((with_reducible refine vc_b ?_ ?_) <;> intro _) <;> try (simp -implicitDefEqProofs only [go_sem, logD_eq, logC_eq, wrD_eq, wrC_eq, f1, f2, f3])) | simp (disch := omega) only [wrapI, wrapU, shl1, shl1', shl1'', shrN, shrN', and_one] | ((with_reducible refine isEx3 ?_); refine ⟨(_, _, _), rfl, ?_, ?_⟩)
            all_goals first | omega | rfl | trace_state
          · by_cases f4 : v.val < 0
            · (try (simp -implicitDefEqProofs only [go_sem, logD_eq, logC_eq, wrD_eq, wrC_eq, f1, f2, f3, f4])); repeat' first | with_reducible exact True.intro | with_reducible refine And.intro ?_ ?_ | with_reducible intro _ | (((with_reducible refine isCall ?_); first | refine call_b (c0) rfl ?_ ?_ | refine call_d (c0) rfl ?_ | refine call_sb (c0) rfl ?_ ?_ | refine call_s (c0) rfl rfl ?_ | refine call_b (c1) rfl ?_ ?_ | refine call_d (c1) rfl ?_ | refine call_sb (c1) rfl ?_ ?_ | refine call_s (c1) rfl rfl ?_ | refine call_b (cw) rfl ?_ ?_ | refine call_d (cw) rfl ?_ | refine call_sb (cw) rfl ?_ ?_ | refine call_s (cw) rfl rfl ?_) <;> try (simp -implicitDefEqProofs only [go_sem, logD_eq, logC_eq, wrD_eq, wrC_eq, f1, f2, f3, f4])) | (((with_reducible refine vc_b ?_ ?_) <;> intro _) <;> try (simp -implicitDefEqProofs only [go_sem, logD_eq, logC_eq, wrD_eq, wrC_eq, f1, f2, f3, f4])) | simp (disch := omega) only [wrapI, wrapU, shl1, shl1', shl1'', shrN, shrN', and_one] | ((with_reducible refine isEx3 ?_); refine ⟨(_, _, _), rfl, ?_, ?_⟩)
              all_goals first | omega | rfl | trace_state
            · have f5 : 999 < v.val := by omega
              (try (simp -implicitDefEqProofs only [go_sem, logD_eq, logC_eq, wrD_eq, wrC_eq, f1, f2, f3, f4, f5])); repeat' first | with_reducible exact True.intro | with_reducible refine And.intro ?_ ?_ | with_reducible intro _ | (((with_reducible refine isCall ?_); first | refine call_b (c0) rfl ?_ ?_ | refine call_d (c0) rfl ?_ | refine call_sb (c0) rfl ?_ ?_ | refine call_s (c0) rfl rfl ?_ | refine call_b (c1) rfl ?_ ?_ | refine call_d (c1) rfl ?_ | refine call_sb (c1) rfl ?_ ?_ | refine call_s (c1) rfl rfl ?_ | refine call_b (cw) rfl ?_ ?_ | refine call_d (cw) rfl ?_ | refine call_sb (cw) rfl ?_ ?_ | refine call_s (cw) rfl rfl ?_) <;> try (simp -implicitDefEqProofs only [go_sem, logD_eq, logC_eq, wrD_eq, wrC_eq, f1, f2, f3, f4, f5])) | (((with_reducible refine vc_b ?_ ?_) <;> intro _) <;> try (simp -implicitDefEqProofs only [go_sem, logD_eq, logC_eq, wrD_eq, wrC_eq, f1, f2, f3, f4, f5])) | simp (disch := omega) only [wrapI, wrapU, shl1, shl1', shl1'', shrN, shrN', and_one] | ((with_reducible refine isEx3 ?_); refine ⟨(_, _, _), rfl, ?_, ?_⟩)
              all_goals first | omega | rfl | trace_state
end Go.Pw
end
section
open Go Go.Pw Go.Proofs
namespace Go.Pw
set_option linter.unusedSimpArgs false
set_option linter.unusedVariables false
set_option maxRecDepth 100000
set_option maxHeartbeats 3200000
theorem openE_check {l : GLog} (h : l.openE = 0) : l.check = 0 := (openE_0 h).1
theorem cpy_kept (l : GLog) : l.cpy.kept = l.kept := rfl
theorem cpy_zn {l : GLog} : l.cpy.disk.zn = true → l.cpy.disk.zones = [] := fun h => by cases h
attribute [local congr] cg_pw cg_seqI cg_seqE cg_stepI cg_ev cg_evBin cg_condB cg_condV cg_thenQ cg_blockQ cg_onSome cg_onCells cg_onRow cg_onMap cg_onOpt cg_ghosts cg_ghost cg_evCall cg_part cg_rng cg_guardV cg_frzV cg_frpV cg_ownV cg_owcV cg_occV cg_occX cg_resK cg_res1 cg_yldP cg_rndE cg_onlyN cg_onHist
attribute [local irreducible] IntKind.wrap bitsOp Option.getD and or

theorem JournalAgain_ret (l : GLog) (hs : l.sn = true → l.slots = []) (hz : l.disk.zn = true → l.disk.zones = []) (nx : Bool) (xs : List GWg) :
    Ret E0 F_law16_JournalAgain [logD l, .list nx (wgsD xs)] (.bool true) := by
  refine ret_of_pw dec_law16_JournalAgain mixed (by simp) fun hwf => ?_
  have c0 := law16_ready_ret l
  have cw := law16_works_ret
  rw [enter_eq]; unfold pc_law16_JournalAgain
  cases hf : l.rdy with
  | false =>
    rw [hf] at c0
    (try (simp -implicitDefEqProofs only [go_sem, logD_eq, logC_eq])); repeat' first | with_reducible exact True.intro | with_reducible refine And.intro ?_ ?_ | with_reducible intro _ | (((with_reducible refine isCall ?_); first | refine call_b (c0) rfl ?_ ?_ | refine call_d (c0) rfl ?_ | refine call_sb (c0) rfl ?_ ?_ | refine call_s (c0) rfl rfl ?_ | refine call_b (cw) rfl ?_ ?_ | refine call_d (cw) rfl ?_ | refine call_sb (cw) rfl ?_ ?_ | refine call_s (cw) rfl rfl ?_) <;> try (simp -implicitDefEqProofs only [go_sem, logD_eq, logC_eq])) | (((with_reducible refine vc_b ?_ ?_) <;> intro _) <;> try (simp -implicitDefEqProofs only [go_sem, logD_eq, logC_eq])) | simp (disch := omega) only [wrapI, wrapU, shl1, shl1', shl1'', shrN, shrN', and_one] | ((with_reducible refine isEx2 ?_); refine ⟨(_, _), rfl, ?_, ?_⟩)
    all_goals trace_state
  | true =>
    rw [hf] at c0
    have he := rdy_open hf
    obtain ⟨e1, e2⟩ := openE_0 he
    have g := check_good e1
    by_cases h6 : 6 < (xs.length : Int)
    · (try (simp -implicitDefEqProofs only [go_sem, logD_eq, logC_eq, wgsD_len, h6])); repeat' first | with_reducible exact True.intro | with_reducible refine And.intro ?_ ?_ | with_reducible intro _ | (((with_reducible refine isCall ?_); first | refine call_b (c0) rfl ?_ ?_ | refine call_d (c0) rfl ?_ | refine call_sb (c0) rfl ?_ ?_ | refine call_s (c0) rfl rfl ?_ | refine call_b (cw) rfl ?_ ?_ | refine call_d (cw) rfl ?_ | refine call_sb (cw) rfl ?_ ?_ | refine call_s (cw) rfl rfl ?_) <;> try (simp -implicitDefEqProofs only [go_sem, logD_eq, logC_eq, wgsD_len, h6])) | (((with_reducible refine vc_b ?_ ?_) <;> intro _) <;> try (simp -implicitDefEqProofs only [go_sem, logD_eq, logC_eq, wgsD_len, h6])) | simp (disch := omega) only [wrapI, wrapU, shl1, shl1', shl1'', shrN, shrN', and_one] | ((with_reducible refine isEx2 ?_); refine ⟨(_, _), rfl, ?_, ?_⟩)
      all_goals trace_state
    · have z2 := (good_of g.d).z2
      have m2 := g.m2
      have c1 := ref16_Copy_ret l (by omega) (by omega)
      have c2 := journal_Recover_ret l hs hz
      rw [recE_of he, he, ← cpy_kept] at c2
      have o0 : l.cpy.openE = 0 := (cpy_open l).trans he
      have s0 : l.cpy.sn = true → l.cpy.slots = [] := fun h => by cases h
      have y0 := cpy_zn (l := l)
      obtain ⟨L0, hL0⟩ : ∃ L0, l.cpy = L0 := ⟨_, rfl⟩
      rw [hL0] at c1 c2 o0 s0 y0
      (try (simp -implicitDefEqProofs only [go_sem, logD_eq, logC_eq, wgsD_len, h6])); repeat' first | with_reducible exact True.intro | with_reducible refine And.intro ?_ ?_ | with_reducible intro _ | (((with_reducible refine isCall ?_); first | refine call_b (c0) rfl ?_ ?_ | refine call_d (c0) rfl ?_ | refine call_sb (c0) rfl ?_ ?_ | refine call_s (c0) rfl rfl ?_ | refine call_b (cw) rfl ?_ ?_ | refine call_d (cw) rfl ?_ | refine call_sb (cw) rfl ?_ ?_ | refine call_s (cw) rfl rfl ?_ | refine call_b (c1) rfl ?_ ?_ | refine call_d (c1) rfl ?_ | refine call_sb (c1) rfl ?_ ?_ | refine call_s (c1) rfl rfl ?_ | refine call_b (c2) rfl ?_ ?_ | refine call_d (c2) rfl ?_ | refine call_sb (c2) rfl ?_ ?_ | refine call_s (c2) rfl rfl ?_) <;> try (simp -implicitDefEqProofs only [go_sem, logD_eq, logC_eq, wgsD_len, h6])) | (((with_reducible refine vc_b ?_ ?_) <;> intro _) <;> try (simp -implicitDefEqProofs only [go_sem, logD_eq, logC_eq, wgsD_len, h6])) | simp (disch := omega) only [wrapI, wrapU, shl1, shl1', shl1'', shrN, shrN', and_one] | ((with_reducible refine isEx2 ?_); refine ⟨(_, _), rfl, ?_, ?_⟩)
      all_goals (try omega)
      refine pw_loopS (α := Int × GLog) (l0 := ?l1) (m0 := ?m1) (fun x => [(8, .d (.int .i64 x.1)), (6, .d (.list x.2.kept.isEmpty (recsD x.2.kept)))]) (fun x => [(5, .cells [.d (.int .i64 x.2.disk.heads), .d (.int .i64 x.2.disk.turn), .d (.list x.2.disk.zn (zpsD x.2.disk.zones)), .d (.int .i64 x.2.disk.hskew), .d (.int .i64 x.2.disk.cskew), .d (.int .i64 x.2.disk.hlo), .d (.int .i64 x.2.disk.hhi), .d (.int .i64 x.2.disk.clo), .d (.int .i64 x.2.disk.chi), .d (.int .i64 x.2.blocks), .d (.int .i64 x.2.from'), .d (.list x.2.sn (recsD x.2.slots))])]) (fun x => (0 ≤ x.1 ∧ x.1 ≤ xs.length) ∧ x.2.openE = 0 ∧ (x.2.sn = true → x.2.slots = []) ∧ (x.2.disk.zn = true → x.2.disk.zones = [])) (fun x => (xs.length - x.1).toNat) (?a1_0, ?a1_1) ?h01 ?he1 ?he21 ?hI1 ?step1
      case h01 => (simp -implicitDefEqProofs only [go_sem, recsD_len, wgsD_len]; rfl)
      case he1 => rfl
      case he21 => rfl
      case' step1 => (rintro ⟨i, L⟩ hI; try dsimp only at hI)
      case' hI1 => try dsimp only
      · exact ⟨⟨by omega, by omega⟩, o0, s0, y0⟩
      · obtain ⟨⟨q1, q2⟩, q3, q4, q5⟩ := hI
        by_cases hi : i < xs.length
        · have w1 : IntKind.i64.wrap (i + 1) = i + 1 := wrapI _ (by omega)
          obtain ⟨y, hy⟩ : ∃ y, xs[i.toNat]?.getD default = y := ⟨_, rfl⟩
          obtain ⟨nw, es, d, torn, nh, home⟩ := y
          obtain ⟨p1, p2⟩ := openE_0 q3
          have gL := check_good p1
          by_cases h10 : 10 < (es.length : Int)
          · (try (simp -implicitDefEqProofs only [go_sem, wgsD_len, onSome_wgs, wgsD_unif, wgD_eq, wgC_eq, wrsD_len, hy, hi, q1, h10])); repeat' first | with_reducible exact True.intro | with_reducible refine And.intro ?_ ?_ | with_reducible intro _ | (((with_reducible refine isCall ?_); first | refine call_b (cw) rfl ?_ ?_ | refine call_d (cw) rfl ?_ | refine call_sb (cw) rfl ?_ ?_ | refine call_s (cw) rfl rfl ?_) <;> try (simp -implicitDefEqProofs only [go_sem, wgsD_len, onSome_wgs, wgsD_unif, wgD_eq, wgC_eq, wrsD_len, hy, hi, q1, h10])) | (((with_reducible refine vc_b ?_ ?_) <;> intro _) <;> try (simp -implicitDefEqProofs only [go_sem, wgsD_len, onSome_wgs, wgsD_unif, wgD_eq, wgC_eq, wrsD_len, hy, hi, q1, h10])) | simp (disch := omega) only [wrapI, wrapU, shl1, shl1', shl1'', shrN, shrN', and_one] | ((with_reducible refine isEx2 ?_); refine ⟨(_, _), rfl, ?_, ?_⟩)
            all_goals first | omega | rfl | trace_state
          · by_cases hd0 : d < 0
            · (try (simp -implicitDefEqProofs only [go_sem, wgsD_len, onSome_wgs, wgsD_unif, wgD_eq, wgC_eq, wrsD_len, hy, hi, q1, h10, hd0])); repeat' first | with_reducible exact True.intro | with_reducible refine And.intro ?_ ?_ | with_reducible intro _ | (((with_reducible refine isCall ?_); first | refine call_b (cw) rfl ?_ ?_ | refine call_d (cw) rfl ?_ | refine call_sb (cw) rfl ?_ ?_ | refine call_s (cw) rfl rfl ?_) <;> try (simp -implicitDefEqProofs only [go_sem, wgsD_len, onSome_wgs, wgsD_unif, wgD_eq, wgC_eq, wrsD_len, hy, hi, q1, h10, hd0])) | (((with_reducible refine vc_b ?_ ?_) <;> intro _) <;> try (simp -implicitDefEqProofs only [go_sem, wgsD_len, onSome_wgs, wgsD_unif, wgD_eq, wgC_eq, wrsD_len, hy, hi, q1, h10, hd0])) | simp (disch := omega) only [wrapI, wrapU, shl1, shl1', shl1'', shrN, shrN', and_one] | ((with_reducible refine isEx2 ?_); refine ⟨(_, _), rfl, ?_, ?_⟩)
              all_goals first | omega | rfl | trace_state
            · by_cases hd1 : (es.length : Int) < d
              · (try (simp -implicitDefEqProofs only [go_sem, wgsD_len, onSome_wgs, wgsD_unif, wgD_eq, wgC_eq, wrsD_len, hy, hi, q1, h10, hd0, hd1])); repeat' first | with_reducible exact True.intro | with_reducible refine And.intro ?_ ?_ | with_reducible intro _ | (((with_reducible refine isCall ?_); first | refine call_b (cw) rfl ?_ ?_ | refine call_d (cw) rfl ?_ | refine call_sb (cw) rfl ?_ ?_ | refine call_s (cw) rfl rfl ?_) <;> try (simp -implicitDefEqProofs only [go_sem, wgsD_len, onSome_wgs, wgsD_unif, wgD_eq, wgC_eq, wrsD_len, hy, hi, q1, h10, hd0, hd1])) | (((with_reducible refine vc_b ?_ ?_) <;> intro _) <;> try (simp -implicitDefEqProofs only [go_sem, wgsD_len, onSome_wgs, wgsD_unif, wgD_eq, wgC_eq, wrsD_len, hy, hi, q1, h10, hd0, hd1])) | simp (disch := omega) only [wrapI, wrapU, shl1, shl1', shl1'', shrN, shrN', and_one] | ((with_reducible refine isEx2 ?_); refine ⟨(_, _), rfl, ?_, ?_⟩)
                all_goals first | omega | rfl | trace_state
              · have hd2 : ((d.toNat : Nat) : Int) = d := by omega
                have hd3 : d.toNat ≤ es.length := by omega
                have hd4 : (es.take d.toNat).length = d.toNat := by simp; omega
                have hd5 : (0 : Int) ≤ d := by omega
                have hd6 : d ≤ (es.length : Int) := by omega
                have c3 := ref16_Newest_ret L
                have n2 := (newest_good gL).2.1
                have hkb : L.kept.length ≤ 1001 := by rw [kept_len]; exact many_bound gL
                cases torn with
                | false =>
                  have k1 := cutE_of q3 es d false (by omega) (fun h => by cases h)
                  have c4 := journal_Cut_ret L q4 q5 nw es d false
                  rw [k1] at c4
                  by_cases hE : errN L.blocks L.slots es es.length = 0
                  · have hE2 := errN_zero hE hd3
                    rw [hE] at k1
                    obtain ⟨a1, a2, a3⟩ := cut_all (torn := false) p1 p2 hE hd3 (fun h => by cases h)
                    have kp := putN_expect gL p2 es d.toNat hd3 hE2
                    rw [← cutL_of k1] at a1 a2
                    have s1 := cutL_sn (l := L) (es := es) (d := d) (torn := false)
                    have y1 := cutL_zn (l := L) (es := es) (d := d) (torn := false)
                    have c5 := journal_Recover_ret (L.cutL es d false) s1 y1
                    have c6 := ref16_Check_ret (L.cutL es d false)
                    rw [openE_check a1] at c6
                    have c7 := law16_expected_ret L.kept.isEmpty L.kept (fun h => by simpa using h) L.newest.num nw (es.take d.toNat) (by omega) (by omega) (by omega)
                    rw [← kp, ← a2] at c7
                    rw [recE_of a1, a1] at c5
                    rw [hE] at c4
                    generalize L.cutL es d false = L1 at *
                    have c8 := law16_sameRecords_ret L1.kept.isEmpty L1.kept.isEmpty L1.kept L1.kept true (by simp)
                    (try (simp -implicitDefEqProofs only [go_sem, logD_eq, logC_eq, wgsD_len, onSome_wgs, wgsD_unif, wgD_eq, wgC_eq, wrsD_len, wrsD_unif, wrsD_take, hy, hi, q1, h10, hd0, hd1, hd5, hd6, w1])); repeat' first | with_reducible exact True.intro | with_reducible refine And.intro ?_ ?_ | with_reducible intro _ | (((with_reducible refine isCall ?_); first | refine call_b (cw) rfl ?_ ?_ | refine call_d (cw) rfl ?_ | refine call_sb (cw) rfl ?_ ?_ | refine call_s (cw) rfl rfl ?_ | refine call_b (c3) rfl ?_ ?_ | refine call_d (c3) rfl ?_ | refine call_sb (c3) rfl ?_ ?_ | refine call_s (c3) rfl rfl ?_ | refine call_b (c4) rfl ?_ ?_ | refine call_d (c4) rfl ?_ | refine call_sb (c4) rfl ?_ ?_ | refine call_s (c4) rfl rfl ?_ | refine call_b (c5) rfl ?_ ?_ | refine call_d (c5) rfl ?_ | refine call_sb (c5) rfl ?_ ?_ | refine call_s (c5) rfl rfl ?_ | refine call_b (c6) rfl ?_ ?_ | refine call_d (c6) rfl ?_ | refine call_sb (c6) rfl ?_ ?_ | refine call_s (c6) rfl rfl ?_ | refine call_b (c7) rfl ?_ ?_ | refine call_d (c7) rfl ?_ | refine call_sb (c7) rfl ?_ ?_ | refine call_s (c7) rfl rfl ?_ | refine call_b (c8) rfl ?_ ?_ | refine call_d (c8) rfl ?_ | refine call_sb (c8) rfl ?_ ?_ | refine call_s (c8) rfl rfl ?_) <;> try (simp -implicitDefEqProofs only [go_sem, logD_eq, logC_eq, wgsD_len, onSome_wgs, wgsD_unif, wgD_eq, wgC_eq, wrsD_len, wrsD_unif, wrsD_take, hy, hi, q1, h10, hd0, hd1, hd5, hd6, w1])) | (((with_reducible refine vc_b ?_ ?_) <;> intro _) <;> try (simp -implicitDefEqProofs only [go_sem, logD_eq, logC_eq, wgsD_len, onSome_wgs, wgsD_unif, wgD_eq, wgC_eq, wrsD_len, wrsD_unif, wrsD_take, hy, hi, q1, h10, hd0, hd1, hd5, hd6, w1])) | simp (disch := omega) only [wrapI, wrapU, shl1, shl1', shl1'', shrN, shrN', and_one] | ((with_reducible refine isEx2 ?_); refine ⟨(_, _), rfl, ?_, ?_⟩)
                    all_goals first | omega | rfl | assumption | (apply s1; assumption) | (apply y1; assumption) | trace_state
                  · rcases errN_kind L.blocks L.slots es es.length with hx | hx | hx | hx
                    · exact absurd hx hE
                    all_goals
                      rw [hx] at c4
                      (try (simp -implicitDefEqProofs only [go_sem, logD_eq, logC_eq, wgsD_len, onSome_wgs, wgsD_unif, wgD_eq, wgC_eq, wrsD_len, hy, hi, q1, h10, hd0, hd1, w1])); repeat' first | with_reducible exact True.intro | with_reducible refine And.intro ?_ ?_ | with_reducible intro _ | (((with_reducible refine isCall ?_); first | refine call_b (cw) rfl ?_ ?_ | refine call_d (cw) rfl ?_ | refine call_sb (cw) rfl ?_ ?_ | refine call_s (cw) rfl rfl ?_ | refine call_b (c3) rfl ?_ ?_ | refine call_d (c3) rfl ?_ | refine call_sb (c3) rfl ?_ ?_ | refine call_s (c3) rfl rfl ?_ | refine call_b (c4) rfl ?_ ?_ | refine call_d (c4) rfl ?_ | refine call_sb (c4) rfl ?_ ?_ | refine call_s (c4) rfl rfl ?_) <;> try (simp -implicitDefEqProofs only [go_sem, logD_eq, logC_eq, wgsD_len, onSome_wgs, wgsD_unif, wgD_eq, wgC_eq, wrsD_len, hy, hi, q1, h10, hd0, hd1, w1])) | (((with_reducible refine vc_b ?_ ?_) <;> intro _) <;> try (simp -implicitDefEqProofs only [go_sem, logD_eq, logC_eq, wgsD_len, onSome_wgs, wgsD_unif, wgD_eq, wgC_eq, wrsD_len, hy, hi, q1, h10, hd0, hd1, w1])) | simp (disch := omega) only [wrapI, wrapU, shl1, shl1', shl1'', shrN, shrN', and_one] | ((with_reducible refine isEx2 ?_); refine ⟨(_, _), rfl, ?_, ?_⟩)
                      all_goals first | omega | rfl | trace_state
                | true =>
                  by_cases hdl : d = es.length
                  · (try (simp -implicitDefEqProofs only [go_sem, wgsD_len, onSome_wgs, wgsD_unif, wgD_eq, wgC_eq, wrsD_len, hy, hi, q1, h10, hd0, hd1, eq_true hdl])); repeat' first | with_reducible exact True.intro | with_reducible refine And.intro ?_ ?_ | with_reducible intro _ | (((with_reducible refine isCall ?_); first | refine call_b (cw) rfl ?_ ?_ | refine call_d (cw) rfl ?_ | refine call_sb (cw) rfl ?_ ?_ | refine call_s (cw) rfl rfl ?_) <;> try (simp -implicitDefEqProofs only [go_sem, wgsD_len, onSome_wgs, wgsD_unif, wgD_eq, wgC_eq, wrsD_len, hy, hi, q1, h10, hd0, hd1, eq_true hdl])) | (((with_reducible refine vc_b ?_ ?_) <;> intro _) <;> try (simp -implicitDefEqProofs only [go_sem, wgsD_len, onSome_wgs, wgsD_unif, wgD_eq, wgC_eq, wrsD_len, hy, hi, q1, h10, hd0, hd1, eq_true hdl])) | simp (disch := omega) only [wrapI, wrapU, shl1, shl1', shl1'', shrN, shrN', and_one] | ((with_reducible refine isEx2 ?_); refine ⟨(_, _), rfl, ?_, ?_⟩)
                    all_goals first | omega | rfl | trace_state
                  · have hdl2 : d.toNat < es.length := by omega
                    have k1 := cutE_of q3 es d true (by omega) (fun _ => hdl)
                    have c4 := journal_Cut_ret L q4 q5 nw es d true
                    rw [k1] at c4
                    by_cases hE : errN L.blocks L.slots es es.length = 0
                    · have hE2 := errN_zero hE hd3
                      rw [hE] at k1
                      obtain ⟨a1, a2, a3⟩ := cut_all (torn := true) p1 p2 hE hd3 (fun _ => hdl2)
                      have kp := putN_expect gL p2 es d.toNat hd3 hE2
                      rw [← cutL_of k1] at a1 a2
                      have s1 := cutL_sn (l := L) (es := es) (d := d) (torn := true)
                      have y1 := cutL_zn (l := L) (es := es) (d := d) (torn := true)
                      have c5 := journal_Recover_ret (L.cutL es d true) s1 y1
                      have c6 := ref16_Check_ret (L.cutL es d true)
                      rw [openE_check a1] at c6
                      have c7 := law16_expected_ret L.kept.isEmpty L.kept (fun h => by simpa using h) L.newest.num nw (es.take d.toNat) (by omega) (by omega) (by omega)
                      rw [← kp, ← a2] at c7
                      rw [recE_of a1, a1] at c5
                      rw [hE] at c4
                      generalize L.cutL es d true = L1 at *
                      have c8 := law16_sameRecords_ret L1.kept.isEmpty L1.kept.isEmpty L1.kept L1.kept true (by simp)
                      (try (simp -implicitDefEqProofs only [go_sem, logD_eq, logC_eq, wgsD_len, onSome_wgs, wgsD_unif, wgD_eq, wgC_eq, wrsD_len, wrsD_unif, wrsD_take, hy, hi, q1, h10, hd0, hd1, hd5, hd6, w1, hdl])); repeat' first | with_reducible exact True.intro | with_reducible refine And.intro ?_ ?_ | with_reducible intro _ | (((with_reducible refine isCall ?_); first | refine call_b (cw) rfl ?_ ?_ | refine call_d (cw) rfl ?_ | refine call_sb (cw) rfl ?_ ?_ | refine call_s (cw) rfl rfl ?_ | refine call_b (c3) rfl ?_ ?_ | refine call_d (c3) rfl ?_ | refine call_sb (c3) rfl ?_ ?_ | refine call_s (c3) rfl rfl ?_ | refine call_b (c4) rfl ?_ ?_ | refine call_d (c4) rfl ?_ | refine call_sb (c4) rfl ?_ ?_ | refine call_s (c4) rfl rfl ?_ | refine call_b (c5) rfl ?_ ?_ | refine call_d (c5) rfl ?_ | refine call_sb (c5) rfl ?_ ?_ | refine call_s (c5) rfl rfl ?_ | refine call_b (c6) rfl ?_ ?_ | refine call_d (c6) rfl ?_ | refine call_sb (c6) rfl ?_ ?_ | refine call_s (c6) rfl rfl ?_ | refine call_b (c7) rfl ?_ ?_ | refine call_d (c7) rfl ?_ | refine call_sb (c7) rfl ?_ ?_ | refine call_s (c7) rfl rfl ?_ | refine call_b (c8) rfl ?_ ?_ | refine call_d (c8) rfl ?_ | refine call_sb (c8) rfl ?_ ?_ | refine call_s (c8) rfl rfl ?_) <;> try (simp -implicitDefEqProofs only [go_sem, logD_eq, logC_eq, wgsD_len, onSome_wgs, wgsD_unif, wgD_eq, wgC_eq, wrsD_len, wrsD_unif, wrsD_take, hy, hi, q1, h10, hd0, hd1, hd5, hd6, w1, hdl])) | (((with_reducible refine vc_b ?_ ?_) <;> intro _) <;> try (simp -implicitDefEqProofs only [go_sem, logD_eq, logC_eq, wgsD_len, onSome_wgs, wgsD_unif, wgD_eq, wgC_eq, wrsD_len, wrsD_unif, wrsD_take, hy, hi, q1, h10, hd0, hd1, hd5, hd6, w1, hdl])) | simp (disch := omega) only [wrapI, wrapU, shl1, shl1', shl1'', shrN, shrN', and_one] | ((with_reducible refine isEx2 ?_); refine ⟨(_, _), rfl, ?_, ?_⟩)
                      all_goals first | omega | rfl | assumption | (apply s1; assumption) | (apply y1; assumption) | trace_state
                    · rcases errN_kind L.blocks L.slots es es.length with hx | hx | hx | hx
                      · exact absurd hx hE
                      all_goals
                        rw [hx] at c4
                        (try (simp -implicitDefEqProofs only [go_sem, logD_eq, logC_eq, wgsD_len, onSome_wgs, wgsD_unif, wgD_eq, wgC_eq, wrsD_len, hy, hi, q1, h10, hd0, hd1, w1, hdl])); repeat' first | with_reducible exact True.intro | with_reducible refine And.intro ?_ ?_ | with_reducible intro _ | (((with_reducible refine isCall ?_); first | refine call_b (cw) rfl ?_ ?_ | refine call_d (cw) rfl ?_ | refine call_sb (cw) rfl ?_ ?_ | refine call_s (cw) rfl rfl ?_ | refine call_b (c3) rfl ?_ ?_ | refine call_d (c3) rfl ?_ | refine call_sb (c3) rfl ?_ ?_ | refine call_s (c3) rfl rfl ?_ | refine call_b (c4) rfl ?_ ?_ | refine call_d (c4) rfl ?_ | refine call_sb (c4) rfl ?_ ?_ | refine call_s (c4) rfl rfl ?_) <;> try (simp -implicitDefEqProofs only [go_sem, logD_eq, logC_eq, wgsD_len, onSome_wgs, wgsD_unif, wgD_eq, wgC_eq, wrsD_len, hy, hi, q1, h10, hd0, hd1, w1, hdl])) | (((with_reducible refine vc_b ?_ ?_) <;> intro _) <;> try (simp -implicitDefEqProofs only [go_sem, logD_eq, logC_eq, wgsD_len, onSome_wgs, wgsD_unif, wgD_eq, wgC_eq, wrsD_len, hy, hi, q1, h10, hd0, hd1, w1, hdl])) | simp (disch := omega) only [wrapI, wrapU, shl1, shl1', shl1'', shrN, shrN', and_one] | ((with_reducible refine isEx2 ?_); refine ⟨(_, _), rfl, ?_, ?_⟩)
                        all_goals first | omega | rfl | trace_state
        · (try (simp -implicitDefEqProofs only [go_sem, wgsD_len, hi])); repeat' first | with_reducible exact True.intro | with_reducible refine And.intro ?_ ?_ | with_reducible intro _ | (((with_reducible refine isCall ?_); first | refine call_b (cw) rfl ?_ ?_ | refine call_d (cw) rfl ?_ | refine call_sb (cw) rfl ?_ ?_ | refine call_s (cw) rfl rfl ?_) <;> try (simp -implicitDefEqProofs only [go_sem, wgsD_len, hi])) | (((with_reducible refine vc_b ?_ ?_) <;> intro _) <;> try (simp -implicitDefEqProofs only [go_sem, wgsD_len, hi])) | simp (disch := omega) only [wrapI, wrapU, shl1, shl1', shl1'', shrN, shrN', and_one] | ((with_reducible refine isEx2 ?_); refine ⟨(_, _), rfl, ?_, ?_⟩)
          all_goals first | omega | rfl | trace_state
end Go.Pw
end
