/- A part of the proof. -/
import Derived.Test.YtiphmemigdplgaaDoorPgJournalD
set_option linter.all false
section
open Go Go.Pw Go.Proofs
namespace Go.Pw
set_option linter.unusedSimpArgs false
set_option linter.unusedVariables false
set_option maxRecDepth 100000
set_option maxHeartbeats 3200000
theorem check_00 {l : GLog} (h : l.openE ≠ 0) : l.check = 0 → l.full = false := fun hc => by
  unfold GLog.openE at h
  rw [if_neg (by simpa using hc)] at h
  cases hf : l.full with
  | false => rfl
  | true => rw [hf] at h; simp at h
attribute [local congr] cg_pw cg_seqI cg_seqE cg_stepI cg_ev cg_evBin cg_condB cg_condV cg_thenQ cg_blockQ cg_onSome cg_onCells cg_onRow cg_onMap cg_onOpt cg_ghosts cg_ghost cg_evCall cg_part cg_rng cg_guardV cg_frzV cg_frpV cg_ownV cg_owcV cg_occV cg_occX cg_resK cg_res1 cg_yldP cg_rndE cg_onlyN cg_onHist
attribute [local irreducible] IntKind.wrap bitsOp Option.getD and or

theorem ref16_kept_ret (l : GLog) (g : l.Good) : Ret E0 F_ref16_kept [logD l] (.tup [.list (!l.full || l.keptA.isEmpty) (recsD l.keptA), .bool l.full]) := by
  refine ret_of_pw dec_ref16_kept mixed (by simp) fun hwf => ?_
  have c1 := ref16_Newest_ret l
  have c2 := fun r => ref16_Has_ret r
  obtain ⟨n1, n2, n3⟩ := newest_good g
  have m1 := g.m1; have m2 := g.m2
  obtain ⟨⟨na, nb, nc, nd, ne⟩, hR⟩ : ∃ R, l.newest = R := ⟨_, rfl⟩
  have hN : l.newest.num = na := by rw [hR]
  have hT : l.newest.tail = nd := by rw [hR]
  rw [hN, hT] at c1
  rw [hN, hT] at n3
  rw [hN] at n2
  rw [enter_eq]; unfold pc_ref16_kept
  (try (simp -implicitDefEqProofs only [go_sem, logD_eq, logC_eq])); repeat' first | with_reducible exact True.intro | with_reducible refine And.intro ?_ ?_ | with_reducible intro _ | (((with_reducible refine isCall ?_); first | refine call_b (c1) rfl ?_ ?_ | refine call_d (c1) rfl ?_ | refine call_sb (c1) rfl ?_ ?_ | refine call_s (c1) rfl rfl ?_) <;> try (simp -implicitDefEqProofs only [go_sem, logD_eq, logC_eq])) | (((with_reducible refine vc_b ?_ ?_) <;> intro _) <;> try (simp -implicitDefEqProofs only [go_sem, logD_eq, logC_eq])) | simp (disch := omega) only [wrapI, wrapU, shl1, shl1', shl1'', shrN, shrN', and_one] | ((with_reducible refine isEx3 ?_); refine ⟨(_, _, _), rfl, ?_, ?_⟩)
  all_goals first | omega | (simp; done) | (simp; omega) | skip
  refine pw_loopS (α := Int × (List GRec) × Bool) (l0 := ?l1) (m0 := ?m1) (fun x => [(7, .d (.int .i64 x.1))]) (fun x => [(41, .row 40 5 x.2.2 (recsD x.2.1))]) (fun x => (nd ≤ x.1 ∧ x.1 ≤ na + 1) ∧ x.2.1 = l.keptN nd (x.1 - nd).toNat ∧ x.2.2 = x.2.1.isEmpty ∧ l.whole nd (x.1 - nd).toNat = true) (fun x => (na + 1 - x.1).toNat) (?a1_0, [], true) ?h01 ?he1 ?he21 ?hI1 ?step1
  case h01 => (simp -implicitDefEqProofs only [go_sem, logC_eq]; rfl)
  case he1 => rfl
  case he21 => rfl
  case' step1 => (rintro ⟨n, out, b⟩ hI; try dsimp only at hI)
  case' hI1 => try dsimp only
  · refine ⟨⟨by omega, by omega⟩, ?_, rfl, ?_⟩
    · rw [Int.sub_self]; rfl
    · rw [Int.sub_self]; rfl
  · obtain ⟨⟨q1, q2⟩, q3, q4, q5⟩ := hI
    by_cases hn : n ≤ na
    · have w1 : IntKind.i64.wrap (n + 1) = n + 1 := wrapI _ (by omega)
      have k1 := whole_next (l := l) q1
      have k2 := keptN_next (l := l) q1
      have k3 := full_bad (l := l) (n := n) (by omega) (by omega)
      have hlen := keptN_len l nd (n - nd).toNat
      rw [← q3] at hlen k2
      rw [q5] at k1
      have hemp := isEmpty_snocR out
      have t1 := Int.tmod_nonneg (l.slots.length : Int) (show 0 ≤ n by omega)
      have t2 := Int.tmod_lt_of_pos n (b := (l.slots.length : Int)) (by omega)
      have e5 : ¬ (l.slots.length : Int) = 0 := by omega
      have c3 := c2 (l.at' n)
      obtain ⟨r, hr⟩ : ∃ r, l.at' n = r := ⟨_, rfl⟩
      have hr' : l.slots[(n.tmod l.slots.length).toNat]?.getD default = r := hr
      rw [hr] at k1 k2 k3 c3
      rw [recD_eq, recC_eq] at c3
      cases hb : r.bad with
      | true =>
        have hf := k3 (by rw [hb]; simp)
        have ha : l.keptA = [] := by unfold GLog.keptA; rw [hf]; simp
        rw [hf, ha]
        rw [hb] at c3
        simp only [Bool.not_true, Bool.false_and] at c3
        (try (simp -implicitDefEqProofs only [go_sem, logC_eq, hn, recsD_nil, recsD_len, onSome_recs, recsD_unif, recD_eq, recC_eq, hr', hb, t1, t2, e5])); repeat' first | with_reducible exact True.intro | with_reducible refine And.intro ?_ ?_ | with_reducible intro _ | (((with_reducible refine isCall ?_); first | refine call_b (c3) rfl ?_ ?_ | refine call_d (c3) rfl ?_ | refine call_sb (c3) rfl ?_ ?_ | refine call_s (c3) rfl rfl ?_) <;> try (simp -implicitDefEqProofs only [go_sem, logC_eq, hn, recsD_nil, recsD_len, onSome_recs, recsD_unif, recD_eq, recC_eq, hr', hb, t1, t2, e5])) | (((with_reducible refine vc_b ?_ ?_) <;> intro _) <;> try (simp -implicitDefEqProofs only [go_sem, logC_eq, hn, recsD_nil, recsD_len, onSome_recs, recsD_unif, recD_eq, recC_eq, hr', hb, t1, t2, e5])) | simp (disch := omega) only [wrapI, wrapU, shl1, shl1', shl1'', shrN, shrN', and_one] | ((with_reducible refine isEx3 ?_); refine ⟨(_, _, _), rfl, ?_, ?_⟩)
        all_goals first | omega | (simp; done) | rfl | skip
      | false =>
        rw [hb] at c3
        by_cases hx : r.num = n
        · rw [hb, decide_eq_true hx] at k1
          have hz : 0 ≤ r.num := by omega
          simp only [Bool.not_false, Bool.true_and, decide_eq_true hz] at c3
          have hnx : l.keptN nd (n + 1 - nd).toNat = out ++ [⟨r.num, r.blk, r.val, r.tail, false⟩] := by rw [k2, ← hb]
          have k1' : l.whole nd (n + 1 - nd).toNat = true := by rw [k1]; simp
          (try (simp -implicitDefEqProofs only [go_sem, logC_eq, hn, eq_true hx, recsD_len, onSome_recs, recsD_unif, recsD_snoc, recD_eq, recC_eq, hr', hb, t1, t2, e5, w1])); repeat' first | with_reducible exact True.intro | with_reducible refine And.intro ?_ ?_ | with_reducible intro _ | (((with_reducible refine isCall ?_); first | refine call_b (c3) rfl ?_ ?_ | refine call_d (c3) rfl ?_ | refine call_sb (c3) rfl ?_ ?_ | refine call_s (c3) rfl rfl ?_) <;> try (simp -implicitDefEqProofs only [go_sem, logC_eq, hn, eq_true hx, recsD_len, onSome_recs, recsD_unif, recsD_snoc, recD_eq, recC_eq, hr', hb, t1, t2, e5, w1])) | (((with_reducible refine vc_b ?_ ?_) <;> intro _) <;> try (simp -implicitDefEqProofs only [go_sem, logC_eq, hn, eq_true hx, recsD_len, onSome_recs, recsD_unif, recsD_snoc, recD_eq, recC_eq, hr', hb, t1, t2, e5, w1])) | simp (disch := omega) only [wrapI, wrapU, shl1, shl1', shl1'', shrN, shrN', and_one] | ((with_reducible refine isEx3 ?_); refine ⟨(_, _, _), rfl, ?_, ?_⟩)
          all_goals first | omega | exact hnx.symm | exact k1' | exact (hemp _).symm | trace_state
        · have hf := k3 (by rw [hb, decide_eq_false hx]; simp)
          have ha : l.keptA = [] := by unfold GLog.keptA; rw [hf]; simp
          rw [hf, ha]
          by_cases hz : 0 ≤ r.num
          · simp only [Bool.not_false, Bool.true_and, decide_eq_true hz] at c3
            (try (simp -implicitDefEqProofs only [go_sem, logC_eq, hn, hx, recsD_nil, recsD_len, onSome_recs, recsD_unif, recD_eq, recC_eq, hr', hb, t1, t2, e5])); repeat' first | with_reducible exact True.intro | with_reducible refine And.intro ?_ ?_ | with_reducible intro _ | (((with_reducible refine isCall ?_); first | refine call_b (c3) rfl ?_ ?_ | refine call_d (c3) rfl ?_ | refine call_sb (c3) rfl ?_ ?_ | refine call_s (c3) rfl rfl ?_) <;> try (simp -implicitDefEqProofs only [go_sem, logC_eq, hn, hx, recsD_nil, recsD_len, onSome_recs, recsD_unif, recD_eq, recC_eq, hr', hb, t1, t2, e5])) | (((with_reducible refine vc_b ?_ ?_) <;> intro _) <;> try (simp -implicitDefEqProofs only [go_sem, logC_eq, hn, hx, recsD_nil, recsD_len, onSome_recs, recsD_unif, recD_eq, recC_eq, hr', hb, t1, t2, e5])) | simp (disch := omega) only [wrapI, wrapU, shl1, shl1', shl1'', shrN, shrN', and_one] | ((with_reducible refine isEx3 ?_); refine ⟨(_, _, _), rfl, ?_, ?_⟩)
            all_goals first | omega | (simp; done) | rfl | skip
          · simp only [Bool.not_false, Bool.true_and, decide_eq_false hz] at c3
            (try (simp -implicitDefEqProofs only [go_sem, logC_eq, hn, hx, recsD_nil, recsD_len, onSome_recs, recsD_unif, recD_eq, recC_eq, hr', hb, t1, t2, e5])); repeat' first | with_reducible exact True.intro | with_reducible refine And.intro ?_ ?_ | with_reducible intro _ | (((with_reducible refine isCall ?_); first | refine call_b (c3) rfl ?_ ?_ | refine call_d (c3) rfl ?_ | refine call_sb (c3) rfl ?_ ?_ | refine call_s (c3) rfl rfl ?_) <;> try (simp -implicitDefEqProofs only [go_sem, logC_eq, hn, hx, recsD_nil, recsD_len, onSome_recs, recsD_unif, recD_eq, recC_eq, hr', hb, t1, t2, e5])) | (((with_reducible refine vc_b ?_ ?_) <;> intro _) <;> try (simp -implicitDefEqProofs only [go_sem, logC_eq, hn, hx, recsD_nil, recsD_len, onSome_recs, recsD_unif, recD_eq, recC_eq, hr', hb, t1, t2, e5])) | simp (disch := omega) only [wrapI, wrapU, shl1, shl1', shl1'', shrN, shrN', and_one] | ((with_reducible refine isEx3 ?_); refine ⟨(_, _, _), rfl, ?_, ?_⟩)
            all_goals first | omega | (simp; done) | rfl | skip
    · have hne : n = na + 1 := by omega
      have hm : (n - nd).toNat = l.many := by unfold GLog.many; omega
      rw [hm] at q3 q5
      have hf : l.full = true := by unfold GLog.full; rw [hT]; exact q5
      have ha : l.keptA = out := by unfold GLog.keptA GLog.kept; rw [hf, q3, hT]; rfl
      rw [hf, ha, ← q4]
      (try (simp -implicitDefEqProofs only [go_sem, logC_eq, hn])); repeat' first | with_reducible exact True.intro | with_reducible refine And.intro ?_ ?_ | with_reducible intro _ | (((with_reducible refine vc_b ?_ ?_) <;> intro _) <;> try (simp -implicitDefEqProofs only [go_sem, logC_eq, hn])) | simp (disch := omega) only [wrapI, wrapU, shl1, shl1', shl1'', shrN, shrN', and_one] | ((with_reducible refine isEx3 ?_); refine ⟨(_, _, _), rfl, ?_, ?_⟩)

theorem ref16_CheckKept_ret (l : GLog) : Ret E0 F_ref16_CheckKept [logD l] (.int .i64 l.openE) := by
  refine ret_of_pw dec_ref16_CheckKept mixed (by simp) fun hwf => ?_
  have c1 := ref16_Check_ret l
  rw [enter_eq]; unfold pc_ref16_CheckKept GLog.openE
  by_cases hc : l.check = 0
  · rw [hc] at c1 ⊢
    have g := check_good hc
    have c2 := ref16_kept_ret l g
    cases hf : l.full with
    | true =>
      rw [hf] at c2
      (try (simp -implicitDefEqProofs only [go_sem, logD_eq, logC_eq])); repeat' first | with_reducible exact True.intro | with_reducible refine And.intro ?_ ?_ | with_reducible intro _ | (((with_reducible refine isCall ?_); first | refine call_b (c1) rfl ?_ ?_ | refine call_d (c1) rfl ?_ | refine call_sb (c1) rfl ?_ ?_ | refine call_s (c1) rfl rfl ?_ | refine call_b (c2) rfl ?_ ?_ | refine call_d (c2) rfl ?_ | refine call_sb (c2) rfl ?_ ?_ | refine call_s (c2) rfl rfl ?_) <;> try (simp -implicitDefEqProofs only [go_sem, logD_eq, logC_eq])) | (((with_reducible refine vc_b ?_ ?_) <;> intro _) <;> try (simp -implicitDefEqProofs only [go_sem, logD_eq, logC_eq])) | simp (disch := omega) only [wrapI, wrapU, shl1, shl1', shl1'', shrN, shrN', and_one] 
      all_goals first | omega | rfl | (simp; done) | skip
    | false =>
      rw [hf] at c2
      (try (simp -implicitDefEqProofs only [go_sem, logD_eq, logC_eq])); repeat' first | with_reducible exact True.intro | with_reducible refine And.intro ?_ ?_ | with_reducible intro _ | (((with_reducible refine isCall ?_); first | refine call_b (c1) rfl ?_ ?_ | refine call_d (c1) rfl ?_ | refine call_sb (c1) rfl ?_ ?_ | refine call_s (c1) rfl rfl ?_ | refine call_b (c2) rfl ?_ ?_ | refine call_d (c2) rfl ?_ | refine call_sb (c2) rfl ?_ ?_ | refine call_s (c2) rfl rfl ?_) <;> try (simp -implicitDefEqProofs only [go_sem, logD_eq, logC_eq])) | (((with_reducible refine vc_b ?_ ?_) <;> intro _) <;> try (simp -implicitDefEqProofs only [go_sem, logD_eq, logC_eq])) | simp (disch := omega) only [wrapI, wrapU, shl1, shl1', shl1'', shrN, shrN', and_one] 
      all_goals first | omega | rfl | (simp; done) | skip
  · rw [if_pos hc]
    (try (simp -implicitDefEqProofs only [go_sem, logD_eq, logC_eq, hc])); repeat' first | with_reducible exact True.intro | with_reducible refine And.intro ?_ ?_ | with_reducible intro _ | (((with_reducible refine isCall ?_); first | refine call_b (c1) rfl ?_ ?_ | refine call_d (c1) rfl ?_ | refine call_sb (c1) rfl ?_ ?_ | refine call_s (c1) rfl rfl ?_) <;> try (simp -implicitDefEqProofs only [go_sem, logD_eq, logC_eq, hc])) | (((with_reducible refine vc_b ?_ ?_) <;> intro _) <;> try (simp -implicitDefEqProofs only [go_sem, logD_eq, logC_eq, hc])) | simp (disch := omega) only [wrapI, wrapU, shl1, shl1', shl1'', shrN, shrN', and_one] 
    all_goals first | omega | rfl | (simp; done) | skip

theorem ref16_Recover_ret (l : GLog) : Ret E0 F_ref16_Recover [logD l] (.tup [.list l.recE.isEmpty (recsD l.recE), .int .i64 l.openE]) := by
  refine ret_of_pw dec_ref16_Recover mixed (by simp) fun hwf => ?_
  have c1 := ref16_CheckKept_ret l
  rw [enter_eq]; unfold pc_ref16_Recover GLog.recE
  by_cases he : l.openE = 0
  · obtain ⟨h1, h2⟩ := openE_0 he
    have c2 := ref16_kept_ret l (check_good h1)
    rw [h2, keptA_full h2] at c2
    rw [if_pos he]
    rw [he] at c1 ⊢
    (try (simp -implicitDefEqProofs only [go_sem, logD_eq, logC_eq])); repeat' first | with_reducible exact True.intro | with_reducible refine And.intro ?_ ?_ | with_reducible intro _ | (((with_reducible refine isCall ?_); first | refine call_b (c1) rfl ?_ ?_ | refine call_d (c1) rfl ?_ | refine call_sb (c1) rfl ?_ ?_ | refine call_s (c1) rfl rfl ?_ | refine call_b (c2) rfl ?_ ?_ | refine call_d (c2) rfl ?_ | refine call_sb (c2) rfl ?_ ?_ | refine call_s (c2) rfl rfl ?_) <;> try (simp -implicitDefEqProofs only [go_sem, logD_eq, logC_eq])) | (((with_reducible refine vc_b ?_ ?_) <;> intro _) <;> try (simp -implicitDefEqProofs only [go_sem, logD_eq, logC_eq])) | simp (disch := omega) only [wrapI, wrapU, shl1, shl1', shl1'', shrN, shrN', and_one] 
    all_goals first | omega | rfl | (simp; done) | skip
  · rw [if_neg he]
    (try (simp -implicitDefEqProofs only [go_sem, logD_eq, logC_eq, he, recsD_nil])); repeat' first | with_reducible exact True.intro | with_reducible refine And.intro ?_ ?_ | with_reducible intro _ | (((with_reducible refine isCall ?_); first | refine call_b (c1) rfl ?_ ?_ | refine call_d (c1) rfl ?_ | refine call_sb (c1) rfl ?_ ?_ | refine call_s (c1) rfl rfl ?_) <;> try (simp -implicitDefEqProofs only [go_sem, logD_eq, logC_eq, he, recsD_nil])) | (((with_reducible refine vc_b ?_ ?_) <;> intro _) <;> try (simp -implicitDefEqProofs only [go_sem, logD_eq, logC_eq, he, recsD_nil])) | simp (disch := omega) only [wrapI, wrapU, shl1, shl1', shl1'', shrN, shrN', and_one] 
    all_goals first | omega | rfl | (simp; done) | skip

theorem ref16_hasRoom_ret (l : GLog) (g : l.Good) (n : Int) (h : 0 ≤ n ∧ n ≤ 100000) : Ret E0 F_ref16_hasRoom [logD l, .int .i64 n] (.bool (decide (n - l.slots.length < l.newest.tail))) := by
  refine ret_of_pw dec_ref16_hasRoom mixed (by simp) fun hwf => ?_
  have c1 := ref16_Newest_ret l
  have m1 := g.m1; have m2 := g.m2
  have w1 : IntKind.i64.wrap (n - l.slots.length) = n - l.slots.length := wrapI _ (by omega)
  rw [enter_eq]; unfold pc_ref16_hasRoom
  by_cases hh : n - l.slots.length < l.newest.tail
  · (try (simp -implicitDefEqProofs only [go_sem, logD_eq, logC_eq, recsD_len, w1, hh])); repeat' first | with_reducible exact True.intro | with_reducible refine And.intro ?_ ?_ | with_reducible intro _ | (((with_reducible refine isCall ?_); first | refine call_b (c1) rfl ?_ ?_ | refine call_d (c1) rfl ?_ | refine call_sb (c1) rfl ?_ ?_ | refine call_s (c1) rfl rfl ?_) <;> try (simp -implicitDefEqProofs only [go_sem, logD_eq, logC_eq, recsD_len, w1, hh])) | (((with_reducible refine vc_b ?_ ?_) <;> intro _) <;> try (simp -implicitDefEqProofs only [go_sem, logD_eq, logC_eq, recsD_len, w1, hh])) | simp (disch := omega) only [wrapI, wrapU, shl1, shl1', shl1'', shrN, shrN', and_one] 
    all_goals first | rfl | (simp [hh]; done)
  · (try (simp -implicitDefEqProofs only [go_sem, logD_eq, logC_eq, recsD_len, w1, hh])); repeat' first | with_reducible exact True.intro | with_reducible refine And.intro ?_ ?_ | with_reducible intro _ | (((with_reducible refine isCall ?_); first | refine call_b (c1) rfl ?_ ?_ | refine call_d (c1) rfl ?_ | refine call_sb (c1) rfl ?_ ?_ | refine call_s (c1) rfl rfl ?_) <;> try (simp -implicitDefEqProofs only [go_sem, logD_eq, logC_eq, recsD_len, w1, hh])) | (((with_reducible refine vc_b ?_ ?_) <;> intro _) <;> try (simp -implicitDefEqProofs only [go_sem, logD_eq, logC_eq, recsD_len, w1, hh])) | simp (disch := omega) only [wrapI, wrapU, shl1, shl1', shl1'', shrN, shrN', and_one] 
    all_goals first | rfl | (simp [hh]; done)

/-- There is a record in each slot of the kept ones: their number is at most that of the slots. -/
theorem room_bound {l : GLog} (g : l.Good) (hf : l.full = true) : l.newest.num + 1 - l.newest.tail ≤ l.slots.length := by
  obtain ⟨n1, n2, n3⟩ := newest_good g
  have m1 := g.m1
  rcases Int.lt_or_le (l.slots.length : Int) (l.newest.num + 1 - l.newest.tail) with hlt | hle
  · exfalso
    have key : ∀ i : Nat, i < l.many → (l.at' (l.newest.tail + i)).num = l.newest.tail + i := fun i hi => by
      cases hq : (!(l.at' (l.newest.tail + i)).bad && decide ((l.at' (l.newest.tail + i)).num = l.newest.tail + i)) with
      | true => simp at hq; exact hq.2
      | false => unfold GLog.full at hf; rw [whole_bad hi hq] at hf; cases hf
    have h1 := key 0 (by unfold GLog.many; omega)
    have h2 := key l.slots.length (by unfold GLog.many; omega)
    unfold GLog.at' at h1 h2
    have e : (l.newest.tail + (l.slots.length : Nat)).tmod l.slots.length = (l.newest.tail + ((0 : Nat) : Int)).tmod l.slots.length := by
      rw [Int.tmod_eq_emod_of_nonneg (by omega), Int.tmod_eq_emod_of_nonneg (by omega), Int.add_emod_right]; simp
    rw [e] at h2
    rw [h1] at h2
    omega
  · exact hle

theorem ref16_Room_ret (l : GLog) : Ret E0 F_ref16_Room [logD l] (.tup [.int .i64 l.room, .int .i64 l.openE]) := by
  refine ret_of_pw dec_ref16_Room mixed (by simp) fun hwf => ?_
  have c1 := ref16_CheckKept_ret l
  rw [enter_eq]; unfold pc_ref16_Room GLog.room
  by_cases he : l.openE = 0
  · obtain ⟨h1, h2⟩ := openE_0 he
    have g := check_good h1
    have hrb := room_bound g h2
    have c2 := ref16_Newest_ret l
    have c3 := fun n h => ref16_hasRoom_ret l g n h
    obtain ⟨n1, n2, n3⟩ := newest_good g
    have m1 := g.m1; have m2 := g.m2
    rw [if_pos he]
    rw [he] at c1 ⊢
    have hwl : IntKind.i64.wrap (l.newest.num + 1) = l.newest.num + 1 := wrapI _ (by omega)
    generalize l.newest.num = na at *
    generalize l.newest.tail = nd at *
    (try (simp -implicitDefEqProofs only [go_sem, logD_eq, logC_eq])); repeat' first | with_reducible exact True.intro | with_reducible refine And.intro ?_ ?_ | with_reducible intro _ | (((with_reducible refine isCall ?_); first | refine call_b (c1) rfl ?_ ?_ | refine call_d (c1) rfl ?_ | refine call_sb (c1) rfl ?_ ?_ | refine call_s (c1) rfl rfl ?_ | refine call_b (c2) rfl ?_ ?_ | refine call_d (c2) rfl ?_ | refine call_sb (c2) rfl ?_ ?_ | refine call_s (c2) rfl rfl ?_) <;> try (simp -implicitDefEqProofs only [go_sem, logD_eq, logC_eq])) | (((with_reducible refine vc_b ?_ ?_) <;> intro _) <;> try (simp -implicitDefEqProofs only [go_sem, logD_eq, logC_eq])) | simp (disch := omega) only [wrapI, wrapU, shl1, shl1', shl1'', shrN, shrN', and_one] | ((with_reducible refine isEx ?_); refine ⟨_, rfl, ?_, ?_⟩)
    all_goals first | omega | (simp; done) | (simp; omega) | skip
    refine pw_loopS (α := Int) (l0 := ?l2) (m0 := ?m2) (fun x => [(7, .d (.int .i64 x))]) (fun x => []) (fun x => 0 ≤ x ∧ x ≤ nd + l.slots.length - na - 1) (fun x => (nd + l.slots.length - na - x).toNat) ?a2_0 ?h02 ?he2 ?he22 ?hI2 ?step2
    case h02 => (simp -implicitDefEqProofs only [go_sem, logC_eq]; rfl)
    case he2 => rfl
    case he22 => rfl
    case' step2 => (rintro n hI; try dsimp only at hI)
    case' hI2 => try dsimp only
    · exact ⟨by omega, by omega⟩
    · obtain ⟨q1, q2⟩ := hI
      have c4 := c3 (na + 1 + n) (by omega)
      have w1 : IntKind.i64.wrap (na + 1 + n) = na + 1 + n := wrapI _ (by omega)
      have w2 : IntKind.i64.wrap (n + 1) = n + 1 := wrapI _ (by omega)
      by_cases hh : na + 1 + n - l.slots.length < nd
      · rw [decide_eq_true hh] at c4
        (try (simp -implicitDefEqProofs only [go_sem, logD_eq, logC_eq, hwl, w1, w2])); repeat' first | with_reducible exact True.intro | with_reducible refine And.intro ?_ ?_ | with_reducible intro _ | (((with_reducible refine isCall ?_); first | refine call_b (c4) rfl ?_ ?_ | refine call_d (c4) rfl ?_ | refine call_sb (c4) rfl ?_ ?_ | refine call_s (c4) rfl rfl ?_) <;> try (simp -implicitDefEqProofs only [go_sem, logD_eq, logC_eq, hwl, w1, w2])) | (((with_reducible refine vc_b ?_ ?_) <;> intro _) <;> try (simp -implicitDefEqProofs only [go_sem, logD_eq, logC_eq, hwl, w1, w2])) | simp (disch := omega) only [wrapI, wrapU, shl1, shl1', shl1'', shrN, shrN', and_one] | ((with_reducible refine isEx ?_); refine ⟨_, rfl, ?_, ?_⟩)
        all_goals first | omega | (simp; done) | (simp; omega) | skip
      · rw [decide_eq_false hh] at c4
        have hne : n = nd + l.slots.length - na - 1 := by omega
        rw [← hne]
        (try (simp -implicitDefEqProofs only [go_sem, logD_eq, logC_eq, hwl, w1, w2])); repeat' first | with_reducible exact True.intro | with_reducible refine And.intro ?_ ?_ | with_reducible intro _ | (((with_reducible refine isCall ?_); first | refine call_b (c4) rfl ?_ ?_ | refine call_d (c4) rfl ?_ | refine call_sb (c4) rfl ?_ ?_ | refine call_s (c4) rfl rfl ?_) <;> try (simp -implicitDefEqProofs only [go_sem, logD_eq, logC_eq, hwl, w1, w2])) | (((with_reducible refine vc_b ?_ ?_) <;> intro _) <;> try (simp -implicitDefEqProofs only [go_sem, logD_eq, logC_eq, hwl, w1, w2])) | simp (disch := omega) only [wrapI, wrapU, shl1, shl1', shl1'', shrN, shrN', and_one] | ((with_reducible refine isEx ?_); refine ⟨_, rfl, ?_, ?_⟩)
        all_goals first | omega | (simp; done) | (simp; omega) | skip
  · rw [if_neg he]
    (try (simp -implicitDefEqProofs only [go_sem, logD_eq, logC_eq, he])); repeat' first | with_reducible exact True.intro | with_reducible refine And.intro ?_ ?_ | with_reducible intro _ | (((with_reducible refine isCall ?_); first | refine call_b (c1) rfl ?_ ?_ | refine call_d (c1) rfl ?_ | refine call_sb (c1) rfl ?_ ?_ | refine call_s (c1) rfl rfl ?_) <;> try (simp -implicitDefEqProofs only [go_sem, logD_eq, logC_eq, he])) | (((with_reducible refine vc_b ?_ ?_) <;> intro _) <;> try (simp -implicitDefEqProofs only [go_sem, logD_eq, logC_eq, he])) | simp (disch := omega) only [wrapI, wrapU, shl1, shl1', shl1'', shrN, shrN', and_one] | ((with_reducible refine isEx ?_); refine ⟨_, rfl, ?_, ?_⟩)
    all_goals first | omega | rfl | (simp; done) | skip
end Go.Pw
end
section
open Go Go.Pw Go.Proofs
namespace Go.Pw
set_option linter.unusedSimpArgs false
set_option linter.unusedVariables false
set_option maxRecDepth 100000
set_option maxHeartbeats 3200000
def repN (rs : List GRec) (home : List Int) : Nat → List Int
  | 0 => home
  | i + 1 => (repN rs home i).set (rs[i]?.getD default).blk.toNat (rs[i]?.getD default).val
theorem repN_len (rs : List GRec) (home : List Int) : ∀ i, (repN rs home i).length = home.length
  | 0 => rfl
  | i + 1 => by rw [repN, List.length_set, repN_len rs home i]
def okHome (l : GLog) (home : List Int) : Bool := decide ((home.length : Int) = l.blocks) && home.all fun n => inZ n 0 999
/-- Replay. -/
def GLog.repL (l : GLog) (home : List Int) : List Int := repN l.kept home l.kept.length
def GLog.replayE (l : GLog) (home : List Int) : Int := if l.openE ≠ 0 then l.openE else if okHome l home then 0 else 1
theorem any_notZ {α : Type} (xs : List α) (p : α → Bool) : xs.any (fun x => !p x) = !xs.all p := by
  induction xs with
  | nil => rfl
  | cons x xs ih => simp only [List.any_cons, List.all_cons, ih, Bool.not_and]
/-- A kept record is as it must be. -/
theorem kept_good {l : GLog} (g : l.Good) (hf : l.full = true) {i : Nat} (hi : i < l.many) : ∃ r, l.kept[i]?.getD default = r ∧ r.bad = false ∧ r.num = l.newest.tail + i ∧ (0 ≤ r.blk ∧ r.blk ≤ l.blocks - 1) ∧ (0 ≤ r.val ∧ r.val ≤ 999) := by
  obtain ⟨n1, n2, n3⟩ := newest_good g
  have m1 := g.m1
  have hk : l.kept[i]?.getD default = l.at' (l.newest.tail + (i : Int)) := by
    unfold GLog.kept GLog.keptN
    rw [List.getElem?_map, List.getElem?_eq_getElem (by simpa using hi)]; simp
  refine ⟨_, hk, ?_⟩
  have hq : (!(l.at' (l.newest.tail + i)).bad && decide ((l.at' (l.newest.tail + i)).num = l.newest.tail + i)) = true := by
    cases hq : (!(l.at' (l.newest.tail + i)).bad && decide ((l.at' (l.newest.tail + i)).num = l.newest.tail + i)) with
    | true => rfl
    | false => unfold GLog.full at hf; rw [whole_bad hi hq] at hf; cases hf
  simp only [Bool.and_eq_true, decide_eq_true_eq, Bool.not_eq_true'] at hq
  have t1 := Int.tmod_nonneg (l.slots.length : Int) (show 0 ≤ l.newest.tail + i by omega)
  have t2 := Int.tmod_lt_of_pos (l.newest.tail + i) (b := (l.slots.length : Int)) (by omega)
  unfold GLog.at' at hq ⊢
  have := g.s ((l.newest.tail + (i : Int)).tmod l.slots.length).toNat (by omega) hq.1 (by omega)
  exact ⟨hq.1, hq.2, this.2.2.1, this.2.2.2.1⟩
theorem kept_len (l : GLog) : l.kept.length = l.many := by unfold GLog.kept; exact keptN_len _ _ _
theorem many_bound {l : GLog} (g : l.Good) : l.many ≤ 1001 := by
  obtain ⟨n1, n2, n3⟩ := newest_good g
  unfold GLog.many; omega
attribute [local congr] cg_pw cg_seqI cg_seqE cg_stepI cg_ev cg_evBin cg_condB cg_condV cg_thenQ cg_blockQ cg_onSome cg_onCells cg_onRow cg_onMap cg_onOpt cg_ghosts cg_ghost cg_evCall cg_part cg_rng cg_guardV cg_frzV cg_frpV cg_ownV cg_owcV cg_occV cg_occX cg_resK cg_res1 cg_yldP cg_rndE cg_onlyN cg_onHist
attribute [local irreducible] IntKind.wrap bitsOp Option.getD and or

theorem J_IndexFunc_ret (nl : Bool) (xs : List Int) (f : FuncId) (cs : List D) (p : Int → Bool) (hb : hasBody E0.P f = true) (hcs : listM AV.toD1 (cs.map .d) = some cs) (h : ∀ x, x ∈ xs → Ret E0 f (.int .i64 x :: cs) (.bool (p x))) :
    Ret E0 F_slices_IndexFunc_int_int [.list nl (ints xs), .fn f cs] (.int .i64 (match xs.findIdx? p with | some i => i | none => -1)) := by
  refine ret_of_pw dec_slices_IndexFunc_int_int mixed (by simp) fun hwf => ?_
  simp only [wf_int, wf_bool, wf_ints, wf_list, wf_agg, wf_ptr, wf_fn, wf_tup, wf_all_cons, wf_all_nil, wf_all_map, inK_i64, maxLen_eq, List.length_map, ints_len, true_and, and_true] at hwf
  rw [enter_eq]; unfold pc_slices_IndexFunc_int_int
  simp -implicitDefEqProofs only [go_sem]
  refine pw_loopS (α := Int) (l0 := ?l1) (m0 := ?m1) (fun x => [(8, .d (.int .i64 x))]) (fun x => []) (fun x => 0 ≤ x ∧ x ≤ xs.length ∧ ∀ (j : Nat) (hj : j < xs.length), (j : Int) < x → p xs[j] = false) (fun x => (xs.length - x).toNat) ?a1_0 ?h01 ?he1 ?he21 ?hI1 ?step1
  case h01 => (simp -implicitDefEqProofs only [go_sem]; rfl)
  case he1 => rfl
  case he21 => rfl
  case' step1 => (rintro i hI; try dsimp only at hI)
  case' hI1 => try dsimp only
  · simp
    omega
  · (try (simp -implicitDefEqProofs only [go_sem])); repeat' first | with_reducible exact True.intro | with_reducible refine And.intro ?_ ?_ | with_reducible intro _ | (((with_reducible refine vc_b ?_ ?_) <;> intro _) <;> try (simp -implicitDefEqProofs only [go_sem])) | simp (disch := omega) only [wrapI, wrapU, shl1, shl1', shl1'', shrN, shrN', and_one] | ((with_reducible refine isEx ?_); refine ⟨_, rfl, ?_, ?_⟩)
    all_goals first | omega | (simp; done) | (simp; omega) | skip
    · have hx : xs[i.toNat]?.getD 0 = xs[i.toNat]'(by omega) := by rw [List.getElem?_eq_getElem (by omega), Option.getD_some]
      rw [hx]
      refine call_b (h _ (List.getElem_mem _)) (argsD0_cons rfl hcs) (fun hp => ?_) (fun hp => ?_)
      · simp -implicitDefEqProofs only [go_sem]
        have : xs.findIdx? p = some i.toNat := by rw [List.findIdx?_eq_some_iff_getElem]; exact ⟨by omega, hp, fun j hj => by simp [hI.2.2 j (by omega) (by omega)]⟩
        rw [this]; simp; omega
      · (try (simp -implicitDefEqProofs only [go_sem])); repeat' first | with_reducible exact True.intro | with_reducible refine And.intro ?_ ?_ | with_reducible intro _ | (((with_reducible refine vc_b ?_ ?_) <;> intro _) <;> try (simp -implicitDefEqProofs only [go_sem])) | simp (disch := omega) only [wrapI, wrapU, shl1, shl1', shl1'', shrN, shrN', and_one] | ((with_reducible refine isEx ?_); refine ⟨_, rfl, ?_, ?_⟩)
        all_goals first | omega | (simp; done) | (simp; omega) | skip
        rename_i j hj hlt
        by_cases hjk : j = i.toNat
        · subst hjk; exact hp
        · exact hI.2.2 j hj (by omega)
    · have : xs.findIdx? p = none := by
        rw [List.findIdx?_eq_none_iff]; intro x hx; obtain ⟨j, hj, rfl⟩ := List.getElem_of_mem hx; exact hI.2.2 j hj (by omega)
      rw [this]

theorem J_ContainsFunc_ret (nl : Bool) (xs : List Int) (f : FuncId) (cs : List D) (p : Int → Bool) (hb : hasBody E0.P f = true) (hcs : listM AV.toD1 (cs.map .d) = some cs) (h : ∀ x, x ∈ xs → Ret E0 f (.int .i64 x :: cs) (.bool (p x))) :
    Ret E0 F_slices_ContainsFunc_int_int [.list nl (ints xs), .fn f cs] (.bool (xs.any p)) := by
  refine ret_of_pw dec_slices_ContainsFunc_int_int mixed (by simp) fun hwf => ?_
  rw [enter_eq]; unfold pc_slices_ContainsFunc_int_int
  simp -implicitDefEqProofs only [go_sem]
  refine call_d (J_IndexFunc_ret nl xs f cs p hb hcs h) rfl ?_
  simp -implicitDefEqProofs only [go_sem]
  have key : (0 : Int) ≤ (match xs.findIdx? p with | some i => (i : Int) | none => -1) ↔ xs.any p = true := by
    cases hf : xs.findIdx? p with
    | none => rw [List.findIdx?_eq_none_iff] at hf; simp; intro x hx; simp [hf x hx]
    | some i => rw [List.findIdx?_eq_some_iff_getElem] at hf; simp; exact ⟨_, List.getElem_mem hf.1, hf.2.1⟩
  grind

theorem journal_Replay_1_ret (n : Int) : Ret E0 F_journal_Replay_1 [.int .i64 n] (.bool (!inZ n 0 999)) := by
  refine ret_of_pw dec_journal_Replay_1 mixed (by simp) fun hwf => ?_
  have c1 := journal_to_ret n 999
  rw [enter_eq]; unfold pc_journal_Replay_1
  cases h : inZ n 0 999 with
  | true => rw [h] at c1; (try (simp -implicitDefEqProofs only [go_sem])); repeat' first | with_reducible exact True.intro | with_reducible refine And.intro ?_ ?_ | with_reducible intro _ | (((with_reducible refine isCall ?_); first | refine call_b (c1) rfl ?_ ?_ | refine call_d (c1) rfl ?_ | refine call_sb (c1) rfl ?_ ?_ | refine call_s (c1) rfl rfl ?_) <;> try (simp -implicitDefEqProofs only [go_sem])) | (((with_reducible refine vc_b ?_ ?_) <;> intro _) <;> try (simp -implicitDefEqProofs only [go_sem])) | simp (disch := omega) only [wrapI, wrapU, shl1, shl1', shl1'', shrN, shrN', and_one] 
  | false => rw [h] at c1; (try (simp -implicitDefEqProofs only [go_sem])); repeat' first | with_reducible exact True.intro | with_reducible refine And.intro ?_ ?_ | with_reducible intro _ | (((with_reducible refine isCall ?_); first | refine call_b (c1) rfl ?_ ?_ | refine call_d (c1) rfl ?_ | refine call_sb (c1) rfl ?_ ?_ | refine call_s (c1) rfl rfl ?_) <;> try (simp -implicitDefEqProofs only [go_sem])) | (((with_reducible refine vc_b ?_ ?_) <;> intro _) <;> try (simp -implicitDefEqProofs only [go_sem])) | simp (disch := omega) only [wrapI, wrapU, shl1, shl1', shl1'', shrN, shrN', and_one] 

theorem Clone_int_own (xs : List Int) (hl : xs.length ≤ 1000) (hne : 0 < xs.length) : CallM E0 F_slices_Clone_int_int [] [.d (.list false (ints xs))] [(7, 1, .row 3 1 false (ints xs))] (.own 7 1) := by
  refine callM_of_pw dec_slices_Clone_int_int mixed (by simp) (by simp [okV0, nodupB, lim]) (by simp [hasN]) fun hwf hwo => ?_
  rw [enterM_eq]; unfold pc_slices_Clone_int_int
  have hn : ¬ xs = [] := by intro h; rw [h] at hne; simp at hne
  (try (simp -implicitDefEqProofs only [go_sem, hn])); repeat' first | with_reducible exact True.intro | with_reducible refine And.intro ?_ ?_ | with_reducible intro _ | (((with_reducible refine vc_b ?_ ?_) <;> intro _) <;> try (simp -implicitDefEqProofs only [go_sem, hn])) | simp (disch := omega) only [wrapI, wrapU, shl1, shl1', shl1'', shrN, shrN', and_one] 
  all_goals first | omega | rfl

theorem replayE_open {l : GLog} {home : List Int} (h : l.openE ≠ 0) : l.replayE home = l.openE := by unfold GLog.replayE; rw [if_pos h]
theorem replayE_home {l : GLog} {home : List Int} (h : l.openE = 0) : l.replayE home = if okHome l home then 0 else 1 := by unfold GLog.replayE; rw [if_neg (by simpa using h)]
theorem journal_Replay_ret (l : GLog) (hs : l.sn = true → l.slots = []) (hz : l.disk.zn = true → l.disk.zones = []) (nl : Bool) (home : List Int) (hh : nl = true → home = []) :
    Ret E0 F_journal_Replay [logD l, .list nl (ints home)] (.tup [if l.replayE home = 0 then .list false (ints (l.repL home)) else .list true [], .int .i64 (l.replayE home)]) := by
  refine ret_of_pw dec_journal_Replay mixed (by simp) fun hwf => ?_
  have c1 := journal_open_ret l hs hz
  have hb42 : hasBody E0.P F_journal_Replay_1 = true := by kernel_rfl
  unfold openR at c1
  by_cases he : l.openE = 0
  · obtain ⟨h1, h2⟩ := openE_0 he
    have g := check_good h1
    have b1 := g.b1; have b2 := g.b2
    rw [if_pos he, he] at c1
    have c2 := J_ContainsFunc_ret nl home F_journal_Replay_1 [] (fun n => !inZ n 0 999) hb42 rfl fun x _ => journal_Replay_1_ret x
    rw [any_notZ] at c2
    rw [replayE_home he]
    unfold okHome
    by_cases hlen : (home.length : Int) = l.blocks
    · rw [decide_eq_true hlen]
      cases ha : home.all fun n => inZ n 0 999 with
      | false =>
        rw [ha] at c2
        simp only [Bool.and_false, Bool.false_eq_true, if_false]
        rw [if_neg (by omega), enter_eq]; unfold pc_journal_Replay
        (try (simp -implicitDefEqProofs only [go_sem, logD_eq, logC_eq, GLog.cp, hlen, hb42])); repeat' first | with_reducible exact True.intro | with_reducible refine And.intro ?_ ?_ | with_reducible intro _ | (((with_reducible refine isCall ?_); first | refine call_b (c1) rfl ?_ ?_ | refine call_d (c1) rfl ?_ | refine call_sb (c1) rfl ?_ ?_ | refine call_s (c1) rfl rfl ?_ | refine call_b (c2) rfl ?_ ?_ | refine call_d (c2) rfl ?_ | refine call_sb (c2) rfl ?_ ?_ | refine call_s (c2) rfl rfl ?_) <;> try (simp -implicitDefEqProofs only [go_sem, logD_eq, logC_eq, GLog.cp, hlen, hb42])) | (((with_reducible refine vc_b ?_ ?_) <;> intro _) <;> try (simp -implicitDefEqProofs only [go_sem, logD_eq, logC_eq, GLog.cp, hlen, hb42])) | simp (disch := omega) only [wrapI, wrapU, shl1, shl1', shl1'', shrN, shrN', and_one] | ((with_reducible refine isEx2 ?_); refine ⟨(_, _), rfl, ?_, ?_⟩)
        all_goals first | omega | rfl | (simp; done)
      | true =>
        rw [ha] at c2
        simp only [Bool.and_true, if_true]
        have hnl : nl = false := by
          cases nl with
          | false => rfl
          | true => have := hh rfl; rw [this] at hlen; simp at hlen; omega
        subst hnl
        have c3 := Clone_int_own home (by omega) (by omega)
        have c4 := journal_kept_ret l.cp (cp_good g)
        rw [cp_full, cp_keptA, h2, keptA_full h2] at c4
        have hkl := kept_len l
        have hmb := many_bound g
        have hkg := fun i hi => kept_good g h2 (i := i) hi
        unfold GLog.repL
        generalize l.kept = ks at *
        rw [enter_eq]; unfold pc_journal_Replay
        (try (simp -implicitDefEqProofs only [go_sem, logD_eq, logC_eq, GLog.cp, eq_true hlen, hb42])); repeat' first | with_reducible exact True.intro | with_reducible refine And.intro ?_ ?_ | with_reducible intro _ | (((with_reducible refine isCall ?_); first | refine call_b (c1) rfl ?_ ?_ | refine call_d (c1) rfl ?_ | refine call_sb (c1) rfl ?_ ?_ | refine call_s (c1) rfl rfl ?_ | refine call_b (c2) rfl ?_ ?_ | refine call_d (c2) rfl ?_ | refine call_sb (c2) rfl ?_ ?_ | refine call_s (c2) rfl rfl ?_ | (refine call_m ([]) ([((7, 1), (34, 0))]) (c3) (by repeat' first | exact True.intro | exact rfl | refine And.intro ?_ ?_) (by simp [Handed, Ren.get, AObj.ren, AV.ren, AV.ren.renL, View.get, lookO, callF, newS, View.reach, AV.sites, AV.sites.sitesL, View.osites]) (by simp [namesOk, hasN, nodupB, Ren.get, newS, lim, upd]) (by rfl) (by simp only [backC, Ren.get, AObj.ren, AV.ren, AV.ren.renL, and_self, and_true, true_and, if_true, reduceIte]; rfl) ?_) | refine call_b (c4) rfl ?_ ?_ | refine call_d (c4) rfl ?_ | refine call_sb (c4) rfl ?_ ?_ | refine call_s (c4) rfl rfl ?_) <;> try (simp -implicitDefEqProofs only [go_sem, logD_eq, logC_eq, GLog.cp, eq_true hlen, hb42])) | (((with_reducible refine vc_b ?_ ?_) <;> intro _) <;> try (simp -implicitDefEqProofs only [go_sem, logD_eq, logC_eq, GLog.cp, eq_true hlen, hb42])) | simp (disch := omega) only [wrapI, wrapU, shl1, shl1', shl1'', shrN, shrN', and_one] | ((with_reducible refine isEx2 ?_); refine ⟨(_, _), rfl, ?_, ?_⟩)
        all_goals (try omega)
        refine pw_loopS (α := Int × (List Int)) (l0 := ?l2) (m0 := ?m2) (fun x => [(42, .d (.int .i64 x.1))]) (fun x => [(34, .row 3 1 false (ints x.2))]) (fun x => (0 ≤ x.1 ∧ x.1 ≤ ks.length) ∧ x.2 = repN ks home x.1.toNat) (fun x => (ks.length - x.1).toNat) (?a2_0, ?a2_1) ?h02 ?he2 ?he22 ?hI2 ?step2
        case h02 => (simp -implicitDefEqProofs only [go_sem, recsD_len]; rfl)
        case he2 => rfl
        case he22 => rfl
        case' step2 => (rintro ⟨i, cur⟩ hI; try dsimp only at hI)
        case' hI2 => try dsimp only
        · exact ⟨⟨by omega, by omega⟩, rfl⟩
        · obtain ⟨⟨q1, q2⟩, q3⟩ := hI
          have hcl := repN_len ks home i.toNat
          rw [← q3] at hcl
          by_cases hi : i < ks.length
          · obtain ⟨r, hr, r1, r2, r3, r4⟩ := hkg i.toNat (by omega)
            have w1 : IntKind.i64.wrap (i + 1) = i + 1 := wrapI _ (by omega)
            have hnx : repN ks home (i + 1).toNat = cur.set r.blk.toNat r.val := by rw [show (i + 1).toNat = i.toNat + 1 by omega, repN, ← q3, hr]
            have hb1 : r.blk < cur.length := by omega
            have hb0 := r3.1
            (try (simp -implicitDefEqProofs only [go_sem, recsD_len, onSome_recs, hr, recD_eq, recC_eq, recsD_unif, w1, hi, q1, hb1, hb0])); repeat' first | with_reducible exact True.intro | with_reducible refine And.intro ?_ ?_ | with_reducible intro _ | (((with_reducible refine vc_b ?_ ?_) <;> intro _) <;> try (simp -implicitDefEqProofs only [go_sem, recsD_len, onSome_recs, hr, recD_eq, recC_eq, recsD_unif, w1, hi, q1, hb1, hb0])) | simp (disch := omega) only [wrapI, wrapU, shl1, shl1', shl1'', shrN, shrN', and_one] | ((with_reducible refine isEx2 ?_); refine ⟨(_, _), rfl, ?_, ?_⟩)
            all_goals first | omega | exact hnx.symm | exact .inl True.intro
          · have hie : i.toNat = ks.length := by omega
            rw [hie] at q3
            rw [← q3]
            (try (simp -implicitDefEqProofs only [go_sem, recsD_len, hi])); repeat' first | with_reducible exact True.intro | with_reducible refine And.intro ?_ ?_ | with_reducible intro _ | (((with_reducible refine vc_b ?_ ?_) <;> intro _) <;> try (simp -implicitDefEqProofs only [go_sem, recsD_len, hi])) | simp (disch := omega) only [wrapI, wrapU, shl1, shl1', shl1'', shrN, shrN', and_one] | ((with_reducible refine isEx2 ?_); refine ⟨(_, _), rfl, ?_, ?_⟩)
            all_goals first | omega | rfl | (simp; done)
    · rw [decide_eq_false hlen, Bool.false_and]
      simp only [Bool.false_eq_true, if_false]
      rw [if_neg (by omega), enter_eq]; unfold pc_journal_Replay
      (try (simp -implicitDefEqProofs only [go_sem, logD_eq, logC_eq, GLog.cp, hlen])); repeat' first | with_reducible exact True.intro | with_reducible refine And.intro ?_ ?_ | with_reducible intro _ | (((with_reducible refine isCall ?_); first | refine call_b (c1) rfl ?_ ?_ | refine call_d (c1) rfl ?_ | refine call_sb (c1) rfl ?_ ?_ | refine call_s (c1) rfl rfl ?_) <;> try (simp -implicitDefEqProofs only [go_sem, logD_eq, logC_eq, GLog.cp, hlen])) | (((with_reducible refine vc_b ?_ ?_) <;> intro _) <;> try (simp -implicitDefEqProofs only [go_sem, logD_eq, logC_eq, GLog.cp, hlen])) | simp (disch := omega) only [wrapI, wrapU, shl1, shl1', shl1'', shrN, shrN', and_one] | ((with_reducible refine isEx2 ?_); refine ⟨(_, _), rfl, ?_, ?_⟩)
      all_goals first | omega | rfl | (simp; done)
  · rw [if_neg he] at c1
    rw [replayE_open he, if_neg he, enter_eq]; unfold pc_journal_Replay
    (try (simp -implicitDefEqProofs only [go_sem, logD_eq, logC_eq, he])); repeat' first | with_reducible exact True.intro | with_reducible refine And.intro ?_ ?_ | with_reducible intro _ | (((with_reducible refine isCall ?_); first | refine call_b (c1) rfl ?_ ?_ | refine call_d (c1) rfl ?_ | refine call_sb (c1) rfl ?_ ?_ | refine call_s (c1) rfl rfl ?_) <;> try (simp -implicitDefEqProofs only [go_sem, logD_eq, logC_eq, he])) | (((with_reducible refine vc_b ?_ ?_) <;> intro _) <;> try (simp -implicitDefEqProofs only [go_sem, logD_eq, logC_eq, he])) | simp (disch := omega) only [wrapI, wrapU, shl1, shl1', shl1'', shrN, shrN', and_one] | ((with_reducible refine isEx2 ?_); refine ⟨(_, _), rfl, ?_, ?_⟩)
    all_goals first | omega | rfl | (simp; done)
end Go.Pw
end
