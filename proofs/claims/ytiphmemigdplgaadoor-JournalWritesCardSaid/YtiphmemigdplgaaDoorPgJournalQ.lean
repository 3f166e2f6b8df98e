/- A part of the proof. -/
import Derived.Test.YtiphmemigdplgaaDoorJournalI
import Derived.Test.YtiphmemigdplgaaDoorJournalSpec2
set_option linter.all false
section
open Go Go.Pw Go.Proofs
namespace Go.Pw
set_option linter.unusedSimpArgs false
set_option linter.unusedVariables false
set_option maxRecDepth 100000
set_option maxHeartbeats 3200000
/-- A log of our own: a box that holds a row of our own. -/
def logV (l : GLog) : List (Nat × Nat × AObj) :=
  [(900000, 0, .cells [.d (.int .i64 l.disk.heads), .d (.int .i64 l.disk.turn), .d (.list l.disk.zn (zpsD l.disk.zones)), .d (.int .i64 l.disk.hskew), .d (.int .i64 l.disk.cskew), .d (.int .i64 l.disk.hlo), .d (.int .i64 l.disk.hhi), .d (.int .i64 l.disk.clo), .d (.int .i64 l.disk.chi), .d (.int .i64 l.blocks), .d (.int .i64 l.from'), .own 901000 0]),
   (901000, 0, .row 40 5 false (recsD l.slots))]
def pd_journal_log_newest : PC :=
  .seq (.reg [] (
    ⟨some 2, none, .zero [.int .i64 0, .int .i64 0, .int .i64 0, .int .i64 0, .bool false], []⟩ ::
    []) [0, 2])
  (.seq (.reg [] (
    ⟨some 6, none, .load true 5, [.k (.d (.ptr [.int .i64 (-1), .int .i64 0, .int .i64 0, .int .i64 0, .bool false]))]⟩ ::
    ⟨some 3, none, .zero [.int .i64 0, .int .i64 0, .int .i64 0, .int .i64 0, .bool false], []⟩ ::
    ⟨none, none, .store 5, [.t 3, .t 6]⟩ ::
    []) [0, 2, 3])
  (.seq (.seq (.reg [] (
    ⟨some 7, none, .mov, [.t 0]⟩ ::
    ⟨some 8, none, .nilck, [.t 7]⟩ ::
    ⟨some 9, none, .faddr 0, [.t 8]⟩ ::
    ⟨some 10, none, .faddr 11, [.t 9]⟩ ::
    ⟨some 11, none, .load false 1, [.t 10]⟩ ::
    ⟨some 12, none, .len false, [.t 11]⟩ ::
    ⟨some 13, none, .mov, [.k (.d (.int .i64 0))]⟩ ::
    []) [2, 3, 11, 12, 13])
  (.block 0
    (.loop [] [2, 3, 11, 12, 13] [2, 3, 900000, 901000]
      (.seq (.reg [] (
        ⟨some 14, none, .bin .lss, [.t 13, .t 12]⟩ ::
        []) [2, 3, 11, 12, 13, 14])
      (.seq (.cond (.t 14)
        (.skip)
        (.exit 0))
      (.seq (.block 1
        (.seq (.reg [] (
          ⟨some 15, none, .iaddrS 5, [.t 11, .t 13]⟩ ::
          ⟨some 16, none, .load true 5, [.t 15]⟩ ::
          ⟨some 5, none, .zero [.int .i64 0, .int .i64 0, .int .i64 0, .int .i64 0, .bool false], []⟩ ::
          ⟨none, none, .store 5, [.t 5, .t 16]⟩ ::
          []) [2, 3, 5, 11, 12, 13])
        (.seq (.reg [] (
          ⟨some 17, none, .faddr 4, [.t 5]⟩ ::
          ⟨some 18, none, .load false 1, [.t 17]⟩ ::
          ⟨some 19, none, .un .not, [.t 18]⟩ ::
          ⟨some 20, none, .mov, [.t 19]⟩ ::
          ⟨some 21, some (20, true), .faddr 0, [.t 5]⟩ ::
          ⟨some 22, some (20, true), .load false 1, [.t 21]⟩ ::
          ⟨some 23, some (20, true), .faddr 0, [.t 3]⟩ ::
          ⟨some 24, some (20, true), .load false 1, [.t 23]⟩ ::
          ⟨some 25, some (20, true), .bin .gtr, [.t 22, .t 24]⟩ ::
          ⟨some 26, none, .pick, [.t 20, .t 25, .k (.d (.bool false))]⟩ ::
          []) [2, 3, 5, 11, 12, 13, 26])
        (.cond (.t 26)
          (.reg [] (
            ⟨some 27, none, .load true 5, [.t 5]⟩ ::
            ⟨none, none, .store 5, [.t 3, .t 27]⟩ ::
            []) [2, 3, 11, 12, 13])
          (.skip)))))
      (.reg [] (
        ⟨some 28, none, .bin .add, [.t 13, .k (.d (.int .i64 1))]⟩ ::
        ⟨some 13, none, .mov, [.t 28]⟩ ::
        []) [2, 3, 11, 12, 13])))))))
  (.seq (.reg [] (
    ⟨some 29, none, .load true 5, [.t 3]⟩ ::
    ⟨none, none, .store 5, [.t 2, .t 29]⟩ ::
    []) [2])
  (.ret))))
theorem ded_journal_log_newest : Fun E0 F_journal_log_newest pd_journal_log_newest [.c 2 40 true 5] 30 := fun_of_dec (fl := []) (by kernel_rfl)
attribute [local congr] cg_pw cg_seqI cg_seqE cg_stepI cg_ev cg_evBin cg_condB cg_condV cg_thenQ cg_blockQ cg_onSome cg_onCells cg_onRow cg_onMap cg_onOpt cg_ghosts cg_ghost cg_evCall cg_part cg_rng cg_guardV cg_frzV cg_frpV cg_ownV cg_owcV cg_occV cg_occX cg_resK cg_res1 cg_yldP cg_rndE cg_onlyN cg_onHist
attribute [local irreducible] IntKind.wrap bitsOp Option.getD and or
theorem own_newest (l : GLog) (hl : l.slots.length ≤ 1000) : CallM E0 F_journal_log_newest (logV l) [.ptr 900000 0 0] (logV l) (.d (recD l.newest)) := by
  unfold logV
  refine callM_of_pw ded_journal_log_newest mixed (by simp) (by simp [okV0, nodupB, lim, AObj.isHist]) (by simp [hasN]) fun hwf hwo => ?_
  rw [enterM_eq]; unfold pd_journal_log_newest GLog.newest
  (try (simp -implicitDefEqProofs only [go_sem])); repeat' first | with_reducible exact True.intro | with_reducible refine And.intro ?_ ?_ | with_reducible intro _ | (((with_reducible refine vc_b ?_ ?_) <;> intro _) <;> try (simp -implicitDefEqProofs only [go_sem])) | simp (disch := omega) only [wrapI, wrapU, shl1, shl1', shl1'', shrN, shrN', and_one] | ((with_reducible refine isEx6 ?_); refine ⟨(_, _, _, _, _, _), rfl, ?_, ?_⟩)
  all_goals first | omega | (simp; done) | (simp; omega) | skip
  refine pw_loopS (α := Int × Int × Int × Int × Int × Bool) (l0 := ?l1) (m0 := ?m1) (fun x => [(13, .d (.int .i64 x.1))]) (fun x => [(3, .cells [.d (.int .i64 x.2.1), .d (.int .i64 x.2.2.1), .d (.int .i64 x.2.2.2.1), .d (.int .i64 x.2.2.2.2.1), .d (.bool x.2.2.2.2.2)])]) (fun x => (0 ≤ x.1 ∧ x.1 ≤ l.slots.length) ∧ newN l.slots x.1.toNat = ⟨x.2.1, x.2.2.1, x.2.2.2.1, x.2.2.2.2.1, x.2.2.2.2.2⟩) (fun x => (l.slots.length - x.1).toNat) (?a1_0, ?a1_1, ?a1_2, ?a1_3, ?a1_4, ?a1_5) ?h01 ?he1 ?he21 ?hI1 ?step1
  case h01 => (simp -implicitDefEqProofs only [go_sem, recsD_len]; rfl)
  case he1 => rfl
  case he21 => rfl
  case' step1 => (rintro ⟨i, a, b, c, d, e⟩ hI; try dsimp only at hI)
  case' hI1 => try dsimp only
  · exact ⟨⟨by omega, by omega⟩, rfl⟩
  · obtain ⟨⟨h1, h2⟩, h3⟩ := hI
    by_cases hi : i < l.slots.length
    · have w1 : IntKind.i64.wrap (i + 1) = i + 1 := wrapI _ (by omega)
      have hn := newN_next l.slots i h1
      rw [h3] at hn
      obtain ⟨r, hr⟩ : ∃ r, l.slots[i.toNat]?.getD default = r := ⟨_, rfl⟩
      rw [hr] at hn
      cases hb : r.bad with
      | true =>
        rw [hb] at hn
        simp only [Bool.not_true, Bool.false_and, Bool.false_eq_true, if_false] at hn
        (try (simp -implicitDefEqProofs only [go_sem, recsD_len, onSome_recs, hr, recD_eq, recC_eq, recsD_unif, hb, w1])); repeat' first | with_reducible exact True.intro | with_reducible refine And.intro ?_ ?_ | with_reducible intro _ | (((with_reducible refine vc_b ?_ ?_) <;> intro _) <;> try (simp -implicitDefEqProofs only [go_sem, recsD_len, onSome_recs, hr, recD_eq, recC_eq, recsD_unif, hb, w1])) | simp (disch := omega) only [wrapI, wrapU, shl1, shl1', shl1'', shrN, shrN', and_one] | ((with_reducible refine isEx6 ?_); refine ⟨(_, _, _, _, _, _), rfl, ?_, ?_⟩)
        all_goals first | omega | exact hn | skip
      | false =>
        rw [hb] at hn
        by_cases hlt : a < r.num
        · simp only [Bool.not_false, Bool.true_and, decide_eq_true hlt, if_true] at hn
          (try (simp -implicitDefEqProofs only [go_sem, recsD_len, onSome_recs, hr, recD_eq, recC_eq, recsD_unif, hb, w1, hlt])); repeat' first | with_reducible exact True.intro | with_reducible refine And.intro ?_ ?_ | with_reducible intro _ | (((with_reducible refine vc_b ?_ ?_) <;> intro _) <;> try (simp -implicitDefEqProofs only [go_sem, recsD_len, onSome_recs, hr, recD_eq, recC_eq, recsD_unif, hb, w1, hlt])) | simp (disch := omega) only [wrapI, wrapU, shl1, shl1', shl1'', shrN, shrN', and_one] | ((with_reducible refine isEx6 ?_); refine ⟨(_, _, _, _, _, _), rfl, ?_, ?_⟩)
          all_goals first | omega | (rw [hn, ← hb]) | skip
        · simp only [Bool.not_false, Bool.true_and, decide_eq_false hlt, Bool.false_eq_true, if_false] at hn
          (try (simp -implicitDefEqProofs only [go_sem, recsD_len, onSome_recs, hr, recD_eq, recC_eq, recsD_unif, hb, w1, hlt])); repeat' first | with_reducible exact True.intro | with_reducible refine And.intro ?_ ?_ | with_reducible intro _ | (((with_reducible refine vc_b ?_ ?_) <;> intro _) <;> try (simp -implicitDefEqProofs only [go_sem, recsD_len, onSome_recs, hr, recD_eq, recC_eq, recsD_unif, hb, w1, hlt])) | simp (disch := omega) only [wrapI, wrapU, shl1, shl1', shl1'', shrN, shrN', and_one] | ((with_reducible refine isEx6 ?_); refine ⟨(_, _, _, _, _, _), rfl, ?_, ?_⟩)
          all_goals first | omega | exact hn | skip
    · have hie : i.toNat = l.slots.length := by omega
      rw [hie] at h3
      rw [h3]
      (try (simp -implicitDefEqProofs only [go_sem, recsD_len, hi, recD_eq, recC_eq])); repeat' first | with_reducible exact True.intro | with_reducible refine And.intro ?_ ?_ | with_reducible intro _ | (((with_reducible refine vc_b ?_ ?_) <;> intro _) <;> try (simp -implicitDefEqProofs only [go_sem, recsD_len, hi, recD_eq, recC_eq])) | simp (disch := omega) only [wrapI, wrapU, shl1, shl1', shl1'', shrN, shrN', and_one] | ((with_reducible refine isEx6 ?_); refine ⟨(_, _, _, _, _, _), rfl, ?_, ?_⟩)
      all_goals first | omega | (simp; done) | (simp; omega) | skip

theorem own_slot (l : GLog) (n : Int) (hl : 1 ≤ l.slots.length) (h0 : 0 ≤ n) : CallM E0 F_journal_log_slot (logV l) [.ptr 900000 0 0, .d (.int .i64 n)] (logV l) (.rptr 901000 0 5 (n.tmod l.slots.length).toNat 0) := by
  unfold logV at *
  refine callM_of_pw dec_journal_log_slot mixed (by simp) (by simp [okV0, nodupB, lim, AObj.isHist]) (by simp [hasN]) fun hwf hwo => ?_
  rw [enterM_eq]; unfold pc_journal_log_slot
  have e5 : ¬ (l.slots.length : Int) = 0 := by omega
  have h1 := Int.tmod_nonneg (l.slots.length : Int) h0
  have h2 := Int.tmod_lt_of_pos n (b := (l.slots.length : Int)) (by omega)
  (try (simp -implicitDefEqProofs only [go_sem, recsD_len, recsD_unif, e5, h1, h2])); repeat' first | with_reducible exact True.intro | with_reducible refine And.intro ?_ ?_ | with_reducible intro _ | (((with_reducible refine vc_b ?_ ?_) <;> intro _) <;> try (simp -implicitDefEqProofs only [go_sem, recsD_len, recsD_unif, e5, h1, h2])) | simp (disch := omega) only [wrapI, wrapU, shl1, shl1', shl1'', shrN, shrN', and_one] 
end Go.Pw
end
section
open Go Go.Pw Go.Proofs
namespace Go.Pw
set_option linter.unusedSimpArgs false
set_option linter.unusedVariables false
set_option maxRecDepth 100000
set_option maxHeartbeats 3200000
theorem recsD_eqnil (l : List GRec) : (recsD l = []) = (l = []) := by cases l <;> simp [recsD]
/-- The same log with slots of its own. -/
def GLog.ns (l : GLog) : GLog := { l with sn := false }
theorem ns_good {l : GLog} (g : l.Good) : l.ns.Good := ⟨g.d, g.b1, g.b2, g.m1, g.m2, g.f1, g.f2, g.s⟩
theorem ns_C (l : GLog) : logC l.ns = [.int .i64 l.disk.heads, .int .i64 l.disk.turn, .list l.disk.zn (zpsD l.disk.zones), .int .i64 l.disk.hskew, .int .i64 l.disk.cskew, .int .i64 l.disk.hlo, .int .i64 l.disk.hhi, .int .i64 l.disk.clo, .int .i64 l.disk.chi, .int .i64 l.blocks, .int .i64 l.from', .list false (recsD l.slots)] := rfl
theorem ns_newest (l : GLog) : Ret E0 F_journal_log_newest [.ptr (logC l.ns)] (recD l.newest) := journal_newest_ret l.ns
theorem ns_limit (l : GLog) (g : l.Good) : Ret E0 F_journal_log_limit [.ptr (logC l.ns)] (.int .i64 (l.newest.tail + l.slots.length)) := journal_limit_ret l.ns (ns_good g)
attribute [local congr] cg_pw cg_seqI cg_seqE cg_stepI cg_ev cg_evBin cg_condB cg_condV cg_thenQ cg_blockQ cg_onSome cg_onCells cg_onRow cg_onMap cg_onOpt cg_ghosts cg_ghost cg_evCall cg_part cg_rng cg_guardV cg_frzV cg_frpV cg_ownV cg_owcV cg_occV cg_occX cg_resK cg_res1 cg_yldP cg_rndE cg_onlyN cg_onHist
attribute [local irreducible] IntKind.wrap bitsOp Option.getD and or

theorem own_kept (l : GLog) (g : l.Good) (hf : l.full = true) : CallM E0 F_journal_log_kept (logV l) [.ptr 900000 0 0] (logV l) (.tup [.d (.list l.kept.isEmpty (recsD l.kept)), .d (.bool true)]) := by
  have cs := fun n h => own_slot l n (by have := g.m1; omega) h
  unfold logV at *
  refine callM_of_pw dec_journal_log_kept mixed (by simp) (by simp [okV0, nodupB, lim, AObj.isHist]) (by simp [hasN]) fun hwf hwo => ?_
  have c1 := ns_newest l
  obtain ⟨n1, n2, n3⟩ := newest_good g
  have m1 := g.m1; have m2 := g.m2
  obtain ⟨⟨na, nb, nc, nd, ne⟩, hR⟩ : ∃ R, l.newest = R := ⟨_, rfl⟩
  have hN : l.newest.num = na := by rw [hR]
  have hT : l.newest.tail = nd := by rw [hR]
  rw [hR, recD_eq, recC_eq, ns_C] at c1
  rw [hN, hT] at n3
  rw [hN] at n2
  rw [enterM_eq]; unfold pc_journal_log_kept
  (try (simp -implicitDefEqProofs only [go_sem])); repeat' first | with_reducible exact True.intro | with_reducible refine And.intro ?_ ?_ | with_reducible intro _ | (((with_reducible refine isCall ?_); first | refine call_s (c1) rfl (by simp [D.flat, D.flat1, D.prim]) ?_) <;> try (simp -implicitDefEqProofs only [go_sem])) | (((with_reducible refine vc_b ?_ ?_) <;> intro _) <;> try (simp -implicitDefEqProofs only [go_sem])) | simp (disch := omega) only [wrapI, wrapU, shl1, shl1', shl1'', shrN, shrN', and_one] | ((with_reducible refine isEx3 ?_); refine ⟨(_, _, _), rfl, ?_, ?_⟩)
  all_goals first | omega | (simp; done) | (simp; omega) | skip
  refine pw_loopS (α := Int × (List GRec) × Bool) (l0 := ?l1) (m0 := ?m1) (fun x => [(5, .d (.int .i64 x.1))]) (fun x => [(33, .row 40 5 x.2.2 (recsD x.2.1))]) (fun x => (nd ≤ x.1 ∧ x.1 ≤ na + 1) ∧ x.2.1 = l.keptN nd (x.1 - nd).toNat ∧ x.2.2 = x.2.1.isEmpty ∧ l.whole nd (x.1 - nd).toNat = true) (fun x => (na + 1 - x.1).toNat) (?a1_0, [], true) ?h01 ?he1 ?he21 ?hI1 ?step1
  case h01 => (simp -implicitDefEqProofs only [go_sem, recsD_len]; rfl)
  case he1 => rfl
  case he21 => rfl
  case' step1 => (rintro ⟨n, out, b⟩ hI; try dsimp only at hI)
  case' hI1 => try dsimp only
  · refine ⟨⟨by omega, by omega⟩, ?_, rfl, ?_⟩
    · rw [Int.sub_self]; rfl
    · rw [Int.sub_self]; rfl
  · obtain ⟨⟨q1, q2⟩, q3, q4, q5⟩ := hI
    by_cases hn : n ≤ na
    · have c2 := cs n (by omega)
      have w1 : IntKind.i64.wrap (n + 1) = n + 1 := wrapI _ (by omega)
      have k1 := whole_next (l := l) q1
      have k2 := keptN_next (l := l) q1
      have hlen := keptN_len l nd (n - nd).toNat
      have hfl := hf
      unfold GLog.full at hfl
      rw [hT] at hfl
      have hat := whole_at hfl (i := (n - nd).toNat) (by unfold GLog.many; omega)
      rw [show nd + ((n - nd).toNat : Int) = n by omega] at hat
      rw [← q3] at hlen k2
      rw [q5] at k1
      have hemp := isEmpty_snocR out
      have t1 := tmod_range (n := n) (m := l.slots.length) (by omega) (by omega)
      obtain ⟨r, hr⟩ : ∃ r, l.at' n = r := ⟨_, rfl⟩
      have hr' : l.slots[(n.tmod l.slots.length).toNat]?.getD default = r := hr
      rw [hr] at k1 k2 hat
      have hb := hat.1
      have hx := hat.2
      rw [hb, decide_eq_true hx] at k1
      have hnx : l.keptN nd (n + 1 - nd).toNat = out ++ [⟨r.num, r.blk, r.val, r.tail, false⟩] := by rw [k2, ← hb]
      have k1' : l.whole nd (n + 1 - nd).toNat = true := by rw [k1]; simp
      obtain ⟨P, hP⟩ : ∃ P, (n.tmod l.slots.length).toNat = P := ⟨_, rfl⟩
      rw [hP] at c2 t1 hr'
      have hPl := t1.1
      (try (simp -implicitDefEqProofs only [go_sem, hn, eq_true hx, recsD_len, onSome_recs, hr', hb, hPl, recD_eq, recC_eq, recsD_unif, recsD_snoc, w1])); repeat' first | with_reducible exact True.intro | with_reducible refine And.intro ?_ ?_ | with_reducible intro _ | (((with_reducible refine isCall ?_); first | (refine call_m ([((900000, 0), (900000, 0)), ((901000, 0), (901000, 0))]) ([((900000, 0), (900000, 0)), ((901000, 0), (901000, 0))]) (c2) (by repeat' first | exact True.intro | exact rfl | refine And.intro ?_ ?_) (by simp [Handed, Ren.get, AObj.ren, AV.ren, AV.ren.renL, View.get, lookO, callF, newS, View.reach, AV.sites, AV.sites.sitesL, View.osites]) (by simp [namesOk, hasN, nodupB, Ren.get, newS, lim, upd]) (by rfl) (by simp only [backC, Ren.get, AObj.ren, AV.ren, AV.ren.renL, and_self, and_true, true_and, if_true, reduceIte]; rfl) ?_)) <;> try (simp -implicitDefEqProofs only [go_sem, hn, eq_true hx, recsD_len, onSome_recs, hr', hb, hPl, recD_eq, recC_eq, recsD_unif, recsD_snoc, w1])) | (((with_reducible refine vc_b ?_ ?_) <;> intro _) <;> try (simp -implicitDefEqProofs only [go_sem, hn, eq_true hx, recsD_len, onSome_recs, hr', hb, hPl, recD_eq, recC_eq, recsD_unif, recsD_snoc, w1])) | simp (disch := omega) only [wrapI, wrapU, shl1, shl1', shl1'', shrN, shrN', and_one] | ((with_reducible refine isEx3 ?_); refine ⟨(_, _, _), rfl, ?_, ?_⟩)
      all_goals first | omega | exact hnx.symm | exact k1' | exact (hemp _).symm | skip
    · have hne : n = na + 1 := by omega
      have hm : (n - nd).toNat = l.many := by unfold GLog.many; omega
      rw [hm] at q3 q5
      have ha : l.kept = out := by unfold GLog.kept; rw [q3, hT]
      rw [ha, ← q4]
      (try (simp -implicitDefEqProofs only [go_sem, hn])); repeat' first | with_reducible exact True.intro | with_reducible refine And.intro ?_ ?_ | with_reducible intro _ | (((with_reducible refine vc_b ?_ ?_) <;> intro _) <;> try (simp -implicitDefEqProofs only [go_sem, hn])) | simp (disch := omega) only [wrapI, wrapU, shl1, shl1', shl1'', shrN, shrN', and_one] | ((with_reducible refine isEx3 ?_); refine ⟨(_, _, _), rfl, ?_, ?_⟩)

theorem Clone_rec_own (nl : Bool) (xs : List GRec) (hw : nl = true → xs = []) (hl : xs.length ≤ 1000) (hne : 0 < xs.length) : CallM E0 F_slices_Clone_api_Record_api_Record [] [.d (.list nl (recsD xs))] [(7, 1, .row 40 5 false (recsD xs))] (.own 7 1) := by
  refine callM_of_pw dec_slices_Clone_api_Record_api_Record mixed (by simp) (by simp [okV0, nodupB, lim]) (by simp [hasN]) fun hwf hwo => ?_
  rw [enterM_eq]; unfold pc_slices_Clone_api_Record_api_Record
  have hn : ¬ xs = [] := by intro h; rw [h] at hne; simp at hne
  have hnl : nl = false := by cases nl with | true => exact absurd (hw rfl) hn | false => rfl
  subst hnl
  (try (simp -implicitDefEqProofs only [go_sem, recsD_len, recsD_unif, recsD_eqnil, hn])); repeat' first | with_reducible exact True.intro | with_reducible refine And.intro ?_ ?_ | with_reducible intro _ | (((with_reducible refine vc_b ?_ ?_) <;> intro _) <;> try (simp -implicitDefEqProofs only [go_sem, recsD_len, recsD_unif, recsD_eqnil, hn])) | simp (disch := omega) only [wrapI, wrapU, shl1, shl1', shl1'', shrN, shrN', and_one] 
  all_goals first | omega | rfl

theorem Clone_own_own (xs : List GRec) (hl : xs.length ≤ 1000) (hne : 0 < xs.length) : CallM E0 F_slices_Clone_api_Record_api_Record [(900000, 0, .row 40 5 false (recsD xs))] [.own 900000 0] [(900000, 0, .row 40 5 false (recsD xs)), (7, 1, .row 40 5 false (recsD xs))] (.own 7 1) := by
  refine callM_of_pw dec_slices_Clone_api_Record_api_Record mixed (by simp) (by simp [okV0, nodupB, lim, AObj.isHist]) (by simp [hasN]) fun hwf hwo => ?_
  rw [enterM_eq]; unfold pc_slices_Clone_api_Record_api_Record
  have hn : ¬ xs = [] := by intro h; rw [h] at hne; simp at hne
  (try (simp -implicitDefEqProofs only [go_sem, recsD_len, recsD_unif, recsD_eqnil, hn])); repeat' first | with_reducible exact True.intro | with_reducible refine And.intro ?_ ?_ | with_reducible intro _ | (((with_reducible refine vc_b ?_ ?_) <;> intro _) <;> try (simp -implicitDefEqProofs only [go_sem, recsD_len, recsD_unif, recsD_eqnil, hn])) | simp (disch := omega) only [wrapI, wrapU, shl1, shl1', shl1'', shrN, shrN', and_one] 
  all_goals first | omega | rfl
end Go.Pw
end
section
open Go Go.Pw Go.Proofs
namespace Go.Pw
set_option linter.unusedSimpArgs false
set_option linter.unusedVariables false
set_option maxRecDepth 100000
set_option maxHeartbeats 3200000
theorem recsD_set (l : List GRec) (p : Nat) (a b c d : Int) (e : Bool) : (recsD l).set p (.agg [.int .i64 a, .int .i64 b, .int .i64 c, .int .i64 d, .bool e]) = recsD (l.set p ⟨a, b, c, d, e⟩) := by simp [recsD, recD, recC]
/-- The log that open hands over. -/
def GLog.op (l : GLog) : GLog := { l with disk := { l.disk with zn := l.disk.zn && l.disk.zones.isEmpty }, sn := false }
def pd_journal_open : PC :=
  .seq (.reg [] (
    ⟨some 1, none, .box, [.t 0]⟩ ::
    ⟨some 2, none, .mov, [.k (.d (.nilptr))]⟩ ::
    ⟨some 3, none, .mov, [.k (.d (.int .i64 0))]⟩ ::
    []) [1])
  (.seq (.seq (.reg [] (
    ⟨some 8, none, .load true 12, [.t 1]⟩ ::
    ⟨some 9, none, .call 31, [.t 8]⟩ ::
    ⟨some 4, none, .mov, [.t 9]⟩ ::
    []) [1, 4])
  (.seq (.reg [] (
    ⟨some 10, none, .mov, [.t 4]⟩ ::
    ⟨some 11, none, .bin .neq, [.t 10, .k (.d (.int .i64 0))]⟩ ::
    []) [1, 4, 11])
  (.cond (.t 11)
    (.seq (.reg [] (
      ⟨some 12, none, .mov, [.t 4]⟩ ::
      ⟨some 2, none, .mov, [.k (.d (.nilptr))]⟩ ::
      ⟨some 3, none, .mov, [.t 12]⟩ ::
      []) [2, 3])
    (.ret))
    (.skip))))
  (.seq (.reg [] (
    ⟨some 13, none, .load true 12, [.t 1]⟩ ::
    ⟨some 14, none, .build [.int .i64 0, .int .i64 0, .list true [], .int .i64 0, .int .i64 0, .int .i64 0, .int .i64 0, .int .i64 0, .int .i64 0, .int .i64 0, .int .i64 0, .list true []] [(0, 12)], [.t 13]⟩ ::
    ⟨some 15, none, .box, [.t 14]⟩ ::
    ⟨some 5, none, .mov, [.t 15]⟩ ::
    []) [1, 5])
  (.seq (.reg [] (
    ⟨some 16, none, .mov, [.t 5]⟩ ::
    ⟨some 17, none, .faddr 11, [.t 1]⟩ ::
    ⟨some 18, none, .load false 1, [.t 17]⟩ ::
    ⟨some 19, none, .call 46, [.t 18]⟩ ::
    ⟨some 20, none, .nilck, [.t 16]⟩ ::
    ⟨some 21, none, .faddr 0, [.t 20]⟩ ::
    ⟨some 22, none, .faddr 11, [.t 21]⟩ ::
    ⟨none, none, .store 1, [.t 22, .t 19]⟩ ::
    []) [1, 5])
  (.seq (.reg [] (
    ⟨some 23, none, .mov, [.t 5]⟩ ::
    ⟨some 24, none, .faddr 0, [.t 1]⟩ ::
    ⟨some 25, none, .faddr 2, [.t 24]⟩ ::
    ⟨some 26, none, .load false 1, [.t 25]⟩ ::
    ⟨some 27, none, .call 65, [.t 26]⟩ ::
    ⟨some 28, none, .nilck, [.t 23]⟩ ::
    ⟨some 29, none, .faddr 0, [.t 28]⟩ ::
    ⟨some 30, none, .faddr 0, [.t 29]⟩ ::
    ⟨some 31, none, .faddr 2, [.t 30]⟩ ::
    ⟨none, none, .store 1, [.t 31, .t 27]⟩ ::
    []) [5])
  (.seq (.seq (.reg [] (
    ⟨some 33, none, .mov, [.t 5]⟩ ::
    ⟨some 34, none, .call 40, [.t 33]⟩ ::
    ⟨some 32, none, .mov, [.t 34]⟩ ::
    ⟨some 35, none, .extract 0, [.t 32]⟩ ::
    ⟨some 36, none, .extract 1, [.t 32]⟩ ::
    ⟨some 6, none, .mov, [.t 35]⟩ ::
    ⟨some 7, none, .mov, [.t 36]⟩ ::
    []) [5, 7])
  (.seq (.reg [] (
    ⟨some 37, none, .mov, [.t 7]⟩ ::
    ⟨some 38, none, .un .not, [.t 37]⟩ ::
    []) [5, 38])
  (.cond (.t 38)
    (.seq (.reg [] (
      ⟨some 2, none, .mov, [.k (.d (.nilptr))]⟩ ::
      ⟨some 3, none, .mov, [.k (.d (.int .i64 161))]⟩ ::
      []) [2, 3])
    (.ret))
    (.skip))))
  (.seq (.reg [] (
    ⟨some 39, none, .mov, [.t 5]⟩ ::
    ⟨some 2, none, .mov, [.t 39]⟩ ::
    ⟨some 3, none, .mov, [.k (.d (.int .i64 0))]⟩ ::
    []) [2, 3])
  (.ret)))))))
theorem ded_journal_open : Fun E0 F_journal_open pd_journal_open [.t 2, .t 3] 40 := fun_of_dec (fl := []) (by kernel_rfl)

theorem op_good {l : GLog} (g : l.Good) : l.op.Good := by
  have g' := cp_good g
  exact ⟨g'.d, g'.b1, g'.b2, g'.m1, g'.m2, g'.f1, g'.f2, g'.s⟩
attribute [local congr] cg_pw cg_seqI cg_seqE cg_stepI cg_ev cg_evBin cg_condB cg_condV cg_thenQ cg_blockQ cg_onSome cg_onCells cg_onRow cg_onMap cg_onOpt cg_ghosts cg_ghost cg_evCall cg_part cg_rng cg_guardV cg_frzV cg_frpV cg_ownV cg_owcV cg_occV cg_occX cg_resK cg_res1 cg_yldP cg_rndE cg_onlyN cg_onHist
attribute [local irreducible] IntKind.wrap bitsOp Option.getD and or

theorem own_append_ok (l : GLog) (g : l.Good) (x : GWr) (h : appE l.blocks l.slots x = 0) : CallM E0 F_journal_log_append (logV l) [.ptr 900000 0 0, .d (wrD x)] (logV (l.setS (putS l.slots x))) (.d (.int .i64 0)) := by
  obtain ⟨h1, h2, h3, h4, h5⟩ := appE_0 h
  obtain ⟨n1, n2, n3⟩ := newest_good g
  have m1 := g.m1; have m2 := g.m2; have b1 := g.b1; have b2 := g.b2
  have c1 := ns_newest l
  have c2 := journal_to_ret x.blk (l.blocks - 1)
  have c3 := journal_to_ret x.val 999
  have c4 := ns_limit l g
  have cs := fun n hn => own_slot l n (by omega) hn
  rw [inZ_iff.2 h1] at c2
  rw [inZ_iff.2 h2] at c3
  rw [newest_eq] at n1 n2 n3 c1 c4
  have hP : nxS l.slots = (((nwS l.slots).num + 1).tmod l.slots.length).toNat := rfl
  have t1 := tmod_range (n := (nwS l.slots).num + 1) (m := l.slots.length) (by omega) (by omega)
  have hR' : recS l.slots x = ⟨(nwS l.slots).num + 1, x.blk, x.val, x.tail, false⟩ := rfl
  unfold putS
  rw [hR']
  obtain ⟨⟨na, nb, nc, nd, ne⟩, hR⟩ : ∃ R, nwS l.slots = R := ⟨_, rfl⟩
  rw [hR] at c1 c4 n2 n3 h3 h4 h5 hP t1 ⊢
  simp only at c4 n2 n3 h3 h4 h5 hP t1 ⊢
  have c5 := cs (na + 1) (by omega)
  rw [← hP] at c5 t1
  have hPl := t1.1
  obtain ⟨P, hPP⟩ : ∃ P, nxS l.slots = P := ⟨_, rfl⟩
  rw [hPP] at c5 hPl ⊢
  rw [recD_eq, recC_eq, ns_C] at c1
  rw [ns_C] at c4
  unfold logV GLog.setS at *
  refine callM_of_pw dec_journal_log_append mixed (by simp) (by simp [okV0, nodupB, lim, AObj.isHist]) (by simp [hasN]) fun hwf hwo => ?_
  have w1 : IntKind.i64.wrap (na + 1) = na + 1 := wrapI _ (by omega)
  have w2 : IntKind.i64.wrap (l.blocks - 1) = l.blocks - 1 := wrapI _ (by omega)
  have e1 : ¬ x.tail < nd := by omega
  have e2 : ¬ na + 1 < x.tail := by omega
  have e3 : ¬ nd + (l.slots.length : Int) ≤ na + 1 := by omega
  have e4 : ¬ 999 < na + 1 := by omega
  rw [enterM_eq]; unfold pc_journal_log_append
  (try (simp -implicitDefEqProofs only [go_sem, wrD_eq, wrC_eq, w1, w2, e1, e2, e3, e4, recsD_len, recsD_set, onSome_recs, recsD_unif, recD_eq, recC_eq, hPl])); repeat' first | with_reducible exact True.intro | with_reducible refine And.intro ?_ ?_ | with_reducible intro _ | (((with_reducible refine isCall ?_); first | refine call_s (c1) rfl (by simp [D.flat, D.flat1, D.prim]) ?_ | refine call_b (c2) rfl ?_ ?_ | refine call_d (c2) rfl ?_ | refine call_sb (c2) rfl ?_ ?_ | refine call_s (c2) rfl rfl ?_ | refine call_b (c3) rfl ?_ ?_ | refine call_d (c3) rfl ?_ | refine call_sb (c3) rfl ?_ ?_ | refine call_s (c3) rfl rfl ?_ | refine call_b (c4) rfl ?_ ?_ | refine call_d (c4) rfl ?_ | refine call_sb (c4) rfl ?_ ?_ | refine call_s (c4) rfl rfl ?_ | (refine call_m ([((900000, 0), (900000, 0)), ((901000, 0), (901000, 0))]) ([((900000, 0), (900000, 0)), ((901000, 0), (901000, 0))]) (c5) (by repeat' first | exact True.intro | exact rfl | refine And.intro ?_ ?_) (by simp [Handed, Ren.get, AObj.ren, AV.ren, AV.ren.renL, View.get, lookO, callF, newS, View.reach, AV.sites, AV.sites.sitesL, View.osites]) (by simp [namesOk, hasN, nodupB, Ren.get, newS, lim, upd]) (by rfl) (by simp only [backC, Ren.get, AObj.ren, AV.ren, AV.ren.renL, and_self, and_true, true_and, if_true, reduceIte]; rfl) ?_)) <;> try (simp -implicitDefEqProofs only [go_sem, wrD_eq, wrC_eq, w1, w2, e1, e2, e3, e4, recsD_len, recsD_set, onSome_recs, recsD_unif, recD_eq, recC_eq, hPl])) | (((with_reducible refine vc_b ?_ ?_) <;> intro _) <;> try (simp -implicitDefEqProofs only [go_sem, wrD_eq, wrC_eq, w1, w2, e1, e2, e3, e4, recsD_len, recsD_set, onSome_recs, recsD_unif, recD_eq, recC_eq, hPl])) | simp (disch := omega) only [wrapI, wrapU, shl1, shl1', shl1'', shrN, shrN', and_one] 
  all_goals first | omega | rfl | exact .inl True.intro | trace_state

theorem own_append_no (l : GLog) (g : l.Good) (x : GWr) (h : appE l.blocks l.slots x ≠ 0) : CallM E0 F_journal_log_append (logV l) [.ptr 900000 0 0, .d (wrD x)] (logV l) (.d (.int .i64 (appE l.blocks l.slots x))) := by
  obtain ⟨n1, n2, n3⟩ := newest_good g
  have m1 := g.m1; have m2 := g.m2; have b1 := g.b1; have b2 := g.b2
  have c1 := ns_newest l
  have c2 := journal_to_ret x.blk (l.blocks - 1)
  have c3 := journal_to_ret x.val 999
  have c4 := ns_limit l g
  rw [newest_eq] at n1 n2 n3 c1 c4
  unfold appE entOk at *
  obtain ⟨⟨na, nb, nc, nd, ne⟩, hR⟩ : ∃ R, nwS l.slots = R := ⟨_, rfl⟩
  rw [hR] at c1 c4 n2 n3 h ⊢
  simp only at c4 n2 n3 h ⊢
  rw [recD_eq, recC_eq, ns_C] at c1
  rw [ns_C] at c4
  unfold logV at *
  refine callM_of_pw dec_journal_log_append mixed (by simp) (by simp [okV0, nodupB, lim, AObj.isHist]) (by simp [hasN]) fun hwf hwo => ?_
  have w1 : IntKind.i64.wrap (na + 1) = na + 1 := wrapI _ (by omega)
  have w2 : IntKind.i64.wrap (l.blocks - 1) = l.blocks - 1 := wrapI _ (by omega)
  rw [enterM_eq]; unfold pc_journal_log_append
  cases hb : inZ x.blk 0 (l.blocks - 1) with
  | false =>
    rw [hb] at c2
    simp only [Bool.false_and, Bool.false_eq_true, if_false]
    (try (simp -implicitDefEqProofs only [go_sem, wrD_eq, wrC_eq, w1, w2])); repeat' first | with_reducible exact True.intro | with_reducible refine And.intro ?_ ?_ | with_reducible intro _ | (((with_reducible refine isCall ?_); first | refine call_s (c1) rfl (by simp [D.flat, D.flat1, D.prim]) ?_ | refine call_b (c2) rfl ?_ ?_ | refine call_d (c2) rfl ?_ | refine call_sb (c2) rfl ?_ ?_ | refine call_s (c2) rfl rfl ?_) <;> try (simp -implicitDefEqProofs only [go_sem, wrD_eq, wrC_eq, w1, w2])) | (((with_reducible refine vc_b ?_ ?_) <;> intro _) <;> try (simp -implicitDefEqProofs only [go_sem, wrD_eq, wrC_eq, w1, w2])) | simp (disch := omega) only [wrapI, wrapU, shl1, shl1', shl1'', shrN, shrN', and_one] 
    all_goals first | omega | rfl | exact .inl True.intro | trace_state
  | true =>
    rw [hb] at c2 h
    cases hv : inZ x.val 0 999 with
    | false =>
      rw [hv] at c3
      simp only [Bool.false_and, Bool.and_false, Bool.true_and, Bool.false_eq_true, if_false]
      (try (simp -implicitDefEqProofs only [go_sem, wrD_eq, wrC_eq, w1, w2])); repeat' first | with_reducible exact True.intro | with_reducible refine And.intro ?_ ?_ | with_reducible intro _ | (((with_reducible refine isCall ?_); first | refine call_s (c1) rfl (by simp [D.flat, D.flat1, D.prim]) ?_ | refine call_b (c2) rfl ?_ ?_ | refine call_d (c2) rfl ?_ | refine call_sb (c2) rfl ?_ ?_ | refine call_s (c2) rfl rfl ?_ | refine call_b (c3) rfl ?_ ?_ | refine call_d (c3) rfl ?_ | refine call_sb (c3) rfl ?_ ?_ | refine call_s (c3) rfl rfl ?_) <;> try (simp -implicitDefEqProofs only [go_sem, wrD_eq, wrC_eq, w1, w2])) | (((with_reducible refine vc_b ?_ ?_) <;> intro _) <;> try (simp -implicitDefEqProofs only [go_sem, wrD_eq, wrC_eq, w1, w2])) | simp (disch := omega) only [wrapI, wrapU, shl1, shl1', shl1'', shrN, shrN', and_one] 
      all_goals first | omega | rfl | exact .inl True.intro | trace_state
    | true =>
      rw [hv] at c3 h
      simp only [Bool.true_and] at h ⊢
      by_cases ht : nd ≤ x.tail ∧ x.tail ≤ na + 1
      · rw [inZ_iff.2 ht] at h ⊢
        simp only [if_true] at h ⊢
        have e1 : ¬ x.tail < nd := by omega
        have e2 : ¬ na + 1 < x.tail := by omega
        by_cases hf : nd + (l.slots.length : Int) ≤ na + 1
        · rw [if_pos hf]
          (try (simp -implicitDefEqProofs only [go_sem, wrD_eq, wrC_eq, w1, w2, e1, e2, hf])); repeat' first | with_reducible exact True.intro | with_reducible refine And.intro ?_ ?_ | with_reducible intro _ | (((with_reducible refine isCall ?_); first | refine call_s (c1) rfl (by simp [D.flat, D.flat1, D.prim]) ?_ | refine call_b (c2) rfl ?_ ?_ | refine call_d (c2) rfl ?_ | refine call_sb (c2) rfl ?_ ?_ | refine call_s (c2) rfl rfl ?_ | refine call_b (c3) rfl ?_ ?_ | refine call_d (c3) rfl ?_ | refine call_sb (c3) rfl ?_ ?_ | refine call_s (c3) rfl rfl ?_ | refine call_b (c4) rfl ?_ ?_ | refine call_d (c4) rfl ?_ | refine call_sb (c4) rfl ?_ ?_ | refine call_s (c4) rfl rfl ?_) <;> try (simp -implicitDefEqProofs only [go_sem, wrD_eq, wrC_eq, w1, w2, e1, e2, hf])) | (((with_reducible refine vc_b ?_ ?_) <;> intro _) <;> try (simp -implicitDefEqProofs only [go_sem, wrD_eq, wrC_eq, w1, w2, e1, e2, hf])) | simp (disch := omega) only [wrapI, wrapU, shl1, shl1', shl1'', shrN, shrN', and_one] 
          all_goals first | omega | rfl | exact .inl True.intro | trace_state
        · rw [if_neg hf] at h ⊢
          by_cases hm : 999 < na + 1
          · rw [if_pos hm]
            (try (simp -implicitDefEqProofs only [go_sem, wrD_eq, wrC_eq, w1, w2, e1, e2, hf, hm])); repeat' first | with_reducible exact True.intro | with_reducible refine And.intro ?_ ?_ | with_reducible intro _ | (((with_reducible refine isCall ?_); first | refine call_s (c1) rfl (by simp [D.flat, D.flat1, D.prim]) ?_ | refine call_b (c2) rfl ?_ ?_ | refine call_d (c2) rfl ?_ | refine call_sb (c2) rfl ?_ ?_ | refine call_s (c2) rfl rfl ?_ | refine call_b (c3) rfl ?_ ?_ | refine call_d (c3) rfl ?_ | refine call_sb (c3) rfl ?_ ?_ | refine call_s (c3) rfl rfl ?_ | refine call_b (c4) rfl ?_ ?_ | refine call_d (c4) rfl ?_ | refine call_sb (c4) rfl ?_ ?_ | refine call_s (c4) rfl rfl ?_) <;> try (simp -implicitDefEqProofs only [go_sem, wrD_eq, wrC_eq, w1, w2, e1, e2, hf, hm])) | (((with_reducible refine vc_b ?_ ?_) <;> intro _) <;> try (simp -implicitDefEqProofs only [go_sem, wrD_eq, wrC_eq, w1, w2, e1, e2, hf, hm])) | simp (disch := omega) only [wrapI, wrapU, shl1, shl1', shl1'', shrN, shrN', and_one] 
            all_goals first | omega | rfl | exact .inl True.intro | trace_state
          · rw [if_neg hm] at h; exact absurd rfl h
      · have hz : inZ x.tail nd (na + 1) = false := by
          cases hq : inZ x.tail nd (na + 1) with
          | false => rfl
          | true => exact absurd (inZ_iff.1 hq) ht
        rw [hz]
        simp only [Bool.false_eq_true, if_false]
        by_cases e1 : x.tail < nd
        · (try (simp -implicitDefEqProofs only [go_sem, wrD_eq, wrC_eq, w1, w2, e1])); repeat' first | with_reducible exact True.intro | with_reducible refine And.intro ?_ ?_ | with_reducible intro _ | (((with_reducible refine isCall ?_); first | refine call_s (c1) rfl (by simp [D.flat, D.flat1, D.prim]) ?_ | refine call_b (c2) rfl ?_ ?_ | refine call_d (c2) rfl ?_ | refine call_sb (c2) rfl ?_ ?_ | refine call_s (c2) rfl rfl ?_ | refine call_b (c3) rfl ?_ ?_ | refine call_d (c3) rfl ?_ | refine call_sb (c3) rfl ?_ ?_ | refine call_s (c3) rfl rfl ?_ | refine call_b (c4) rfl ?_ ?_ | refine call_d (c4) rfl ?_ | refine call_sb (c4) rfl ?_ ?_ | refine call_s (c4) rfl rfl ?_) <;> try (simp -implicitDefEqProofs only [go_sem, wrD_eq, wrC_eq, w1, w2, e1])) | (((with_reducible refine vc_b ?_ ?_) <;> intro _) <;> try (simp -implicitDefEqProofs only [go_sem, wrD_eq, wrC_eq, w1, w2, e1])) | simp (disch := omega) only [wrapI, wrapU, shl1, shl1', shl1'', shrN, shrN', and_one] 
          all_goals first | omega | rfl | exact .inl True.intro | trace_state
        · have e2 : na + 1 < x.tail := by omega
          (try (simp -implicitDefEqProofs only [go_sem, wrD_eq, wrC_eq, w1, w2, e1, e2])); repeat' first | with_reducible exact True.intro | with_reducible refine And.intro ?_ ?_ | with_reducible intro _ | (((with_reducible refine isCall ?_); first | refine call_s (c1) rfl (by simp [D.flat, D.flat1, D.prim]) ?_ | refine call_b (c2) rfl ?_ ?_ | refine call_d (c2) rfl ?_ | refine call_sb (c2) rfl ?_ ?_ | refine call_s (c2) rfl rfl ?_ | refine call_b (c3) rfl ?_ ?_ | refine call_d (c3) rfl ?_ | refine call_sb (c3) rfl ?_ ?_ | refine call_s (c3) rfl rfl ?_ | refine call_b (c4) rfl ?_ ?_ | refine call_d (c4) rfl ?_ | refine call_sb (c4) rfl ?_ ?_ | refine call_s (c4) rfl rfl ?_) <;> try (simp -implicitDefEqProofs only [go_sem, wrD_eq, wrC_eq, w1, w2, e1, e2])) | (((with_reducible refine vc_b ?_ ?_) <;> intro _) <;> try (simp -implicitDefEqProofs only [go_sem, wrD_eq, wrC_eq, w1, w2, e1, e2])) | simp (disch := omega) only [wrapI, wrapU, shl1, shl1', shl1'', shrN, shrN', and_one] 
          all_goals first | omega | rfl | exact .inl True.intro | trace_state

theorem own_open (l : GLog) (h : l.openE = 0) (hs : l.sn = true → l.slots = []) (hz : l.disk.zn = true → l.disk.zones = []) : CallM E0 F_journal_open [] [.d (logD l)]
    [(15, 1, .cells [.d (.int .i64 l.op.disk.heads), .d (.int .i64 l.op.disk.turn), .d (.list l.op.disk.zn (zpsD l.op.disk.zones)), .d (.int .i64 l.op.disk.hskew), .d (.int .i64 l.op.disk.cskew), .d (.int .i64 l.op.disk.hlo), .d (.int .i64 l.op.disk.hhi), .d (.int .i64 l.op.disk.clo), .d (.int .i64 l.op.disk.chi), .d (.int .i64 l.op.blocks), .d (.int .i64 l.op.from'), .own 19 1]), (19, 1, .row 40 5 false (recsD l.slots))] (.tup [.ptr 15 1 0, .d (.int .i64 0)]) := by
  obtain ⟨hc, hf⟩ := openE_0 h
  have g := check_good hc
  have c1 := journal_Check_ret l
  rw [hc] at c1
  have m1 := g.m1; have m2 := g.m2
  have z2 := (good_of g.d).z2
  have c2 := Clone_rec_own l.sn l.slots hs (by omega) (by omega)
  have c3 := Clone_zone_ret l.disk.zn l.disk.zones (by omega) hz
  have c4 := own_kept l.op (op_good g) (show l.op.full = true from (whole_congr (l := l) (k := l.op) fun _ _ => rfl).trans hf)
  unfold logV at c4
  generalize l.op.kept = kk at c4
  dsimp only [GLog.op] at c4
  refine callM_of_pw ded_journal_open mixed (by simp) (by simp [okV0, nodupB, lim, AObj.isHist]) (by simp [hasN]) fun hwf hwo => ?_
  rw [enterM_eq]; unfold pd_journal_open
  (try (simp -implicitDefEqProofs only [go_sem, logD_eq, logC_eq, GLog.op])); repeat' first | with_reducible exact True.intro | with_reducible refine And.intro ?_ ?_ | with_reducible intro _ | (((with_reducible refine isCall ?_); first | refine call_b (c1) rfl ?_ ?_ | refine call_d (c1) rfl ?_ | refine call_sb (c1) rfl ?_ ?_ | refine call_s (c1) rfl rfl ?_ | (refine call_m ([]) ([((7, 1), (19, 1))]) (c2) (by repeat' first | exact True.intro | exact rfl | refine And.intro ?_ ?_) (by simp [Handed, Ren.get, AObj.ren, AV.ren, AV.ren.renL, View.get, lookO, callF, newS, View.reach, AV.sites, AV.sites.sitesL, View.osites]) (by simp [namesOk, hasN, nodupB, Ren.get, newS, lim, upd]) (by rfl) (by simp only [backC, Ren.get, AObj.ren, AV.ren, AV.ren.renL, and_self, and_true, true_and, if_true, reduceIte]; rfl) ?_) | refine call_b (c3) rfl ?_ ?_ | refine call_d (c3) rfl ?_ | refine call_sb (c3) rfl ?_ ?_ | refine call_s (c3) rfl rfl ?_ | (refine call_m ([((900000, 0), (15, 1)), ((901000, 0), (19, 1))]) ([((900000, 0), (15, 1)), ((901000, 0), (19, 1))]) (c4) (by repeat' first | exact True.intro | exact rfl | refine And.intro ?_ ?_) (by simp [Handed, Ren.get, AObj.ren, AV.ren, AV.ren.renL, View.get, lookO, callF, newS, View.reach, AV.sites, AV.sites.sitesL, View.osites]) (by simp [namesOk, hasN, nodupB, Ren.get, newS, lim, upd]) (by rfl) (by simp only [backC, Ren.get, AObj.ren, AV.ren, AV.ren.renL, and_self, and_true, true_and, if_true, reduceIte]; rfl) ?_)) <;> try (simp -implicitDefEqProofs only [go_sem, logD_eq, logC_eq, GLog.op])) | (((with_reducible refine vc_b ?_ ?_) <;> intro _) <;> try (simp -implicitDefEqProofs only [go_sem, logD_eq, logC_eq, GLog.op])) | simp (disch := omega) only [wrapI, wrapU, shl1, shl1', shl1'', shrN, shrN', and_one] 
  all_goals trace_state
end Go.Pw
end
