/- A part of the proof. -/
import Derived.Test.YtiphmemigdplgaaDoorJournalSpec3
set_option linter.all false
section
open Go Go.Pw Go.Proofs
namespace Go.Pw
set_option linter.unusedSimpArgs false
set_option linter.unusedVariables false
set_option maxRecDepth 100000
set_option maxHeartbeats 3200000
/-- A log whose slots are a row of our own. -/
def logA (l : GLog) (x : AV) : AV := .agg [.d (.int .i64 l.disk.heads), .d (.int .i64 l.disk.turn), .d (.list l.disk.zn (zpsD l.disk.zones)), .d (.int .i64 l.disk.hskew), .d (.int .i64 l.disk.cskew), .d (.int .i64 l.disk.hlo), .d (.int .i64 l.disk.hhi), .d (.int .i64 l.disk.clo), .d (.int .i64 l.disk.chi), .d (.int .i64 l.blocks), .d (.int .i64 l.from'), x]
attribute [local congr] cg_pw cg_seqI cg_seqE cg_stepI cg_ev cg_evBin cg_condB cg_condV cg_thenQ cg_blockQ cg_onSome cg_onCells cg_onRow cg_onMap cg_onOpt cg_ghosts cg_ghost cg_evCall cg_part cg_rng cg_guardV cg_frzV cg_frpV cg_ownV cg_owcV cg_occV cg_occX cg_resK cg_res1 cg_yldP cg_rndE cg_onlyN cg_onHist
attribute [local irreducible] IntKind.wrap bitsOp Option.getD and or

theorem own_Copy (l : GLog) (hl : l.slots.length ≤ 1000) (hne : 0 < l.slots.length) (hz : l.disk.zones.length ≤ 1000) : CallM E0 F_ref16_Copy [] [.d (logD l)] [(12, 1, .row 40 5 false (recsD l.slots))] (logA l.cpy (.own 12 1)) := by
  have c1 := ref01_Copy_ret l.disk hz
  rw [diskD_eq, diskC_eq] at c1
  have hn : ¬ l.slots = [] := by intro h; rw [h] at hne; simp at hne
  unfold logA
  refine callM_of_pw dec_ref16_Copy mixed (by simp) (by simp [okV0, nodupB, lim, AObj.isHist]) (by simp [hasN]) fun hwf hwo => ?_
  rw [enterM_eq]; unfold pc_ref16_Copy
  (try (simp -implicitDefEqProofs only [go_sem, logD_eq, logC_eq, recsD_len, recsD_unif, recsD_eqnil, hn, GDisk.cp, GLog.cpy, diskD_eq, diskC_eq])); repeat' first | with_reducible exact True.intro | with_reducible refine And.intro ?_ ?_ | with_reducible intro _ | (((with_reducible refine isCall ?_); first | refine call_b (c1) rfl ?_ ?_ | refine call_d (c1) rfl ?_ | refine call_sb (c1) rfl ?_ ?_ | refine call_s (c1) rfl rfl ?_) <;> try (simp -implicitDefEqProofs only [go_sem, logD_eq, logC_eq, recsD_len, recsD_unif, recsD_eqnil, hn, GDisk.cp, GLog.cpy, diskD_eq, diskC_eq])) | (((with_reducible refine vc_b ?_ ?_) <;> intro _) <;> try (simp -implicitDefEqProofs only [go_sem, logD_eq, logC_eq, recsD_len, recsD_unif, recsD_eqnil, hn, GDisk.cp, GLog.cpy, diskD_eq, diskC_eq])) | simp (disch := omega) only [wrapI, wrapU, shl1, shl1', shl1'', shrN, shrN', and_one] 
  all_goals first | omega | rfl | trace_state

theorem own2_open (l : GLog) (h : l.openE = 0) (hz : l.disk.zn = true → l.disk.zones = []) : CallM E0 F_journal_open [(901000, 0, .row 40 5 false (recsD l.slots))] [logA l (.own 901000 0)]
    [(901000, 0, .row 40 5 false (recsD l.slots)), (15, 1, .cells [.d (.int .i64 l.op.disk.heads), .d (.int .i64 l.op.disk.turn), .d (.list l.op.disk.zn (zpsD l.op.disk.zones)), .d (.int .i64 l.op.disk.hskew), .d (.int .i64 l.op.disk.cskew), .d (.int .i64 l.op.disk.hlo), .d (.int .i64 l.op.disk.hhi), .d (.int .i64 l.op.disk.clo), .d (.int .i64 l.op.disk.chi), .d (.int .i64 l.op.blocks), .d (.int .i64 l.op.from'), .own 19 1]), (19, 1, .row 40 5 false (recsD l.slots))] (.tup [.ptr 15 1 0, .d (.int .i64 0)]) := by
  obtain ⟨hc, hf⟩ := openE_0 h
  have g := check_good hc
  have c1 := journal_Check_ret l.ns
  rw [ns_check, hc] at c1
  have m1 := g.m1; have m2 := g.m2
  have z2 := (good_of g.d).z2
  have c2 := Clone_own_own l.slots (by omega) (by omega)
  have c3 := Clone_zone_ret l.disk.zn l.disk.zones (by omega) hz
  have c4 := own_kept l.op (op_good g) (show l.op.full = true from (whole_congr (l := l) (k := l.op) fun _ _ => rfl).trans hf)
  unfold logV at c4
  generalize l.op.kept = kk at c4
  dsimp only [GLog.op] at c4
  rw [logD_eq, ns_C] at c1
  unfold logA
  refine callM_of_pw ded_journal_open mixed (by simp) (by simp [okV0, nodupB, lim, AObj.isHist]) (by simp [hasN]) fun hwf hwo => ?_
  rw [enterM_eq]; unfold pd_journal_open
  (try (simp -implicitDefEqProofs only [go_sem, GLog.op])); repeat' first | with_reducible exact True.intro | with_reducible refine And.intro ?_ ?_ | with_reducible intro _ | (((with_reducible refine isCall ?_); first | refine call_b (c1) rfl ?_ ?_ | refine call_d (c1) rfl ?_ | refine call_sb (c1) rfl ?_ ?_ | refine call_s (c1) rfl rfl ?_ | (refine call_m ([((900000, 0), (901000, 0))]) ([((900000, 0), (901000, 0)), ((7, 1), (19, 1))]) (c2) (by repeat' first | exact True.intro | exact rfl | refine And.intro ?_ ?_) (by simp [Handed, Ren.get, AObj.ren, AV.ren, AV.ren.renL, View.get, lookO, callF, newS, View.reach, AV.sites, AV.sites.sitesL, View.osites]) (by simp [namesOk, hasN, nodupB, Ren.get, newS, lim, upd]) (by rfl) (by simp only [backC, Ren.get, AObj.ren, AV.ren, AV.ren.renL, and_self, and_true, true_and, if_true, reduceIte]; rfl) ?_) | refine call_b (c3) rfl ?_ ?_ | refine call_d (c3) rfl ?_ | refine call_sb (c3) rfl ?_ ?_ | refine call_s (c3) rfl rfl ?_ | (refine call_m ([((900000, 0), (15, 1)), ((901000, 0), (19, 1))]) ([((900000, 0), (15, 1)), ((901000, 0), (19, 1))]) (c4) (by repeat' first | exact True.intro | exact rfl | refine And.intro ?_ ?_) (by simp [Handed, Ren.get, AObj.ren, AV.ren, AV.ren.renL, View.get, lookO, callF, newS, View.reach, AV.sites, AV.sites.sitesL, View.osites]) (by simp [namesOk, hasN, nodupB, Ren.get, newS, lim, upd]) (by rfl) (by simp only [backC, Ren.get, AObj.ren, AV.ren, AV.ren.renL, and_self, and_true, true_and, if_true, reduceIte]; rfl) ?_)) <;> try (simp -implicitDefEqProofs only [go_sem, GLog.op])) | (((with_reducible refine vc_b ?_ ?_) <;> intro _) <;> try (simp -implicitDefEqProofs only [go_sem, GLog.op])) | simp (disch := omega) only [wrapI, wrapU, shl1, shl1', shl1'', shrN, shrN', and_one] 
  all_goals first | omega | rfl | trace_state

theorem own_Recover (l : GLog) (h : l.openE = 0) (hz : l.disk.zn = true → l.disk.zones = []) : CallM E0 F_journal_Recover [(901000, 0, .row 40 5 false (recsD l.slots))] [logA l (.own 901000 0)]
    [(901000, 0, .row 40 5 false (recsD l.slots))] (.tup [.d (.list l.kept.isEmpty (recsD l.kept)), .d (.int .i64 0)]) := by
  obtain ⟨hc, hf⟩ := openE_0 h
  have g := check_good hc
  have c1 := own2_open l h hz
  have c4 := own_kept l.op (op_good g) (show l.op.full = true from (whole_congr (l := l) (k := l.op) fun _ _ => rfl).trans hf)
  have hk : l.op.kept = l.kept := keptN_congr fun _ _ => rfl
  rw [hk] at c4
  unfold logV at c4
  dsimp only [GLog.op] at c1 c4
  unfold logA at *
  refine callM_of_pw dec_journal_Recover mixed (by simp) (by simp [okV0, nodupB, lim, AObj.isHist]) (by simp [hasN]) fun hwf hwo => ?_
  rw [enterM_eq]; unfold pc_journal_Recover
  (try (simp -implicitDefEqProofs only [go_sem])); repeat' first | with_reducible exact True.intro | with_reducible refine And.intro ?_ ?_ | with_reducible intro _ | (((with_reducible refine isCall ?_); first | (refine call_m ([((901000, 0), (901000, 0))]) ([((901000, 0), (901000, 0)), ((15, 1), (10, 1)), ((19, 1), (10010, 1))]) (c1) (by repeat' first | exact True.intro | exact rfl | refine And.intro ?_ ?_) (by simp [Handed, Ren.get, AObj.ren, AV.ren, AV.ren.renL, View.get, lookO, callF, newS, View.reach, AV.sites, AV.sites.sitesL, View.osites]) (by simp [namesOk, hasN, nodupB, Ren.get, newS, lim, upd]) (by rfl) (by simp only [backC, Ren.get, AObj.ren, AV.ren, AV.ren.renL, and_self, and_true, true_and, if_true, reduceIte]; rfl) ?_) | (refine call_m ([((900000, 0), (10, 1)), ((901000, 0), (10010, 1))]) ([((900000, 0), (10, 1)), ((901000, 0), (10010, 1))]) (c4) (by repeat' first | exact True.intro | exact rfl | refine And.intro ?_ ?_) (by simp [Handed, Ren.get, AObj.ren, AV.ren, AV.ren.renL, View.get, lookO, callF, newS, View.reach, AV.sites, AV.sites.sitesL, View.osites]) (by simp [namesOk, hasN, nodupB, Ren.get, newS, lim, upd]) (by rfl) (by simp only [backC, Ren.get, AObj.ren, AV.ren, AV.ren.renL, and_self, and_true, true_and, if_true, reduceIte]; rfl) ?_)) <;> try (simp -implicitDefEqProofs only [go_sem])) | (((with_reducible refine vc_b ?_ ?_) <;> intro _) <;> try (simp -implicitDefEqProofs only [go_sem])) | simp (disch := omega) only [wrapI, wrapU, shl1, shl1', shl1'', shrN, shrN', and_one] 
  all_goals trace_state

theorem own_Cut (l : GLog) (he : l.openE = 0) (hs : l.sn = true → l.slots = []) (hz : l.disk.zn = true → l.disk.zones = []) (nw : Bool) (es : List GWr) (hlw : es.length ≤ 1000) (hE : errN l.blocks l.slots es es.length = 0) :
    CallM E0 F_journal_Cut [] [.d (logD l), .d (.list nw (wrsD es)), .d (.int .i64 es.length), .d (.bool false)] [(47, 0, .row 40 5 false (recsD (cutS l.slots es es.length false)))] (.tup [logA l.op (.own 47 0), .d (.int .i64 0)]) := by
  obtain ⟨hc, hf⟩ := openE_0 he
  have g := check_good hc
  have gop := op_good g
  have m1 := g.m1; have m2 := g.m2
  have c1 := own_open l he hs hz
  have c3 := Clone_own_own l.slots (by omega) (by omega)
  obtain ⟨d, hd0⟩ : ∃ d : Int, d = es.length := ⟨_, rfl⟩
  have hd : 0 ≤ d ∧ d ≤ es.length := by omega
  have c2 := journal_to_ret d es.length
  have hi : inZ d 0 es.length = true := inZ_iff.2 hd
  unfold logA
  rw [show cutS l.slots es es.length false = cutS l.slots es d.toNat false by rw [hd0]; rfl, ← hd0]
  refine callM_of_pw dec_journal_Cut mixed (by simp) (by simp [okV0, nodupB, lim, AObj.isHist]) (by simp [hasN]) fun hwf hwo => ?_

  rw [hi] at c2
  have c4 := fun s => ns_newest (l.op.setS s)
  rw [enterM_eq]; unfold pc_journal_Cut
  (try (simp -implicitDefEqProofs only [go_sem, logD_eq, logC_eq, GLog.op, wrsD_len])); repeat' first | with_reducible exact True.intro | with_reducible refine And.intro ?_ ?_ | with_reducible intro _ | (((with_reducible refine isCall ?_); first | (refine call_m ([]) ([((15, 1), (20, 1)), ((19, 1), (10020, 1))]) (c1) (by repeat' first | exact True.intro | exact rfl | refine And.intro ?_ ?_) (by simp [Handed, Ren.get, AObj.ren, AV.ren, AV.ren.renL, View.get, lookO, callF, newS, View.reach, AV.sites, AV.sites.sitesL, View.osites]) (by simp [namesOk, hasN, nodupB, Ren.get, newS, lim, upd]) (by rfl) (by simp only [backC, Ren.get, AObj.ren, AV.ren, AV.ren.renL, and_self, and_true, true_and, if_true, reduceIte]; rfl) ?_) | refine call_b (c2) rfl ?_ ?_ | refine call_d (c2) rfl ?_ | refine call_sb (c2) rfl ?_ ?_ | refine call_s (c2) rfl rfl ?_ | (refine call_m ([((900000, 0), (10020, 1))]) ([((900000, 0), (10020, 1)), ((7, 1), (47, 1))]) (c3) (by repeat' first | exact True.intro | exact rfl | refine And.intro ?_ ?_) (by simp [Handed, Ren.get, AObj.ren, AV.ren, AV.ren.renL, View.get, lookO, callF, newS, View.reach, AV.sites, AV.sites.sitesL, View.osites]) (by simp [namesOk, hasN, nodupB, Ren.get, newS, lim, upd]) (by rfl) (by simp only [backC, Ren.get, AObj.ren, AV.ren, AV.ren.renL, and_self, and_true, true_and, if_true, reduceIte]; rfl) ?_)) <;> try (simp -implicitDefEqProofs only [go_sem, logD_eq, logC_eq, GLog.op, wrsD_len])) | (((with_reducible refine vc_b ?_ ?_) <;> intro _) <;> try (simp -implicitDefEqProofs only [go_sem, logD_eq, logC_eq, GLog.op, wrsD_len])) | simp (disch := omega) only [wrapI, wrapU, shl1, shl1', shl1'', shrN, shrN', and_one] | ((with_reducible refine isEx3 ?_); refine ⟨(_, _, _), rfl, ?_, ?_⟩)
  all_goals (try omega)
  refine pw_loopS (α := Int × (List GRec) × (List GRec)) (l0 := ?l1) (m0 := ?m1) (fun x => [(50, .d (.int .i64 x.1))]) (fun x => [(10020, .row 40 5 false (recsD x.2.1)), (47, .row 40 5 false (recsD x.2.2))]) (fun x => (0 ≤ x.1 ∧ x.1 ≤ es.length) ∧ x.2.1 = putN l.slots es x.1.toNat ∧ errN l.blocks l.slots es x.1.toNat = 0 ∧ x.2.2 = outN l.slots es d false x.1.toNat) (fun x => (es.length - x.1).toNat) (?a1_0, ?a1_1, ?a1_2) ?h01 ?he1 ?he21 ?hI1 ?step1
  case h01 => (simp -implicitDefEqProofs only [go_sem, recsD_len, wrsD_len]; rfl)
  case he1 => rfl
  case he21 => rfl
  case' step1 => (rintro ⟨i, s, o⟩ hI; try dsimp only at hI)
  case' hI1 => try dsimp only
  · exact ⟨⟨by omega, by omega⟩, rfl, rfl, rfl⟩
  · obtain ⟨⟨q1, q2⟩, q3, q4, q5⟩ := hI
    have hsl : s.length = l.slots.length := by rw [q3]; exact putN_len _ _ _
    have hol : o.length = l.slots.length := by rw [q5]; exact outN_len _ _ _ _ _
    by_cases hie : i < es.length
    · have w1 : IntKind.i64.wrap (i + 1) = i + 1 := wrapI _ (by omega)
      have e1 := errN_next l.blocks l.slots es i q1 q4
      have e2 := putN_next l.slots es i q1
      have e3 := outN_next l.slots es d false i q1
      obtain ⟨x, hx⟩ : ∃ x, es[i.toNat]?.getD default = x := ⟨_, rfl⟩
      have gL : (l.op.setS s).Good := by rw [q3]; exact putN_good (l := l.op) gop es i.toNat q4
      obtain ⟨n1, n2, n3⟩ := newest_good gL
      rw [setS_newest] at n1 n2 n3
      rw [hx, ← q3] at e1
      rw [hx, ← q3] at e2
      rw [e2, ← q3, ← q5] at e3
      have c4 := ns_newest (l.op.setS s)
      have hP : nxS s = (((nwS s).num + 1).tmod s.length).toNat := rfl
      have t1 := tmod_range (n := (nwS s).num + 1) (m := s.length) (by omega) (by omega)
      have w2 : IntKind.i64.wrap ((nwS s).num + 1) = (nwS s).num + 1 := wrapI _ (by omega)
      rw [recD_eq, recC_eq, ns_C, setS_newest] at c4
      by_cases ha : appE l.blocks s x = 0
      · have c5 := own_append_ok (l.op.setS s) gL x ha
        have hpl := putS_len s x
        rw [ha] at e1
        obtain ⟨r, hr⟩ : ∃ r, (putS s x)[nxS s]?.getD default = r := ⟨_, rfl⟩
        rw [hr] at e3
        unfold logV at c5
        simp only [GLog.setS, GLog.op] at c4 c5
        rw [← hP] at t1
        have hPl := t1.1
        obtain ⟨P, hPP⟩ : ∃ P, nxS s = P := ⟨_, rfl⟩
        rw [hPP] at hP t1 hPl hr e3
        obtain ⟨s', hs'⟩ : ∃ s', putS s x = s' := ⟨_, rfl⟩
        rw [hs'] at c5 hpl hr e2
        have hPo : P < o.length := by omega
        have hPs : P < s'.length := by omega
        have e5 : ¬ (o.length : Int) = 0 := by omega
        have hPo' : ((((nwS s).num + 1).tmod o.length).toNat) = P := by rw [hP, hol, hsl]
        have t2 : 0 ≤ ((nwS s).num + 1).tmod o.length ∧ ((nwS s).num + 1).tmod o.length < o.length := by rw [hol, ← hsl]; omega
        by_cases hid : i < d
        · rw [if_pos hid] at e3
          (try (simp -implicitDefEqProofs only [go_sem, wrsD_len, onSome_wrs, wrsD_unif, hx, wrD_eq, wrC_eq, recsD_len, onSome_recs, recsD_unif, recD_eq, recC_eq, recsD_set, hr, hPo', hPo, hPs, t2.1, t2.2, e5, w1, w2, hie, q1, hid])); repeat' first | with_reducible exact True.intro | with_reducible refine And.intro ?_ ?_ | with_reducible intro _ | (((with_reducible refine isCall ?_); first | refine call_s (c4) rfl (by simp [D.flat, D.flat1, D.prim]) ?_ | (refine call_m ([((900000, 0), (20, 0)), ((901000, 0), (10020, 0))]) ([((900000, 0), (20, 0)), ((901000, 0), (10020, 0))]) (c5) (by repeat' first | exact True.intro | exact rfl | refine And.intro ?_ ?_) (by simp [Handed, Ren.get, AObj.ren, AV.ren, AV.ren.renL, View.get, lookO, callF, newS, View.reach, AV.sites, AV.sites.sitesL, View.osites]) (by simp [namesOk, hasN, nodupB, Ren.get, newS, lim, upd]) (by rfl) (by simp only [backC, Ren.get, AObj.ren, AV.ren, AV.ren.renL, and_self, and_true, true_and, if_true, reduceIte]; rfl) ?_)) <;> try (simp -implicitDefEqProofs only [go_sem, wrsD_len, onSome_wrs, wrsD_unif, hx, wrD_eq, wrC_eq, recsD_len, onSome_recs, recsD_unif, recD_eq, recC_eq, recsD_set, hr, hPo', hPo, hPs, t2.1, t2.2, e5, w1, w2, hie, q1, hid])) | (((with_reducible refine vc_b ?_ ?_) <;> intro _) <;> try (simp -implicitDefEqProofs only [go_sem, wrsD_len, onSome_wrs, wrsD_unif, hx, wrD_eq, wrC_eq, recsD_len, onSome_recs, recsD_unif, recD_eq, recC_eq, recsD_set, hr, hPo', hPo, hPs, t2.1, t2.2, e5, w1, w2, hie, q1, hid])) | simp (disch := omega) only [wrapI, wrapU, shl1, shl1', shl1'', shrN, shrN', and_one] | ((with_reducible refine isEx3 ?_); refine ⟨(_, _, _), rfl, ?_, ?_⟩)
          all_goals first | omega | exact .inl True.intro | exact e1 | exact e2.symm | exact e3.symm | exact e1' | trace_state
        · rw [if_neg hid] at e3
          by_cases hit : i = d
          · simp only [hit, false_and, and_true, and_false, true_and, Bool.false_eq_true, if_true, if_false] at e3
            subst hit
            (try (simp -implicitDefEqProofs only [go_sem, wrsD_len, onSome_wrs, wrsD_unif, hx, wrD_eq, wrC_eq, recsD_len, onSome_recs, recsD_unif, recD_eq, recC_eq, recsD_set, hr, hPo', hPo, hPs, t2.1, t2.2, e5, w1, w2, hie, q1])); repeat' first | with_reducible exact True.intro | with_reducible refine And.intro ?_ ?_ | with_reducible intro _ | (((with_reducible refine isCall ?_); first | refine call_s (c4) rfl (by simp [D.flat, D.flat1, D.prim]) ?_ | (refine call_m ([((900000, 0), (20, 0)), ((901000, 0), (10020, 0))]) ([((900000, 0), (20, 0)), ((901000, 0), (10020, 0))]) (c5) (by repeat' first | exact True.intro | exact rfl | refine And.intro ?_ ?_) (by simp [Handed, Ren.get, AObj.ren, AV.ren, AV.ren.renL, View.get, lookO, callF, newS, View.reach, AV.sites, AV.sites.sitesL, View.osites]) (by simp [namesOk, hasN, nodupB, Ren.get, newS, lim, upd]) (by rfl) (by simp only [backC, Ren.get, AObj.ren, AV.ren, AV.ren.renL, and_self, and_true, true_and, if_true, reduceIte]; rfl) ?_)) <;> try (simp -implicitDefEqProofs only [go_sem, wrsD_len, onSome_wrs, wrsD_unif, hx, wrD_eq, wrC_eq, recsD_len, onSome_recs, recsD_unif, recD_eq, recC_eq, recsD_set, hr, hPo', hPo, hPs, t2.1, t2.2, e5, w1, w2, hie, q1])) | (((with_reducible refine vc_b ?_ ?_) <;> intro _) <;> try (simp -implicitDefEqProofs only [go_sem, wrsD_len, onSome_wrs, wrsD_unif, hx, wrD_eq, wrC_eq, recsD_len, onSome_recs, recsD_unif, recD_eq, recC_eq, recsD_set, hr, hPo', hPo, hPs, t2.1, t2.2, e5, w1, w2, hie, q1])) | simp (disch := omega) only [wrapI, wrapU, shl1, shl1', shl1'', shrN, shrN', and_one] | ((with_reducible refine isEx3 ?_); refine ⟨(_, _, _), rfl, ?_, ?_⟩)
            all_goals first | omega | exact .inl True.intro | exact e1 | exact e2.symm | exact e3.symm | exact e1' | trace_state
          · simp only [hit, false_and, if_false] at e3
            (try (simp -implicitDefEqProofs only [go_sem, wrsD_len, onSome_wrs, wrsD_unif, hx, wrD_eq, wrC_eq, recsD_len, onSome_recs, recsD_unif, recD_eq, recC_eq, recsD_set, hr, hPo', hPo, hPs, t2.1, t2.2, e5, w1, w2, hie, q1, hid, hit])); repeat' first | with_reducible exact True.intro | with_reducible refine And.intro ?_ ?_ | with_reducible intro _ | (((with_reducible refine isCall ?_); first | refine call_s (c4) rfl (by simp [D.flat, D.flat1, D.prim]) ?_ | (refine call_m ([((900000, 0), (20, 0)), ((901000, 0), (10020, 0))]) ([((900000, 0), (20, 0)), ((901000, 0), (10020, 0))]) (c5) (by repeat' first | exact True.intro | exact rfl | refine And.intro ?_ ?_) (by simp [Handed, Ren.get, AObj.ren, AV.ren, AV.ren.renL, View.get, lookO, callF, newS, View.reach, AV.sites, AV.sites.sitesL, View.osites]) (by simp [namesOk, hasN, nodupB, Ren.get, newS, lim, upd]) (by rfl) (by simp only [backC, Ren.get, AObj.ren, AV.ren, AV.ren.renL, and_self, and_true, true_and, if_true, reduceIte]; rfl) ?_)) <;> try (simp -implicitDefEqProofs only [go_sem, wrsD_len, onSome_wrs, wrsD_unif, hx, wrD_eq, wrC_eq, recsD_len, onSome_recs, recsD_unif, recD_eq, recC_eq, recsD_set, hr, hPo', hPo, hPs, t2.1, t2.2, e5, w1, w2, hie, q1, hid, hit])) | (((with_reducible refine vc_b ?_ ?_) <;> intro _) <;> try (simp -implicitDefEqProofs only [go_sem, wrsD_len, onSome_wrs, wrsD_unif, hx, wrD_eq, wrC_eq, recsD_len, onSome_recs, recsD_unif, recD_eq, recC_eq, recsD_set, hr, hPo', hPo, hPs, t2.1, t2.2, e5, w1, w2, hie, q1, hid, hit])) | simp (disch := omega) only [wrapI, wrapU, shl1, shl1', shl1'', shrN, shrN', and_one] | ((with_reducible refine isEx3 ?_); refine ⟨(_, _, _), rfl, ?_, ?_⟩)
            all_goals first | omega | exact .inl True.intro | exact e1 | exact e2.symm | exact e3.symm | exact e1' | trace_state
      · have h9 := errN_step hE (show i.toNat < es.length by omega)
        rw [← q3, hx] at h9
        exact absurd h9 ha
    · have hi0 : i.toNat = es.length := by omega
      rw [hi0] at q4 q5
      have hd0 : ((d.toNat : Nat) : Int) = d := by omega
      have hcut : o = cutS l.slots es d.toNat false := by
        rw [q5, ← outN_end l.slots es d.toNat false es.length (by omega) (by intro h; cases h), hd0]
      rw [← hcut]
      (try (simp -implicitDefEqProofs only [go_sem, wrsD_len, recsD_len, logD_eq, logC_eq, GLog.setS, GLog.op, hie])); repeat' first | with_reducible exact True.intro | with_reducible refine And.intro ?_ ?_ | with_reducible intro _ | (((with_reducible refine vc_b ?_ ?_) <;> intro _) <;> try (simp -implicitDefEqProofs only [go_sem, wrsD_len, recsD_len, logD_eq, logC_eq, GLog.setS, GLog.op, hie])) | simp (disch := omega) only [wrapI, wrapU, shl1, shl1', shl1'', shrN, shrN', and_one] | ((with_reducible refine isEx3 ?_); refine ⟨(_, _, _), rfl, ?_, ?_⟩)
      all_goals first | omega | exact .inl True.intro | rfl | trace_state
end Go.Pw
end
section
open Go Go.Pw Go.Proofs
namespace Go.Pw
set_option linter.unusedSimpArgs false
set_option linter.unusedVariables false
set_option maxRecDepth 100000
set_option maxHeartbeats 3200000
def GLog.oneL (l : GLog) (x : GWr) : GLog := if appE l.blocks l.slots x = 0 then l.cpy.setS (putS l.slots x) else GLog.zero
theorem cpy_good' {l : GLog} (g : l.Good) : l.cpy.Good := by
  have s : Same l.disk l.cpy.disk := ⟨rfl, rfl, rfl⟩
  exact ⟨g.d, g.b1, g.b2, g.m1, g.m2, g.f1, (by rw [s.size]; exact g.f2), g.s⟩
attribute [local congr] cg_pw cg_seqI cg_seqE cg_stepI cg_ev cg_evBin cg_condB cg_condV cg_thenQ cg_blockQ cg_onSome cg_onCells cg_onRow cg_onMap cg_onOpt cg_ghosts cg_ghost cg_evCall cg_part cg_rng cg_guardV cg_frzV cg_frpV cg_ownV cg_owcV cg_occV cg_occX cg_resK cg_res1 cg_yldP cg_rndE cg_onlyN cg_onHist
attribute [local irreducible] IntKind.wrap bitsOp Option.getD and or

theorem own2_Copy (l : GLog) (hl : l.slots.length ≤ 1000) (hne : 0 < l.slots.length) (hz : l.disk.zones.length ≤ 1000) : CallM E0 F_ref16_Copy [(901000, 0, .row 40 5 false (recsD l.slots))] [logA l (.own 901000 0)] [(901000, 0, .row 40 5 false (recsD l.slots)), (12, 1, .row 40 5 false (recsD l.slots))] (logA l.cpy (.own 12 1)) := by
  have c1 := ref01_Copy_ret l.disk hz
  rw [diskD_eq, diskC_eq] at c1
  have hn : ¬ l.slots = [] := by intro h; rw [h] at hne; simp at hne
  unfold logA
  refine callM_of_pw dec_ref16_Copy mixed (by simp) (by simp [okV0, nodupB, lim, AObj.isHist]) (by simp [hasN]) fun hwf hwo => ?_
  rw [enterM_eq]; unfold pc_ref16_Copy
  (try (simp -implicitDefEqProofs only [go_sem, recsD_len, recsD_unif, recsD_eqnil, hn, GDisk.cp, GLog.cpy, diskD_eq, diskC_eq])); repeat' first | with_reducible exact True.intro | with_reducible refine And.intro ?_ ?_ | with_reducible intro _ | (((with_reducible refine isCall ?_); first | refine call_b (c1) rfl ?_ ?_ | refine call_d (c1) rfl ?_ | refine call_sb (c1) rfl ?_ ?_ | refine call_s (c1) rfl rfl ?_) <;> try (simp -implicitDefEqProofs only [go_sem, recsD_len, recsD_unif, recsD_eqnil, hn, GDisk.cp, GLog.cpy, diskD_eq, diskC_eq])) | (((with_reducible refine vc_b ?_ ?_) <;> intro _) <;> try (simp -implicitDefEqProofs only [go_sem, recsD_len, recsD_unif, recsD_eqnil, hn, GDisk.cp, GLog.cpy, diskD_eq, diskC_eq])) | simp (disch := omega) only [wrapI, wrapU, shl1, shl1', shl1'', shrN, shrN', and_one] 
  all_goals first | omega | rfl | trace_state

theorem ref16_one_ret (l : GLog) (g : l.Good) (x : GWr) : Ret E0 F_ref16_one [logD l, wrD x] (.tup [logD (l.oneL x), .int .i64 (appE l.blocks l.slots x)]) := by
  refine ret_of_pw dec_ref16_one mixed (by simp) fun hwf => ?_
  obtain ⟨n1, n2, n3⟩ := newest_good g
  have m1 := g.m1; have m2 := g.m2; have b1 := g.b1; have b2 := g.b2
  have z2 := (good_of g.d).z2
  have c1 := ref16_Newest_ret l
  have c2 := ref16_within_ret x.blk 0 (l.blocks - 1)
  have c3 := ref16_within_ret x.val 0 999
  have c4 := ref16_hasRoom_ret l g (l.newest.num + 1) (by omega)
  have c5 := own_Copy l (by omega) (by omega) (by omega)
  have hP : nxS l.slots = (((nwS l.slots).num + 1).tmod l.slots.length).toNat := rfl
  unfold GLog.oneL
  rw [newest_eq] at n1 n2 n3 c1 c4
  have t1 := tmod_range (n := (nwS l.slots).num + 1) (m := l.slots.length) (by omega) (by omega)
  have hR' : recS l.slots x = ⟨(nwS l.slots).num + 1, x.blk, x.val, x.tail, false⟩ := rfl
  have hps : putS l.slots x = l.slots.set (nxS l.slots) (recS l.slots x) := rfl
  rw [hps, hR']
  unfold appE entOk
  obtain ⟨⟨na, nb, nc, nd, ne⟩, hR⟩ : ∃ R, nwS l.slots = R := ⟨_, rfl⟩
  rw [hR] at c1 c4 n2 n3 hP t1 ⊢
  simp only at c1 c4 n2 n3 hP t1 ⊢
  have c6 := ref16_within_ret x.tail nd (na + 1)
  have w1 : IntKind.i64.wrap (na + 1) = na + 1 := wrapI _ (by omega)
  have w2 : IntKind.i64.wrap (l.blocks - 1) = l.blocks - 1 := wrapI _ (by omega)
  rw [enter_eq]; unfold pc_ref16_one
  cases hb : inZ x.blk 0 (l.blocks - 1) with
  | false =>
    rw [hb] at c2
    simp only [Bool.false_and, Bool.false_eq_true, if_false]
    rw [if_neg (by decide), zero_eq]
    (try (simp -implicitDefEqProofs only [go_sem, logD_eq, logC_eq, wrD_eq, wrC_eq, w1, w2])); repeat' first | with_reducible exact True.intro | with_reducible refine And.intro ?_ ?_ | with_reducible intro _ | (((with_reducible refine isCall ?_); first | refine call_b (c1) rfl ?_ ?_ | refine call_d (c1) rfl ?_ | refine call_sb (c1) rfl ?_ ?_ | refine call_s (c1) rfl rfl ?_ | refine call_b (c2) rfl ?_ ?_ | refine call_d (c2) rfl ?_ | refine call_sb (c2) rfl ?_ ?_ | refine call_s (c2) rfl rfl ?_) <;> try (simp -implicitDefEqProofs only [go_sem, logD_eq, logC_eq, wrD_eq, wrC_eq, w1, w2])) | (((with_reducible refine vc_b ?_ ?_) <;> intro _) <;> try (simp -implicitDefEqProofs only [go_sem, logD_eq, logC_eq, wrD_eq, wrC_eq, w1, w2])) | simp (disch := omega) only [wrapI, wrapU, shl1, shl1', shl1'', shrN, shrN', and_one] 
    all_goals first | omega | rfl | trace_state
  | true =>
    rw [hb] at c2
    cases hv : inZ x.val 0 999 with
    | false =>
      rw [hv] at c3
      simp only [Bool.false_and, Bool.and_false, Bool.true_and, Bool.false_eq_true, if_false]
      rw [if_neg (by decide), zero_eq]
      (try (simp -implicitDefEqProofs only [go_sem, logD_eq, logC_eq, wrD_eq, wrC_eq, w1, w2])); repeat' first | with_reducible exact True.intro | with_reducible refine And.intro ?_ ?_ | with_reducible intro _ | (((with_reducible refine isCall ?_); first | refine call_b (c1) rfl ?_ ?_ | refine call_d (c1) rfl ?_ | refine call_sb (c1) rfl ?_ ?_ | refine call_s (c1) rfl rfl ?_ | refine call_b (c2) rfl ?_ ?_ | refine call_d (c2) rfl ?_ | refine call_sb (c2) rfl ?_ ?_ | refine call_s (c2) rfl rfl ?_ | refine call_b (c3) rfl ?_ ?_ | refine call_d (c3) rfl ?_ | refine call_sb (c3) rfl ?_ ?_ | refine call_s (c3) rfl rfl ?_) <;> try (simp -implicitDefEqProofs only [go_sem, logD_eq, logC_eq, wrD_eq, wrC_eq, w1, w2])) | (((with_reducible refine vc_b ?_ ?_) <;> intro _) <;> try (simp -implicitDefEqProofs only [go_sem, logD_eq, logC_eq, wrD_eq, wrC_eq, w1, w2])) | simp (disch := omega) only [wrapI, wrapU, shl1, shl1', shl1'', shrN, shrN', and_one] 
      all_goals first | omega | rfl | trace_state
    | true =>
      rw [hv] at c3
      simp only [Bool.true_and]
      cases ht : inZ x.tail nd (na + 1) with
      | false =>
        rw [ht] at c6
        simp only [Bool.false_eq_true, if_false]
        rw [if_neg (by decide), zero_eq]
        (try (simp -implicitDefEqProofs only [go_sem, logD_eq, logC_eq, wrD_eq, wrC_eq, w1, w2])); repeat' first | with_reducible exact True.intro | with_reducible refine And.intro ?_ ?_ | with_reducible intro _ | (((with_reducible refine isCall ?_); first | refine call_b (c1) rfl ?_ ?_ | refine call_d (c1) rfl ?_ | refine call_sb (c1) rfl ?_ ?_ | refine call_s (c1) rfl rfl ?_ | refine call_b (c2) rfl ?_ ?_ | refine call_d (c2) rfl ?_ | refine call_sb (c2) rfl ?_ ?_ | refine call_s (c2) rfl rfl ?_ | refine call_b (c3) rfl ?_ ?_ | refine call_d (c3) rfl ?_ | refine call_sb (c3) rfl ?_ ?_ | refine call_s (c3) rfl rfl ?_ | refine call_b (c6) rfl ?_ ?_ | refine call_d (c6) rfl ?_ | refine call_sb (c6) rfl ?_ ?_ | refine call_s (c6) rfl rfl ?_) <;> try (simp -implicitDefEqProofs only [go_sem, logD_eq, logC_eq, wrD_eq, wrC_eq, w1, w2])) | (((with_reducible refine vc_b ?_ ?_) <;> intro _) <;> try (simp -implicitDefEqProofs only [go_sem, logD_eq, logC_eq, wrD_eq, wrC_eq, w1, w2])) | simp (disch := omega) only [wrapI, wrapU, shl1, shl1', shl1'', shrN, shrN', and_one] 
        all_goals first | omega | rfl | trace_state
      | true =>
        rw [ht] at c6
        simp only [if_true]
        by_cases hf : nd + (l.slots.length : Int) ≤ na + 1
        · rw [if_pos hf, if_neg (by decide), zero_eq]
          rw [decide_eq_false (by omega)] at c4
          (try (simp -implicitDefEqProofs only [go_sem, logD_eq, logC_eq, wrD_eq, wrC_eq, w1, w2])); repeat' first | with_reducible exact True.intro | with_reducible refine And.intro ?_ ?_ | with_reducible intro _ | (((with_reducible refine isCall ?_); first | refine call_b (c1) rfl ?_ ?_ | refine call_d (c1) rfl ?_ | refine call_sb (c1) rfl ?_ ?_ | refine call_s (c1) rfl rfl ?_ | refine call_b (c2) rfl ?_ ?_ | refine call_d (c2) rfl ?_ | refine call_sb (c2) rfl ?_ ?_ | refine call_s (c2) rfl rfl ?_ | refine call_b (c3) rfl ?_ ?_ | refine call_d (c3) rfl ?_ | refine call_sb (c3) rfl ?_ ?_ | refine call_s (c3) rfl rfl ?_ | refine call_b (c6) rfl ?_ ?_ | refine call_d (c6) rfl ?_ | refine call_sb (c6) rfl ?_ ?_ | refine call_s (c6) rfl rfl ?_ | refine call_b (c4) rfl ?_ ?_ | refine call_d (c4) rfl ?_ | refine call_sb (c4) rfl ?_ ?_ | refine call_s (c4) rfl rfl ?_) <;> try (simp -implicitDefEqProofs only [go_sem, logD_eq, logC_eq, wrD_eq, wrC_eq, w1, w2])) | (((with_reducible refine vc_b ?_ ?_) <;> intro _) <;> try (simp -implicitDefEqProofs only [go_sem, logD_eq, logC_eq, wrD_eq, wrC_eq, w1, w2])) | simp (disch := omega) only [wrapI, wrapU, shl1, shl1', shl1'', shrN, shrN', and_one] 
          all_goals first | omega | rfl | trace_state
        · rw [if_neg hf]
          rw [decide_eq_true (by omega)] at c4
          by_cases hm : 999 < na + 1
          · rw [if_pos hm, if_neg (by decide), zero_eq]
            (try (simp -implicitDefEqProofs only [go_sem, logD_eq, logC_eq, wrD_eq, wrC_eq, w1, w2, hm])); repeat' first | with_reducible exact True.intro | with_reducible refine And.intro ?_ ?_ | with_reducible intro _ | (((with_reducible refine isCall ?_); first | refine call_b (c1) rfl ?_ ?_ | refine call_d (c1) rfl ?_ | refine call_sb (c1) rfl ?_ ?_ | refine call_s (c1) rfl rfl ?_ | refine call_b (c2) rfl ?_ ?_ | refine call_d (c2) rfl ?_ | refine call_sb (c2) rfl ?_ ?_ | refine call_s (c2) rfl rfl ?_ | refine call_b (c3) rfl ?_ ?_ | refine call_d (c3) rfl ?_ | refine call_sb (c3) rfl ?_ ?_ | refine call_s (c3) rfl rfl ?_ | refine call_b (c6) rfl ?_ ?_ | refine call_d (c6) rfl ?_ | refine call_sb (c6) rfl ?_ ?_ | refine call_s (c6) rfl rfl ?_ | refine call_b (c4) rfl ?_ ?_ | refine call_d (c4) rfl ?_ | refine call_sb (c4) rfl ?_ ?_ | refine call_s (c4) rfl rfl ?_) <;> try (simp -implicitDefEqProofs only [go_sem, logD_eq, logC_eq, wrD_eq, wrC_eq, w1, w2, hm])) | (((with_reducible refine vc_b ?_ ?_) <;> intro _) <;> try (simp -implicitDefEqProofs only [go_sem, logD_eq, logC_eq, wrD_eq, wrC_eq, w1, w2, hm])) | simp (disch := omega) only [wrapI, wrapU, shl1, shl1', shl1'', shrN, shrN', and_one] 
            all_goals first | omega | rfl | trace_state
          · rw [if_neg hm, if_pos rfl]
            have hPl := t1.1
            rw [← hP] at hPl
            obtain ⟨P, hPP⟩ : ∃ P, nxS l.slots = P := ⟨_, rfl⟩
            rw [hPP] at hP hPl ⊢
            have e5 : ¬ (l.slots.length : Int) = 0 := by omega
            have t2 : 0 ≤ (na + 1).tmod l.slots.length ∧ (na + 1).tmod l.slots.length < l.slots.length := by omega
            unfold logA at c5
            rw [logD_eq, logC_eq] at c5
            simp only [GLog.cpy, GDisk.cp] at c5
            (try (simp -implicitDefEqProofs only [go_sem, logD_eq, logC_eq, wrD_eq, wrC_eq, w1, w2, hm, recsD_len, onSome_recs, recsD_unif, recD_eq, recC_eq, recsD_set, hP.symm, hPl, e5, t2.1, t2.2, GLog.setS, GLog.cpy, GDisk.cp])); repeat' first | with_reducible exact True.intro | with_reducible refine And.intro ?_ ?_ | with_reducible intro _ | (((with_reducible refine isCall ?_); first | refine call_b (c1) rfl ?_ ?_ | refine call_d (c1) rfl ?_ | refine call_sb (c1) rfl ?_ ?_ | refine call_s (c1) rfl rfl ?_ | refine call_b (c2) rfl ?_ ?_ | refine call_d (c2) rfl ?_ | refine call_sb (c2) rfl ?_ ?_ | refine call_s (c2) rfl rfl ?_ | refine call_b (c3) rfl ?_ ?_ | refine call_d (c3) rfl ?_ | refine call_sb (c3) rfl ?_ ?_ | refine call_s (c3) rfl rfl ?_ | refine call_b (c6) rfl ?_ ?_ | refine call_d (c6) rfl ?_ | refine call_sb (c6) rfl ?_ ?_ | refine call_s (c6) rfl rfl ?_ | refine call_b (c4) rfl ?_ ?_ | refine call_d (c4) rfl ?_ | refine call_sb (c4) rfl ?_ ?_ | refine call_s (c4) rfl rfl ?_ | (refine call_m ([]) ([((12, 1), (47, 0))]) (c5) (by repeat' first | exact True.intro | exact rfl | refine And.intro ?_ ?_) (by simp [Handed, Ren.get, AObj.ren, AV.ren, AV.ren.renL, View.get, lookO, callF, newS, View.reach, AV.sites, AV.sites.sitesL, View.osites]) (by simp [namesOk, hasN, nodupB, Ren.get, newS, lim, upd]) (by rfl) (by simp only [backC, Ren.get, AObj.ren, AV.ren, AV.ren.renL, and_self, and_true, true_and, if_true, reduceIte]; rfl) ?_)) <;> try (simp -implicitDefEqProofs only [go_sem, logD_eq, logC_eq, wrD_eq, wrC_eq, w1, w2, hm, recsD_len, onSome_recs, recsD_unif, recD_eq, recC_eq, recsD_set, hP.symm, hPl, e5, t2.1, t2.2, GLog.setS, GLog.cpy, GDisk.cp])) | (((with_reducible refine vc_b ?_ ?_) <;> intro _) <;> try (simp -implicitDefEqProofs only [go_sem, logD_eq, logC_eq, wrD_eq, wrC_eq, w1, w2, hm, recsD_len, onSome_recs, recsD_unif, recD_eq, recC_eq, recsD_set, hP.symm, hPl, e5, t2.1, t2.2, GLog.setS, GLog.cpy, GDisk.cp])) | simp (disch := omega) only [wrapI, wrapU, shl1, shl1', shl1'', shrN, shrN', and_one] 
            all_goals first | omega | rfl | exact .inl True.intro | trace_state

theorem own_one (l : GLog) (g : l.Good) (x : GWr) (h : appE l.blocks l.slots x = 0) : CallM E0 F_ref16_one [(901000, 0, .row 40 5 false (recsD l.slots))] [logA l (.own 901000 0), .d (wrD x)] [(901000, 0, .row 40 5 false (recsD l.slots)), (47, 1, .row 40 5 false (recsD (putS l.slots x)))] (.tup [logA l.cpy (.own 47 1), .d (.int .i64 0)]) := by
  obtain ⟨a1, a2, a3, a4, a5⟩ := appE_0 h
  obtain ⟨n1, n2, n3⟩ := newest_good g
  have m1 := g.m1; have m2 := g.m2; have b1 := g.b1; have b2 := g.b2
  have z2 := (good_of g.d).z2
  have c1 := ref16_Newest_ret l.ns
  have c2 := ref16_within_ret x.blk 0 (l.blocks - 1)
  have c3 := ref16_within_ret x.val 0 999
  have c4 := ref16_hasRoom_ret l.ns (ns_good g) (l.newest.num + 1) (by omega)
  have c5 := own2_Copy l (by omega) (by omega) (by omega)
  have hP : nxS l.slots = (((nwS l.slots).num + 1).tmod l.slots.length).toNat := rfl
  have hR' : recS l.slots x = ⟨(nwS l.slots).num + 1, x.blk, x.val, x.tail, false⟩ := rfl
  have hps : putS l.slots x = l.slots.set (nxS l.slots) (recS l.slots x) := rfl
  have hns : l.ns.newest = nwS l.slots := rfl
  have hnl : l.ns.slots.length = l.slots.length := rfl
  rw [hns] at c1 c4
  rw [hnl] at c4
  rw [newest_eq] at n1 n2 n3 c4
  have t1 := tmod_range (n := (nwS l.slots).num + 1) (m := l.slots.length) (by omega) (by omega)
  rw [hps, hR']
  obtain ⟨⟨na, nb, nc, nd, ne⟩, hR⟩ : ∃ R, nwS l.slots = R := ⟨_, rfl⟩
  rw [hR] at c1 c4 n2 n3 hP t1 a3 a4 a5 ⊢
  simp only at c1 c4 n2 n3 hP t1 a3 a4 a5 ⊢
  have c6 := ref16_within_ret x.tail nd (na + 1)
  rw [inZ_iff.2 a1] at c2
  rw [inZ_iff.2 a2] at c3
  rw [inZ_iff.2 a3] at c6
  rw [decide_eq_true (by omega), logD_eq, ns_C] at c4
  rw [logD_eq, ns_C] at c1
  have w1 : IntKind.i64.wrap (na + 1) = na + 1 := wrapI _ (by omega)
  have w2 : IntKind.i64.wrap (l.blocks - 1) = l.blocks - 1 := wrapI _ (by omega)
  have hm : ¬ 999 < na + 1 := by omega
  have hPl := t1.1
  rw [← hP] at hPl
  obtain ⟨P, hPP⟩ : ∃ P, nxS l.slots = P := ⟨_, rfl⟩
  rw [hPP] at hP hPl ⊢
  have e5 : ¬ (l.slots.length : Int) = 0 := by omega
  have t2 : 0 ≤ (na + 1).tmod l.slots.length ∧ (na + 1).tmod l.slots.length < l.slots.length := by omega
  unfold logA at c5 ⊢
  simp only [GLog.cpy, GDisk.cp] at c5 ⊢
  refine callM_of_pw dec_ref16_one mixed (by simp) (by simp [okV0, nodupB, lim, AObj.isHist]) (by simp [hasN]) fun hwf hwo => ?_
  rw [enterM_eq]; unfold pc_ref16_one
  (try (simp -implicitDefEqProofs only [go_sem, wrD_eq, wrC_eq, w1, w2, hm, recsD_len, onSome_recs, recsD_unif, recD_eq, recC_eq, recsD_set, hP.symm, hPl, e5, t2.1, t2.2])); repeat' first | with_reducible exact True.intro | with_reducible refine And.intro ?_ ?_ | with_reducible intro _ | (((with_reducible refine isCall ?_); first | refine call_s (c1) rfl (by simp [D.flat, D.flat1, D.prim]) ?_ | refine call_b (c2) rfl ?_ ?_ | refine call_d (c2) rfl ?_ | refine call_sb (c2) rfl ?_ ?_ | refine call_s (c2) rfl rfl ?_ | refine call_b (c3) rfl ?_ ?_ | refine call_d (c3) rfl ?_ | refine call_sb (c3) rfl ?_ ?_ | refine call_s (c3) rfl rfl ?_ | refine call_b (c6) rfl ?_ ?_ | refine call_d (c6) rfl ?_ | refine call_sb (c6) rfl ?_ ?_ | refine call_s (c6) rfl rfl ?_ | refine call_b (c4) rfl ?_ ?_ | refine call_d (c4) rfl ?_ | refine call_sb (c4) rfl ?_ ?_ | refine call_s (c4) rfl rfl ?_ | (refine call_m ([((901000, 0), (901000, 0))]) ([((901000, 0), (901000, 0)), ((12, 1), (47, 1))]) (c5) (by repeat' first | exact True.intro | exact rfl | refine And.intro ?_ ?_) (by simp [Handed, Ren.get, AObj.ren, AV.ren, AV.ren.renL, View.get, lookO, callF, newS, View.reach, AV.sites, AV.sites.sitesL, View.osites]) (by simp [namesOk, hasN, nodupB, Ren.get, newS, lim, upd]) (by rfl) (by simp only [backC, Ren.get, AObj.ren, AV.ren, AV.ren.renL, and_self, and_true, true_and, if_true, reduceIte]; rfl) ?_)) <;> try (simp -implicitDefEqProofs only [go_sem, wrD_eq, wrC_eq, w1, w2, hm, recsD_len, onSome_recs, recsD_unif, recD_eq, recC_eq, recsD_set, hP.symm, hPl, e5, t2.1, t2.2])) | (((with_reducible refine vc_b ?_ ?_) <;> intro _) <;> try (simp -implicitDefEqProofs only [go_sem, wrD_eq, wrC_eq, w1, w2, hm, recsD_len, onSome_recs, recsD_unif, recD_eq, recC_eq, recsD_set, hP.symm, hPl, e5, t2.1, t2.2])) | simp (disch := omega) only [wrapI, wrapU, shl1, shl1', shl1'', shrN, shrN', and_one] 
  all_goals first | omega | rfl | exact .inl True.intro | trace_state

def GLog.allL (l : GLog) (es : List GWr) : GLog := if errN l.blocks l.slots es es.length = 0 then l.cpy.setS (putN l.slots es es.length) else GLog.zero
theorem ref16_all_ret (l : GLog) (g : l.Good) (nw : Bool) (es : List GWr) : Ret E0 F_ref16_all [logD l, .list nw (wrsD es)] (.tup [logD (l.allL es), .int .i64 (errN l.blocks l.slots es es.length)]) := by
  refine ret_of_pw dec_ref16_all mixed (by simp) fun hwf => ?_
  simp only [wf_int, wf_bool, wf_ints, wf_list, wf_agg, wf_ptr, wf_fn, wf_tup, wf_all_cons, wf_all_nil, wf_all_map, inK_i64, maxLen_eq, List.length_map, ints_len, true_and, and_true, logC_eq, recsD_len, wrsD_len, zpsD_len] at hwf
  have m2 := g.m2
  have z2 := (good_of g.d).z2
  have gc := cpy_good' g
  have c1 := ref16_Copy_ret l (by omega) (by omega)
  unfold GLog.allL
  rw [enter_eq]; unfold pc_ref16_all
  (try (simp -implicitDefEqProofs only [go_sem, logD_eq, logC_eq, GLog.cpy, GDisk.cp])); repeat' first | with_reducible exact True.intro | with_reducible refine And.intro ?_ ?_ | with_reducible intro _ | (((with_reducible refine isCall ?_); first | refine call_b (c1) rfl ?_ ?_ | refine call_d (c1) rfl ?_ | refine call_sb (c1) rfl ?_ ?_ | refine call_s (c1) rfl rfl ?_) <;> try (simp -implicitDefEqProofs only [go_sem, logD_eq, logC_eq, GLog.cpy, GDisk.cp])) | (((with_reducible refine vc_b ?_ ?_) <;> intro _) <;> try (simp -implicitDefEqProofs only [go_sem, logD_eq, logC_eq, GLog.cpy, GDisk.cp])) | simp (disch := omega) only [wrapI, wrapU, shl1, shl1', shl1'', shrN, shrN', and_one] | ((with_reducible refine isEx2 ?_); refine ⟨(_, _), rfl, ?_, ?_⟩)
  all_goals (try omega)
  refine pw_loopS (α := Int × (List GRec)) (l0 := ?l1) (m0 := ?m1) (fun x => [(7, .d (.int .i64 x.1))]) (fun x => [(6, .cells [.d (.int .i64 l.disk.heads), .d (.int .i64 l.disk.turn), .d (.list false (zpsD l.disk.zones)), .d (.int .i64 l.disk.hskew), .d (.int .i64 l.disk.cskew), .d (.int .i64 l.disk.hlo), .d (.int .i64 l.disk.hhi), .d (.int .i64 l.disk.clo), .d (.int .i64 l.disk.chi), .d (.int .i64 l.blocks), .d (.int .i64 l.from'), .d (.list false (recsD x.2))])]) (fun x => (0 ≤ x.1 ∧ x.1 ≤ es.length) ∧ x.2 = putN l.slots es x.1.toNat ∧ errN l.blocks l.slots es x.1.toNat = 0) (fun x => (es.length - x.1).toNat) (?a1_0, ?a1_1) ?h01 ?he1 ?he21 ?hI1 ?step1
  case h01 => (simp -implicitDefEqProofs only [go_sem, recsD_len, wrsD_len]; rfl)
  case he1 => rfl
  case he21 => rfl
  case' step1 => (rintro ⟨i, s⟩ hI; try dsimp only at hI)
  case' hI1 => try dsimp only
  · exact ⟨⟨by omega, by omega⟩, rfl, rfl⟩
  · obtain ⟨⟨q1, q2⟩, q3, q4⟩ := hI
    by_cases hi : i < es.length
    · have w1 : IntKind.i64.wrap (i + 1) = i + 1 := wrapI _ (by omega)
      have e1 := errN_next l.blocks l.slots es i q1 q4
      have e2 := putN_next l.slots es i q1
      obtain ⟨x, hx⟩ : ∃ x, es[i.toNat]?.getD default = x := ⟨_, rfl⟩
      rw [hx, ← q3] at e1 e2
      have gs : (l.cpy.setS s).Good := by rw [q3]; exact putN_good (l := l.cpy) gc es i.toNat q4
      have c2 := ref16_one_ret (l.cpy.setS s) gs x
      have hE1 : appE (l.cpy.setS s).blocks (l.cpy.setS s).slots x = appE l.blocks s x := rfl
      have hlc : logC (l.cpy.setS s) = [.int .i64 l.disk.heads, .int .i64 l.disk.turn, .list false (zpsD l.disk.zones), .int .i64 l.disk.hskew, .int .i64 l.disk.cskew, .int .i64 l.disk.hlo, .int .i64 l.disk.hhi, .int .i64 l.disk.clo, .int .i64 l.disk.chi, .int .i64 l.blocks, .int .i64 l.from', .list false (recsD s)] := rfl
      unfold GLog.oneL at c2
      rw [hE1] at c2
      by_cases ha : appE l.blocks s x = 0
      · rw [ha] at e1
        have hl2 : logC ((l.cpy.setS s).cpy.setS (putS (l.cpy.setS s).slots x)) = [.int .i64 l.disk.heads, .int .i64 l.disk.turn, .list false (zpsD l.disk.zones), .int .i64 l.disk.hskew, .int .i64 l.disk.cskew, .int .i64 l.disk.hlo, .int .i64 l.disk.hhi, .int .i64 l.disk.clo, .int .i64 l.disk.chi, .int .i64 l.blocks, .int .i64 l.from', .list false (recsD (putS s x))] := rfl
        rw [ha, if_pos rfl, logD_eq, logD_eq, hlc, hl2] at c2
        (try (simp -implicitDefEqProofs only [go_sem, wrsD_len, onSome_wrs, wrsD_unif, wrD_eq, wrC_eq, hx, hi, q1, w1])); repeat' first | with_reducible exact True.intro | with_reducible refine And.intro ?_ ?_ | with_reducible intro _ | (((with_reducible refine isCall ?_); first | refine call_b (c2) rfl ?_ ?_ | refine call_d (c2) rfl ?_ | refine call_sb (c2) rfl ?_ ?_ | refine call_s (c2) rfl rfl ?_) <;> try (simp -implicitDefEqProofs only [go_sem, wrsD_len, onSome_wrs, wrsD_unif, wrD_eq, wrC_eq, hx, hi, q1, w1])) | (((with_reducible refine vc_b ?_ ?_) <;> intro _) <;> try (simp -implicitDefEqProofs only [go_sem, wrsD_len, onSome_wrs, wrsD_unif, wrD_eq, wrC_eq, hx, hi, q1, w1])) | simp (disch := omega) only [wrapI, wrapU, shl1, shl1', shl1'', shrN, shrN', and_one] | ((with_reducible refine isEx2 ?_); refine ⟨(_, _), rfl, ?_, ?_⟩)
        all_goals first | omega | exact e1 | exact e2.symm | trace_state
      · have hE : errN l.blocks l.slots es es.length = appE l.blocks s x := by
          rw [← e1]; exact errN_mono (by rw [e1]; exact ha) _ (by omega)
        rw [hE, if_neg ha, zero_eq]
        rw [if_neg ha, logD_eq (l.cpy.setS s), hlc, zero_eq] at c2
        (try (simp -implicitDefEqProofs only [go_sem, wrsD_len, onSome_wrs, wrsD_unif, wrD_eq, wrC_eq, hx, hi, q1, w1, ha])); repeat' first | with_reducible exact True.intro | with_reducible refine And.intro ?_ ?_ | with_reducible intro _ | (((with_reducible refine isCall ?_); first | refine call_b (c2) rfl ?_ ?_ | refine call_d (c2) rfl ?_ | refine call_sb (c2) rfl ?_ ?_ | refine call_s (c2) rfl rfl ?_) <;> try (simp -implicitDefEqProofs only [go_sem, wrsD_len, onSome_wrs, wrsD_unif, wrD_eq, wrC_eq, hx, hi, q1, w1, ha])) | (((with_reducible refine vc_b ?_ ?_) <;> intro _) <;> try (simp -implicitDefEqProofs only [go_sem, wrsD_len, onSome_wrs, wrsD_unif, wrD_eq, wrC_eq, hx, hi, q1, w1, ha])) | simp (disch := omega) only [wrapI, wrapU, shl1, shl1', shl1'', shrN, shrN', and_one] | ((with_reducible refine isEx2 ?_); refine ⟨(_, _), rfl, ?_, ?_⟩)
        all_goals first | omega | rfl | trace_state
    · have hie : i.toNat = es.length := by omega
      rw [hie] at q3 q4
      rw [q4, if_pos rfl, ← q3]
      (try (simp -implicitDefEqProofs only [go_sem, wrsD_len, hi, logD_eq, logC_eq, GLog.setS, GLog.cpy, GDisk.cp])); repeat' first | with_reducible exact True.intro | with_reducible refine And.intro ?_ ?_ | with_reducible intro _ | (((with_reducible refine vc_b ?_ ?_) <;> intro _) <;> try (simp -implicitDefEqProofs only [go_sem, wrsD_len, hi, logD_eq, logC_eq, GLog.setS, GLog.cpy, GDisk.cp])) | simp (disch := omega) only [wrapI, wrapU, shl1, shl1', shl1'', shrN, shrN', and_one] | ((with_reducible refine isEx2 ?_); refine ⟨(_, _), rfl, ?_, ?_⟩)
      all_goals first | omega | rfl | trace_state
end Go.Pw
end
