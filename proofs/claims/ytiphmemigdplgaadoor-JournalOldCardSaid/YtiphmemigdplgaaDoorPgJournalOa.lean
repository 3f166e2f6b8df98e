/- A part of the proof. -/
import Derived.Test.YtiphmemigdplgaaDoorJournalSpec3
import Derived.Test.YtiphmemigdplgaaDoorJournalI
set_option linter.all false
section
open Go Go.Pw Go.Proofs
namespace Go.Pw
set_option linter.unusedSimpArgs false
set_option linter.unusedVariables false
set_option maxRecDepth 100000
set_option maxHeartbeats 3200000
/-- A log whose slots are a row of our own. -/
def logA (l : GLog) (x : AV) : AV := .agg [.d (.int .i64 l.disk.heads), .d (.int .i64 l.disk.turn), .d (.list l.disk.zn (zpsD l.disk.zones)), .d (.int .i64 l.disk.hskew), .d (.int .i64 l.disk.cskew), .d (.int .i64 l.disk.hlo), .d (.int .i64 l.disk.hhi), .d (.int .i64 l.disk.clo), .d (.int .i64 l.disk.chi), .d (.int .i64 l.blocks), .d (.int .i64 l.from'), x]
attribute [local congr] cg_pw cg_seqI cg_seqE cg_stepI cg_ev cg_evBin cg_condB cg_condV cg_thenQ cg_blockQ cg_onSome cg_onCells cg_onRow cg_onMap cg_onOpt cg_ghosts cg_ghost cg_evCall cg_part cg_rng cg_guardV cg_frzV cg_frpV cg_ownV cg_owcV cg_occV cg_occX cg_resK cg_res1 cg_yldP cg_rndE cg_onlyN cg_onHist
attribute [local irreducible] IntKind.wrap bitsOp Option.getD and or

theorem own_Copy (l : GLog) (hl : l.slots.length ≤ 1000) (hne : 0 < l.slots.length) (hz : l.disk.zones.length ≤ 1000) : CallM E0 F_ref16_Copy [] [.d (logD l)] [(12, 1, .row 40 5 false (recsD l.slots))] (logA l.cpy (.own 12 1)) := by
  have c1 := ref01_Copy_ret l.disk hz
  rw [diskD_eq, diskC_eq] at c1
  have hn : ¬ l.slots = [] := by intro h; rw [h] at hne; simp at hne
  unfold logA
  refine callM_of_pw dec_ref16_Copy mixed (by simp) (by simp [okV0, nodupB, lim, AObj.isHist]) (by simp [hasN]) fun hwf hwo => ?_
  rw [enterM_eq]; unfold pc_ref16_Copy
  (try (simp -implicitDefEqProofs only [go_sem, logD_eq, logC_eq, recsD_len, recsD_unif, recsD_eqnil, hn, GDisk.cp, GLog.cpy, diskD_eq, diskC_eq])); repeat' first | with_reducible exact True.intro | with_reducible refine And.intro ?_ ?_ | with_reducible intro _ | (((with_reducible refine isCall ?_); first | refine call_b (c1) rfl ?_ ?_ | refine call_d (c1) rfl ?_ | refine call_sb (c1) rfl ?_ ?_ | refine call_s (c1) rfl rfl ?_) <;> try (simp -implicitDefEqProofs only [go_sem, logD_eq, logC_eq, recsD_len, recsD_unif, recsD_eqnil, hn, GDisk.cp, GLog.cpy, diskD_eq, diskC_eq])) | (((with_reducible refine vc_b ?_ ?_) <;> intro _) <;> try (simp -implicitDefEqProofs only [go_sem, logD_eq, logC_eq, recsD_len, recsD_unif, recsD_eqnil, hn, GDisk.cp, GLog.cpy, diskD_eq, diskC_eq])) | simp (disch := omega) only [wrapI, wrapU, shl1, shl1', shl1'', shrN, shrN', and_one] 
  all_goals first | omega | rfl | trace_state

theorem own2_open (l : GLog) (h : l.openE = 0) (hz : l.disk.zn = true → l.disk.zones = []) : CallM E0 F_journal_open [(901000, 0, .row 40 5 false (recsD l.slots))] [logA l (.own 901000 0)]
    [(901000, 0, .row 40 5 false (recsD l.slots)), (15, 1, .cells [.d (.int .i64 l.op.disk.heads), .d (.int .i64 l.op.disk.turn), .d (.list l.op.disk.zn (zpsD l.op.disk.zones)), .d (.int .i64 l.op.disk.hskew), .d (.int .i64 l.op.disk.cskew), .d (.int .i64 l.op.disk.hlo), .d (.int .i64 l.op.disk.hhi), .d (.int .i64 l.op.disk.clo), .d (.int .i64 l.op.disk.chi), .d (.int .i64 l.op.blocks), .d (.int .i64 l.op.from'), .own 19 1]), (19, 1, .row 40 5 false (recsD l.slots))] (.tup [.ptr 15 1 0, .d (.int .i64 0)]) := by
  obtain ⟨hc, hf⟩ := openE_0 h
  have g := check_good hc
  have c1 := journal_Check_ret l.ns
  rw [ns_check, hc] at c1
  have m1 := g.m1; have m2 := g.m2
  have z2 := (good_of g.d).z2
  have c2 := Clone_own_own l.slots (by omega) (by omega)
  have c3 := Clone_zone_ret l.disk.zn l.disk.zones (by omega) hz
  have c4 := own_kept l.op (op_good g) (show l.op.full = true from (whole_congr (l := l) (k := l.op) fun _ _ => rfl).trans hf)
  unfold logV at c4
  generalize l.op.kept = kk at c4
  dsimp only [GLog.op] at c4
  rw [logD_eq, ns_C] at c1
  unfold logA
  refine callM_of_pw ded_journal_open mixed (by simp) (by simp [okV0, nodupB, lim, AObj.isHist]) (by simp [hasN]) fun hwf hwo => ?_
  rw [enterM_eq]; unfold pd_journal_open
  (try (simp -implicitDefEqProofs only [go_sem, GLog.op])); repeat' first | with_reducible exact True.intro | with_reducible refine And.intro ?_ ?_ | with_reducible intro _ | (((with_reducible refine isCall ?_); first | refine call_b (c1) rfl ?_ ?_ | refine call_d (c1) rfl ?_ | refine call_sb (c1) rfl ?_ ?_ | refine call_s (c1) rfl rfl ?_ | (refine call_m ([((900000, 0), (901000, 0))]) ([((900000, 0), (901000, 0)), ((7, 1), (19, 1))]) (c2) (by repeat' first | exact True.intro | exact rfl | refine And.intro ?_ ?_) (by simp [Handed, Ren.get, AObj.ren, AV.ren, AV.ren.renL, View.get, lookO, callF, newS, View.reach, AV.sites, AV.sites.sitesL, View.osites]) (by simp [namesOk, hasN, nodupB, Ren.get, newS, lim, upd]) (by rfl) (by simp only [backC, Ren.get, AObj.ren, AV.ren, AV.ren.renL, and_self, and_true, true_and, if_true, reduceIte]; rfl) ?_) | refine call_b (c3) rfl ?_ ?_ | refine call_d (c3) rfl ?_ | refine call_sb (c3) rfl ?_ ?_ | refine call_s (c3) rfl rfl ?_ | (refine call_m ([((900000, 0), (15, 1)), ((901000, 0), (19, 1))]) ([((900000, 0), (15, 1)), ((901000, 0), (19, 1))]) (c4) (by repeat' first | exact True.intro | exact rfl | refine And.intro ?_ ?_) (by simp [Handed, Ren.get, AObj.ren, AV.ren, AV.ren.renL, View.get, lookO, callF, newS, View.reach, AV.sites, AV.sites.sitesL, View.osites]) (by simp [namesOk, hasN, nodupB, Ren.get, newS, lim, upd]) (by rfl) (by simp only [backC, Ren.get, AObj.ren, AV.ren, AV.ren.renL, and_self, and_true, true_and, if_true, reduceIte]; rfl) ?_)) <;> try (simp -implicitDefEqProofs only [go_sem, GLog.op])) | (((with_reducible refine vc_b ?_ ?_) <;> intro _) <;> try (simp -implicitDefEqProofs only [go_sem, GLog.op])) | simp (disch := omega) only [wrapI, wrapU, shl1, shl1', shl1'', shrN, shrN', and_one] 
  all_goals first | omega | rfl | trace_state

theorem own_Recover (l : GLog) (h : l.openE = 0) (hz : l.disk.zn = true → l.disk.zones = []) : CallM E0 F_journal_Recover [(901000, 0, .row 40 5 false (recsD l.slots))] [logA l (.own 901000 0)]
    [(901000, 0, .row 40 5 false (recsD l.slots))] (.tup [.d (.list l.kept.isEmpty (recsD l.kept)), .d (.int .i64 0)]) := by
  obtain ⟨hc, hf⟩ := openE_0 h
  have g := check_good hc
  have c1 := own2_open l h hz
  have c4 := own_kept l.op (op_good g) (show l.op.full = true from (whole_congr (l := l) (k := l.op) fun _ _ => rfl).trans hf)
  have hk : l.op.kept = l.kept := keptN_congr fun _ _ => rfl
  rw [hk] at c4
  unfold logV at c4
  dsimp only [GLog.op] at c1 c4
  unfold logA at *
  refine callM_of_pw dec_journal_Recover mixed (by simp) (by simp [okV0, nodupB, lim, AObj.isHist]) (by simp [hasN]) fun hwf hwo => ?_
  rw [enterM_eq]; unfold pc_journal_Recover
  (try (simp -implicitDefEqProofs only [go_sem])); repeat' first | with_reducible exact True.intro | with_reducible refine And.intro ?_ ?_ | with_reducible intro _ | (((with_reducible refine isCall ?_); first | (refine call_m ([((901000, 0), (901000, 0))]) ([((901000, 0), (901000, 0)), ((15, 1), (10, 1)), ((19, 1), (10010, 1))]) (c1) (by repeat' first | exact True.intro | exact rfl | refine And.intro ?_ ?_) (by simp [Handed, Ren.get, AObj.ren, AV.ren, AV.ren.renL, View.get, lookO, callF, newS, View.reach, AV.sites, AV.sites.sitesL, View.osites]) (by simp [namesOk, hasN, nodupB, Ren.get, newS, lim, upd]) (by rfl) (by simp only [backC, Ren.get, AObj.ren, AV.ren, AV.ren.renL, and_self, and_true, true_and, if_true, reduceIte]; rfl) ?_) | (refine call_m ([((900000, 0), (10, 1)), ((901000, 0), (10010, 1))]) ([((900000, 0), (10, 1)), ((901000, 0), (10010, 1))]) (c4) (by repeat' first | exact True.intro | exact rfl | refine And.intro ?_ ?_) (by simp [Handed, Ren.get, AObj.ren, AV.ren, AV.ren.renL, View.get, lookO, callF, newS, View.reach, AV.sites, AV.sites.sitesL, View.osites]) (by simp [namesOk, hasN, nodupB, Ren.get, newS, lim, upd]) (by rfl) (by simp only [backC, Ren.get, AObj.ren, AV.ren, AV.ren.renL, and_self, and_true, true_and, if_true, reduceIte]; rfl) ?_)) <;> try (simp -implicitDefEqProofs only [go_sem])) | (((with_reducible refine vc_b ?_ ?_) <;> intro _) <;> try (simp -implicitDefEqProofs only [go_sem])) | simp (disch := omega) only [wrapI, wrapU, shl1, shl1', shl1'', shrN, shrN', and_one] 
  all_goals trace_state

theorem own_Cut (l : GLog) (he : l.openE = 0) (hs : l.sn = true → l.slots = []) (hz : l.disk.zn = true → l.disk.zones = []) (nw : Bool) (es : List GWr) (hlw : es.length ≤ 1000) (hE : errN l.blocks l.slots es es.length = 0) :
    CallM E0 F_journal_Cut [] [.d (logD l), .d (.list nw (wrsD es)), .d (.int .i64 es.length), .d (.bool false)] [(47, 0, .row 40 5 false (recsD (cutS l.slots es es.length false)))] (.tup [logA l.op (.own 47 0), .d (.int .i64 0)]) := by
  obtain ⟨hc, hf⟩ := openE_0 he
  have g := check_good hc
  have gop := op_good g
  have m1 := g.m1; have m2 := g.m2
  have c1 := own_open l he hs hz
  have c3 := Clone_own_own l.slots (by omega) (by omega)
  obtain ⟨d, hd0⟩ : ∃ d : Int, d = es.length := ⟨_, rfl⟩
  have hd : 0 ≤ d ∧ d ≤ es.length := by omega
  have c2 := journal_to_ret d es.length
  have hi : inZ d 0 es.length = true := inZ_iff.2 hd
  unfold logA
  rw [show cutS l.slots es es.length false = cutS l.slots es d.toNat false by rw [hd0]; rfl, ← hd0]
  refine callM_of_pw dec_journal_Cut mixed (by simp) (by simp [okV0, nodupB, lim, AObj.isHist]) (by simp [hasN]) fun hwf hwo => ?_

  rw [hi] at c2
  have c4 := fun s => ns_newest (l.op.setS s)
  rw [enterM_eq]; unfold pc_journal_Cut
  (try (simp -implicitDefEqProofs only [go_sem, logD_eq, logC_eq, GLog.op, wrsD_len])); repeat' first | with_reducible exact True.intro | with_reducible refine And.intro ?_ ?_ | with_reducible intro _ | (((with_reducible refine isCall ?_); first | (refine call_m ([]) ([((15, 1), (20, 1)), ((19, 1), (10020, 1))]) (c1) (by repeat' first | exact True.intro | exact rfl | refine And.intro ?_ ?_) (by simp [Handed, Ren.get, AObj.ren, AV.ren, AV.ren.renL, View.get, lookO, callF, newS, View.reach, AV.sites, AV.sites.sitesL, View.osites]) (by simp [namesOk, hasN, nodupB, Ren.get, newS, lim, upd]) (by rfl) (by simp only [backC, Ren.get, AObj.ren, AV.ren, AV.ren.renL, and_self, and_true, true_and, if_true, reduceIte]; rfl) ?_) | refine call_b (c2) rfl ?_ ?_ | refine call_d (c2) rfl ?_ | refine call_sb (c2) rfl ?_ ?_ | refine call_s (c2) rfl rfl ?_ | (refine call_m ([((900000, 0), (10020, 1))]) ([((900000, 0), (10020, 1)), ((7, 1), (47, 1))]) (c3) (by repeat' first | exact True.intro | exact rfl | refine And.intro ?_ ?_) (by simp [Handed, Ren.get, AObj.ren, AV.ren, AV.ren.renL, View.get, lookO, callF, newS, View.reach, AV.sites, AV.sites.sitesL, View.osites]) (by simp [namesOk, hasN, nodupB, Ren.get, newS, lim, upd]) (by rfl) (by simp only [backC, Ren.get, AObj.ren, AV.ren, AV.ren.renL, and_self, and_true, true_and, if_true, reduceIte]; rfl) ?_)) <;> try (simp -implicitDefEqProofs only [go_sem, logD_eq, logC_eq, GLog.op, wrsD_len])) | (((with_reducible refine vc_b ?_ ?_) <;> intro _) <;> try (simp -implicitDefEqProofs only [go_sem, logD_eq, logC_eq, GLog.op, wrsD_len])) | simp (disch := omega) only [wrapI, wrapU, shl1, shl1', shl1'', shrN, shrN', and_one] | ((with_reducible refine isEx3 ?_); refine ⟨(_, _, _), rfl, ?_, ?_⟩)
  all_goals (try omega)
  refine pw_loopS (α := Int × (List GRec) × (List GRec)) (l0 := ?l1) (m0 := ?m1) (fun x => [(50, .d (.int .i64 x.1))]) (fun x => [(10020, .row 40 5 false (recsD x.2.1)), (47, .row 40 5 false (recsD x.2.2))]) (fun x => (0 ≤ x.1 ∧ x.1 ≤ es.length) ∧ x.2.1 = putN l.slots es x.1.toNat ∧ errN l.blocks l.slots es x.1.toNat = 0 ∧ x.2.2 = outN l.slots es d false x.1.toNat) (fun x => (es.length - x.1).toNat) (?a1_0, ?a1_1, ?a1_2) ?h01 ?he1 ?he21 ?hI1 ?step1
  case h01 => (simp -implicitDefEqProofs only [go_sem, recsD_len, wrsD_len]; rfl)
  case he1 => rfl
  case he21 => rfl
  case' step1 => (rintro ⟨i, s, o⟩ hI; try dsimp only at hI)
  case' hI1 => try dsimp only
  · exact ⟨⟨by omega, by omega⟩, rfl, rfl, rfl⟩
  · obtain ⟨⟨q1, q2⟩, q3, q4, q5⟩ := hI
    have hsl : s.length = l.slots.length := by rw [q3]; exact putN_len _ _ _
    have hol : o.length = l.slots.length := by rw [q5]; exact outN_len _ _ _ _ _
    by_cases hie : i < es.length
    · have w1 : IntKind.i64.wrap (i + 1) = i + 1 := wrapI _ (by omega)
      have e1 := errN_next l.blocks l.slots es i q1 q4
      have e2 := putN_next l.slots es i q1
      have e3 := outN_next l.slots es d false i q1
      obtain ⟨x, hx⟩ : ∃ x, es[i.toNat]?.getD default = x := ⟨_, rfl⟩
      have gL : (l.op.setS s).Good := by rw [q3]; exact putN_good (l := l.op) gop es i.toNat q4
      obtain ⟨n1, n2, n3⟩ := newest_good gL
      rw [setS_newest] at n1 n2 n3
      rw [hx, ← q3] at e1
      rw [hx, ← q3] at e2
      rw [e2, ← q3, ← q5] at e3
      have c4 := ns_newest (l.op.setS s)
      have hP : nxS s = (((nwS s).num + 1).tmod s.length).toNat := rfl
      have t1 := tmod_range (n := (nwS s).num + 1) (m := s.length) (by omega) (by omega)
      have w2 : IntKind.i64.wrap ((nwS s).num + 1) = (nwS s).num + 1 := wrapI _ (by omega)
      rw [recD_eq, recC_eq, ns_C, setS_newest] at c4
      by_cases ha : appE l.blocks s x = 0
      · have c5 := own_append_ok (l.op.setS s) gL x ha
        have hpl := putS_len s x
        rw [ha] at e1
        obtain ⟨r, hr⟩ : ∃ r, (putS s x)[nxS s]?.getD default = r := ⟨_, rfl⟩
        rw [hr] at e3
        unfold logV at c5
        simp only [GLog.setS, GLog.op] at c4 c5
        rw [← hP] at t1
        have hPl := t1.1
        obtain ⟨P, hPP⟩ : ∃ P, nxS s = P := ⟨_, rfl⟩
        rw [hPP] at hP t1 hPl hr e3
        obtain ⟨s', hs'⟩ : ∃ s', putS s x = s' := ⟨_, rfl⟩
        rw [hs'] at c5 hpl hr e2
        have hPo : P < o.length := by omega
        have hPs : P < s'.length := by omega
        have e5 : ¬ (o.length : Int) = 0 := by omega
        have hPo' : ((((nwS s).num + 1).tmod o.length).toNat) = P := by rw [hP, hol, hsl]
        have t2 : 0 ≤ ((nwS s).num + 1).tmod o.length ∧ ((nwS s).num + 1).tmod o.length < o.length := by rw [hol, ← hsl]; omega
        by_cases hid : i < d
        · rw [if_pos hid] at e3
          (try (simp -implicitDefEqProofs only [go_sem, wrsD_len, onSome_wrs, wrsD_unif, hx, wrD_eq, wrC_eq, recsD_len, onSome_recs, recsD_unif, recD_eq, recC_eq, recsD_set, hr, hPo', hPo, hPs, t2.1, t2.2, e5, w1, w2, hie, q1, hid])); repeat' first | with_reducible exact True.intro | with_reducible refine And.intro ?_ ?_ | with_reducible intro _ | (((with_reducible refine isCall ?_); first | refine call_s (c4) rfl (by simp [D.flat, D.flat1, D.prim]) ?_ | (refine call_m ([((900000, 0), (20, 0)), ((901000, 0), (10020, 0))]) ([((900000, 0), (20, 0)), ((901000, 0), (10020, 0))]) (c5) (by repeat' first | exact True.intro | exact rfl | refine And.intro ?_ ?_) (by simp [Handed, Ren.get, AObj.ren, AV.ren, AV.ren.renL, View.get, lookO, callF, newS, View.reach, AV.sites, AV.sites.sitesL, View.osites]) (by simp [namesOk, hasN, nodupB, Ren.get, newS, lim, upd]) (by rfl) (by simp only [backC, Ren.get, AObj.ren, AV.ren, AV.ren.renL, and_self, and_true, true_and, if_true, reduceIte]; rfl) ?_)) <;> try (simp -implicitDefEqProofs only [go_sem, wrsD_len, onSome_wrs, wrsD_unif, hx, wrD_eq, wrC_eq, recsD_len, onSome_recs, recsD_unif, recD_eq, recC_eq, recsD_set, hr, hPo', hPo, hPs, t2.1, t2.2, e5, w1, w2, hie, q1, hid])) | (((with_reducible refine vc_b ?_ ?_) <;> intro _) <;> try (simp -implicitDefEqProofs only [go_sem, wrsD_len, onSome_wrs, wrsD_unif, hx, wrD_eq, wrC_eq, recsD_len, onSome_recs, recsD_unif, recD_eq, recC_eq, recsD_set, hr, hPo', hPo, hPs, t2.1, t2.2, e5, w1, w2, hie, q1, hid])) | simp (disch := omega) only [wrapI, wrapU, shl1, shl1', shl1'', shrN, shrN', and_one] | ((with_reducible refine isEx3 ?_); refine ⟨(_, _, _), rfl, ?_, ?_⟩)
          all_goals first | omega | exact .inl True.intro | exact e1 | exact e2.symm | exact e3.symm | exact e1' | trace_state
        · rw [if_neg hid] at e3
          by_cases hit : i = d
          · simp only [hit, false_and, and_true, and_false, true_and, Bool.false_eq_true, if_true, if_false] at e3
            subst hit
            (try (simp -implicitDefEqProofs only [go_sem, wrsD_len, onSome_wrs, wrsD_unif, hx, wrD_eq, wrC_eq, recsD_len, onSome_recs, recsD_unif, recD_eq, recC_eq, recsD_set, hr, hPo', hPo, hPs, t2.1, t2.2, e5, w1, w2, hie, q1])); repeat' first | with_reducible exact True.intro | with_reducible refine And.intro ?_ ?_ | with_reducible intro _ | (((with_reducible refine isCall ?_); first | refine call_s (c4) rfl (by simp [D.flat, D.flat1, D.prim]) ?_ | (refine call_m ([((900000, 0), (20, 0)), ((901000, 0), (10020, 0))]) ([((900000, 0), (20, 0)), ((901000, 0), (10020, 0))]) (c5) (by repeat' first | exact True.intro | exact rfl | refine And.intro ?_ ?_) (by simp [Handed, Ren.get, AObj.ren, AV.ren, AV.ren.renL, View.get, lookO, callF, newS, View.reach, AV.sites, AV.sites.sitesL, View.osites]) (by simp [namesOk, hasN, nodupB, Ren.get, newS, lim, upd]) (by rfl) (by simp only [backC, Ren.get, AObj.ren, AV.ren, AV.ren.renL, and_self, and_true, true_and, if_true, reduceIte]; rfl) ?_)) <;> try (simp -implicitDefEqProofs only [go_sem, wrsD_len, onSome_wrs, wrsD_unif, hx, wrD_eq, wrC_eq, recsD_len, onSome_recs, recsD_unif, recD_eq, recC_eq, recsD_set, hr, hPo', hPo, hPs, t2.1, t2.2, e5, w1, w2, hie, q1])) | (((with_reducible refine vc_b ?_ ?_) <;> intro _) <;> try (simp -implicitDefEqProofs only [go_sem, wrsD_len, onSome_wrs, wrsD_unif, hx, wrD_eq, wrC_eq, recsD_len, onSome_recs, recsD_unif, recD_eq, recC_eq, recsD_set, hr, hPo', hPo, hPs, t2.1, t2.2, e5, w1, w2, hie, q1])) | simp (disch := omega) only [wrapI, wrapU, shl1, shl1', shl1'', shrN, shrN', and_one] | ((with_reducible refine isEx3 ?_); refine ⟨(_, _, _), rfl, ?_, ?_⟩)
            all_goals first | omega | exact .inl True.intro | exact e1 | exact e2.symm | exact e3.symm | exact e1' | trace_state
          · simp only [hit, false_and, if_false] at e3
            (try (simp -implicitDefEqProofs only [go_sem, wrsD_len, onSome_wrs, wrsD_unif, hx, wrD_eq, wrC_eq, recsD_len, onSome_recs, recsD_unif, recD_eq, recC_eq, recsD_set, hr, hPo', hPo, hPs, t2.1, t2.2, e5, w1, w2, hie, q1, hid, hit])); repeat' first | with_reducible exact True.intro | with_reducible refine And.intro ?_ ?_ | with_reducible intro _ | (((with_reducible refine isCall ?_); first | refine call_s (c4) rfl (by simp [D.flat, D.flat1, D.prim]) ?_ | (refine call_m ([((900000, 0), (20, 0)), ((901000, 0), (10020, 0))]) ([((900000, 0), (20, 0)), ((901000, 0), (10020, 0))]) (c5) (by repeat' first | exact True.intro | exact rfl | refine And.intro ?_ ?_) (by simp [Handed, Ren.get, AObj.ren, AV.ren, AV.ren.renL, View.get, lookO, callF, newS, View.reach, AV.sites, AV.sites.sitesL, View.osites]) (by simp [namesOk, hasN, nodupB, Ren.get, newS, lim, upd]) (by rfl) (by simp only [backC, Ren.get, AObj.ren, AV.ren, AV.ren.renL, and_self, and_true, true_and, if_true, reduceIte]; rfl) ?_)) <;> try (simp -implicitDefEqProofs only [go_sem, wrsD_len, onSome_wrs, wrsD_unif, hx, wrD_eq, wrC_eq, recsD_len, onSome_recs, recsD_unif, recD_eq, recC_eq, recsD_set, hr, hPo', hPo, hPs, t2.1, t2.2, e5, w1, w2, hie, q1, hid, hit])) | (((with_reducible refine vc_b ?_ ?_) <;> intro _) <;> try (simp -implicitDefEqProofs only [go_sem, wrsD_len, onSome_wrs, wrsD_unif, hx, wrD_eq, wrC_eq, recsD_len, onSome_recs, recsD_unif, recD_eq, recC_eq, recsD_set, hr, hPo', hPo, hPs, t2.1, t2.2, e5, w1, w2, hie, q1, hid, hit])) | simp (disch := omega) only [wrapI, wrapU, shl1, shl1', shl1'', shrN, shrN', and_one] | ((with_reducible refine isEx3 ?_); refine ⟨(_, _, _), rfl, ?_, ?_⟩)
            all_goals first | omega | exact .inl True.intro | exact e1 | exact e2.symm | exact e3.symm | exact e1' | trace_state
      · have h9 := errN_step hE (show i.toNat < es.length by omega)
        rw [← q3, hx] at h9
        exact absurd h9 ha
    · have hi0 : i.toNat = es.length := by omega
      rw [hi0] at q4 q5
      have hd0 : ((d.toNat : Nat) : Int) = d := by omega
      have hcut : o = cutS l.slots es d.toNat false := by
        rw [q5, ← outN_end l.slots es d.toNat false es.length (by omega) (by intro h; cases h), hd0]
      rw [← hcut]
      (try (simp -implicitDefEqProofs only [go_sem, wrsD_len, recsD_len, logD_eq, logC_eq, GLog.setS, GLog.op, hie])); repeat' first | with_reducible exact True.intro | with_reducible refine And.intro ?_ ?_ | with_reducible intro _ | (((with_reducible refine vc_b ?_ ?_) <;> intro _) <;> try (simp -implicitDefEqProofs only [go_sem, wrsD_len, recsD_len, logD_eq, logC_eq, GLog.setS, GLog.op, hie])) | simp (disch := omega) only [wrapI, wrapU, shl1, shl1', shl1'', shrN, shrN', and_one] | ((with_reducible refine isEx3 ?_); refine ⟨(_, _, _), rfl, ?_, ?_⟩)
      all_goals first | omega | exact .inl True.intro | rfl | trace_state
end Go.Pw
end
section
open Go Go.Pw Go.Proofs
namespace Go.Pw
set_option linter.unusedSimpArgs false
set_option linter.unusedVariables false
set_option maxRecDepth 100000
set_option maxHeartbeats 3200000
def GLog.rdy (l : GLog) : Bool := !l.far && decide (l.openE = 0)
theorem repN_get {ks : List GRec} {xs : List Int} {j : Nat} : ∀ n, (∀ i, i < n → (ks[i]?.getD default).blk.toNat ≠ j) → (repN ks xs n)[j]? = xs[j]?
  | 0, _ => rfl
  | n + 1, h => by
    rw [repN, List.getElem?_set_ne (h n (by omega))]
    exact repN_get n fun i hi => h i (by omega)
theorem repN_eq {ks : List GRec} {xs ys : List Int} (hl : xs.length = ys.length) {j : Nat} : ∀ n, (∃ i, i < n ∧ (ks[i]?.getD default).blk.toNat = j) → (repN ks xs n)[j]? = (repN ks ys n)[j]?
  | 0, h => by obtain ⟨i, hi, _⟩ := h; omega
  | n + 1, h => by
    rw [repN, repN]
    by_cases he : (ks[n]?.getD default).blk.toNat = j
    · rw [he, List.getElem?_set, List.getElem?_set, if_pos rfl, if_pos rfl, repN_len, repN_len, hl]
    · rw [List.getElem?_set_ne he, List.getElem?_set_ne he]
      obtain ⟨i, hi, hb⟩ := h
      have : i ≠ n := fun h2 => he (by rw [← h2]; exact hb)
      exact repN_eq hl n ⟨i, by omega, hb⟩
/-- What was replayed in part is replayed to the same. -/
theorem repN_part (ks : List GRec) (xs : List Int) {m n : Nat} (hm : m ≤ n) : repN ks (repN ks xs m) n = repN ks xs n := by
  apply List.ext_getElem?
  intro j
  by_cases h : ∃ i, i < n ∧ (ks[i]?.getD default).blk.toNat = j
  · exact repN_eq (repN_len ks xs m) n h
  · have h2 : ∀ i, i < n → (ks[i]?.getD default).blk.toNat ≠ j := fun i hi he => h ⟨i, hi, he⟩
    rw [repN_get n h2, repN_get n h2, repN_get m fun i hi => h2 i (by omega)]
theorem all_set {p : Int → Bool} {xs : List Int} {i : Nat} {v : Int} (h : xs.all p = true) (hv : p v = true) : (xs.set i v).all p = true := by
  rw [List.all_eq_true] at h ⊢
  intro x hx
  rcases List.mem_or_eq_of_mem_set hx with h1 | h1
  · exact h x h1
  · rw [h1]; exact hv
theorem repN_all {ks : List GRec} {xs : List Int} (h : xs.all (fun n => inZ n 0 999) = true) : ∀ n, (∀ i, i < n → inZ (ks[i]?.getD default).val 0 999 = true) → (repN ks xs n).all (fun n => inZ n 0 999) = true
  | 0, _ => h
  | n + 1, hv => by rw [repN]; exact all_set (repN_all h n fun i hi => hv i (by omega)) (hv n (by omega))
theorem home_at {xs : List Int} (h : ∀ j : Nat, j < xs.length → inZ (xs[j]?.getD 0) 0 999 = true) : xs.all (fun n => inZ n 0 999) = true := by
  rw [List.all_eq_true]
  intro x hx
  obtain ⟨i, hi, rfl⟩ := List.getElem_of_mem hx
  have := h i hi
  rwa [List.getElem?_eq_getElem hi, Option.getD_some] at this
attribute [local congr] cg_pw cg_seqI cg_seqE cg_stepI cg_ev cg_evBin cg_condB cg_condV cg_thenQ cg_blockQ cg_onSome cg_onCells cg_onRow cg_onMap cg_onOpt cg_ghosts cg_ghost cg_evCall cg_part cg_rng cg_guardV cg_frzV cg_frpV cg_ownV cg_owcV cg_occV cg_occX cg_resK cg_res1 cg_yldP cg_rndE cg_onlyN cg_onHist
attribute [local irreducible] IntKind.wrap bitsOp Option.getD and or

theorem law16_ready_ret (l : GLog) : Ret E0 F_law16_ready [logD l] (.bool l.rdy) := by
  refine ret_of_pw dec_law16_ready mixed (by simp) fun hwf => ?_
  have c0 := law16_Far_ret l
  have c1 := ref16_CheckKept_ret l
  rw [enter_eq]; unfold pc_law16_ready GLog.rdy
  cases hf : l.far with
  | true =>
    rw [hf] at c0
    (try (simp -implicitDefEqProofs only [go_sem, logD_eq, logC_eq])); repeat' first | with_reducible exact True.intro | with_reducible refine And.intro ?_ ?_ | with_reducible intro _ | (((with_reducible refine isCall ?_); first | refine call_b (c0) rfl ?_ ?_ | refine call_d (c0) rfl ?_ | refine call_sb (c0) rfl ?_ ?_ | refine call_s (c0) rfl rfl ?_) <;> try (simp -implicitDefEqProofs only [go_sem, logD_eq, logC_eq])) | (((with_reducible refine vc_b ?_ ?_) <;> intro _) <;> try (simp -implicitDefEqProofs only [go_sem, logD_eq, logC_eq])) | simp (disch := omega) only [wrapI, wrapU, shl1, shl1', shl1'', shrN, shrN', and_one] 
    all_goals first | rfl | simp
  | false =>
    rw [hf] at c0
    by_cases h : l.openE = 0
    · (try (simp -implicitDefEqProofs only [go_sem, logD_eq, logC_eq, h])); repeat' first | with_reducible exact True.intro | with_reducible refine And.intro ?_ ?_ | with_reducible intro _ | (((with_reducible refine isCall ?_); first | refine call_b (c0) rfl ?_ ?_ | refine call_d (c0) rfl ?_ | refine call_sb (c0) rfl ?_ ?_ | refine call_s (c0) rfl rfl ?_ | refine call_b (c1) rfl ?_ ?_ | refine call_d (c1) rfl ?_ | refine call_sb (c1) rfl ?_ ?_ | refine call_s (c1) rfl rfl ?_) <;> try (simp -implicitDefEqProofs only [go_sem, logD_eq, logC_eq, h])) | (((with_reducible refine vc_b ?_ ?_) <;> intro _) <;> try (simp -implicitDefEqProofs only [go_sem, logD_eq, logC_eq, h])) | simp (disch := omega) only [wrapI, wrapU, shl1, shl1', shl1'', shrN, shrN', and_one] 
      all_goals first | rfl | (simp [h]; done)
    · (try (simp -implicitDefEqProofs only [go_sem, logD_eq, logC_eq, h])); repeat' first | with_reducible exact True.intro | with_reducible refine And.intro ?_ ?_ | with_reducible intro _ | (((with_reducible refine isCall ?_); first | refine call_b (c0) rfl ?_ ?_ | refine call_d (c0) rfl ?_ | refine call_sb (c0) rfl ?_ ?_ | refine call_s (c0) rfl rfl ?_ | refine call_b (c1) rfl ?_ ?_ | refine call_d (c1) rfl ?_ | refine call_sb (c1) rfl ?_ ?_ | refine call_s (c1) rfl rfl ?_) <;> try (simp -implicitDefEqProofs only [go_sem, logD_eq, logC_eq, h])) | (((with_reducible refine vc_b ?_ ?_) <;> intro _) <;> try (simp -implicitDefEqProofs only [go_sem, logD_eq, logC_eq, h])) | simp (disch := omega) only [wrapI, wrapU, shl1, shl1', shl1'', shrN, shrN', and_one] 
      all_goals first | rfl | (simp [h]; done)

theorem JournalReplay_ret (l : GLog) (hs : l.sn = true → l.slots = []) (hz : l.disk.zn = true → l.disk.zones = []) (nl : Bool) (home : List Int) (hh : nl = true → home = []) (first : Int) :
    Ret E0 F_law16_JournalReplay [logD l, .list nl (ints home), .int .i64 first] (.bool true) := by
  refine ret_of_pw dec_law16_JournalReplay mixed (by simp) fun hwf => ?_
  have c0 := law16_ready_ret l
  have cw := law16_works_ret
  rw [enter_eq]; unfold pc_law16_JournalReplay
  cases hf : l.rdy with
  | false =>
    rw [hf] at c0
    (try (simp -implicitDefEqProofs only [go_sem, logD_eq, logC_eq])); repeat' first | with_reducible exact True.intro | with_reducible refine And.intro ?_ ?_ | with_reducible intro _ | (((with_reducible refine isCall ?_); first | refine call_b (c0) rfl ?_ ?_ | refine call_d (c0) rfl ?_ | refine call_sb (c0) rfl ?_ ?_ | refine call_s (c0) rfl rfl ?_ | refine call_b (cw) rfl ?_ ?_ | refine call_d (cw) rfl ?_ | refine call_sb (cw) rfl ?_ ?_ | refine call_s (cw) rfl rfl ?_) <;> try (simp -implicitDefEqProofs only [go_sem, logD_eq, logC_eq])) | (((with_reducible refine vc_b ?_ ?_) <;> intro _) <;> try (simp -implicitDefEqProofs only [go_sem, logD_eq, logC_eq])) | simp (disch := omega) only [wrapI, wrapU, shl1, shl1', shl1'', shrN, shrN', and_one] | ((with_reducible refine isEx3 ?_); refine ⟨(_, _, _), rfl, ?_, ?_⟩) | ((with_reducible refine isEx ?_); refine ⟨_, rfl, ?_, ?_⟩)
  | true =>
    rw [hf] at c0
    have he : l.openE = 0 := by unfold GLog.rdy at hf; simp at hf; exact hf.2
    obtain ⟨e1, e2⟩ := openE_0 he
    have g := check_good e1
    have b1 := g.b1; have b2 := g.b2
    by_cases hlen : (home.length : Int) = l.blocks
    · (try (simp -implicitDefEqProofs only [go_sem, logD_eq, logC_eq, eq_true hlen])); repeat' first | with_reducible exact True.intro | with_reducible refine And.intro ?_ ?_ | with_reducible intro _ | (((with_reducible refine isCall ?_); first | refine call_b (c0) rfl ?_ ?_ | refine call_d (c0) rfl ?_ | refine call_sb (c0) rfl ?_ ?_ | refine call_s (c0) rfl rfl ?_ | refine call_b (cw) rfl ?_ ?_ | refine call_d (cw) rfl ?_ | refine call_sb (cw) rfl ?_ ?_ | refine call_s (cw) rfl rfl ?_) <;> try (simp -implicitDefEqProofs only [go_sem, logD_eq, logC_eq, eq_true hlen])) | (((with_reducible refine vc_b ?_ ?_) <;> intro _) <;> try (simp -implicitDefEqProofs only [go_sem, logD_eq, logC_eq, eq_true hlen])) | simp (disch := omega) only [wrapI, wrapU, shl1, shl1', shl1'', shrN, shrN', and_one] | ((with_reducible refine isEx3 ?_); refine ⟨(_, _, _), rfl, ?_, ?_⟩) | ((with_reducible refine isEx ?_); refine ⟨_, rfl, ?_, ?_⟩)
      all_goals (try omega)
      refine pw_loopS (α := Int) (l0 := ?l1) (m0 := ?m1) (fun x => [(7, .d (.int .i64 x))]) (fun x => []) (fun x => (0 ≤ x ∧ x ≤ home.length) ∧ ∀ j : Nat, j < x.toNat → inZ (home[j]?.getD 0) 0 999 = true) (fun x => (home.length - x).toNat) ?a1_0 ?h01 ?he1 ?he21 ?hI1 ?step1
      case h01 => (simp -implicitDefEqProofs only [go_sem, logC_eq]; rfl)
      case he1 => rfl
      case he21 => rfl
      case' step1 => (rintro i hI; try dsimp only at hI)
      case' hI1 => try dsimp only
      · exact ⟨⟨by omega, by omega⟩, fun j hj => by omega⟩
      · obtain ⟨⟨q1, q2⟩, q3⟩ := hI
        by_cases hi : i < home.length
        · have w1 : IntKind.i64.wrap (i + 1) = i + 1 := wrapI _ (by omega)
          by_cases hv : 0 ≤ home[i.toNat]?.getD 0 ∧ home[i.toNat]?.getD 0 ≤ 999
          · have v1 : ¬ home[i.toNat]?.getD 0 < 0 := by omega
            have v2 : ¬ 999 < home[i.toNat]?.getD 0 := by omega
            have hn : ∀ j : Nat, j < (i + 1).toNat → inZ (home[j]?.getD 0) 0 999 = true := fun j hj => by
              rcases (show j < i.toNat ∨ j = i.toNat by omega) with h1 | h1
              · exact q3 j h1
              · rw [h1]; exact inZ_iff.2 hv
            (try (simp -implicitDefEqProofs only [go_sem, logC_eq, hi, q1, v1, v2, w1])); repeat' first | with_reducible exact True.intro | with_reducible refine And.intro ?_ ?_ | with_reducible intro _ | (((with_reducible refine vc_b ?_ ?_) <;> intro _) <;> try (simp -implicitDefEqProofs only [go_sem, logC_eq, hi, q1, v1, v2, w1])) | simp (disch := omega) only [wrapI, wrapU, shl1, shl1', shl1'', shrN, shrN', and_one] | ((with_reducible refine isEx3 ?_); refine ⟨(_, _, _), rfl, ?_, ?_⟩) | ((with_reducible refine isEx ?_); refine ⟨_, rfl, ?_, ?_⟩)
            all_goals first | omega | (apply hn; assumption) | skip
          · by_cases v1 : home[i.toNat]?.getD 0 < 0
            · (try (simp -implicitDefEqProofs only [go_sem, logC_eq, hi, q1, v1])); repeat' first | with_reducible exact True.intro | with_reducible refine And.intro ?_ ?_ | with_reducible intro _ | (((with_reducible refine isCall ?_); first | refine call_b (cw) rfl ?_ ?_ | refine call_d (cw) rfl ?_ | refine call_sb (cw) rfl ?_ ?_ | refine call_s (cw) rfl rfl ?_) <;> try (simp -implicitDefEqProofs only [go_sem, logC_eq, hi, q1, v1])) | (((with_reducible refine vc_b ?_ ?_) <;> intro _) <;> try (simp -implicitDefEqProofs only [go_sem, logC_eq, hi, q1, v1])) | simp (disch := omega) only [wrapI, wrapU, shl1, shl1', shl1'', shrN, shrN', and_one] | ((with_reducible refine isEx3 ?_); refine ⟨(_, _, _), rfl, ?_, ?_⟩) | ((with_reducible refine isEx ?_); refine ⟨_, rfl, ?_, ?_⟩)
              all_goals first | omega | skip
            · have v2 : 999 < home[i.toNat]?.getD 0 := by omega
              (try (simp -implicitDefEqProofs only [go_sem, logC_eq, hi, q1, v1, v2])); repeat' first | with_reducible exact True.intro | with_reducible refine And.intro ?_ ?_ | with_reducible intro _ | (((with_reducible refine isCall ?_); first | refine call_b (cw) rfl ?_ ?_ | refine call_d (cw) rfl ?_ | refine call_sb (cw) rfl ?_ ?_ | refine call_s (cw) rfl rfl ?_) <;> try (simp -implicitDefEqProofs only [go_sem, logC_eq, hi, q1, v1, v2])) | (((with_reducible refine vc_b ?_ ?_) <;> intro _) <;> try (simp -implicitDefEqProofs only [go_sem, logC_eq, hi, q1, v1, v2])) | simp (disch := omega) only [wrapI, wrapU, shl1, shl1', shl1'', shrN, shrN', and_one] | ((with_reducible refine isEx3 ?_); refine ⟨(_, _, _), rfl, ?_, ?_⟩) | ((with_reducible refine isEx ?_); refine ⟨_, rfl, ?_, ?_⟩)
              all_goals first | omega | skip
        · replace hi := eq_false hi
          have hall := home_at fun j hj => q3 j (by have := of_eq_false hi; omega)
          have hok : okHome l home = true := by unfold okHome; rw [hall, decide_eq_true hlen]; simp
          have hnl : nl = false := by
            cases nl with
            | false => rfl
            | true => have := hh rfl; rw [this] at hlen; simp at hlen; omega
          have hkl := kept_len l
          have hmb := many_bound g
          have hkg := fun i hi => kept_good g e2 (i := i) hi
          have c2 := journal_Recover_ret l hs hz
          have hrec : l.recE = l.kept := by unfold GLog.recE; rw [if_pos he]
          rw [he, hrec] at c2
          have hval : ∀ k : Nat, k ≤ l.kept.length → ∀ i, i < k → inZ (l.kept[i]?.getD default).val 0 999 = true := fun k hk i hi => by
            obtain ⟨r, hr, _, _, _, hv⟩ := hkg i (by omega)
            rw [hr]; exact inZ_iff.2 hv
          have hpart : ∀ k : Nat, k ≤ l.kept.length → okHome l (repN l.kept home k) = true := fun k hk => by
            unfold okHome
            rw [repN_len, decide_eq_true hlen, repN_all hall k (hval k hk)]; simp
          have hrp : ∀ (b : Bool) (k : Nat), k ≤ l.kept.length → (b = true → repN l.kept home k = []) → Ret E0 F_journal_Replay [logD l, .list b (ints (repN l.kept home k))] (.tup [.list false (ints (l.repL home)), .int .i64 0]) := fun b k hk hb => by
            have := journal_Replay_ret l hs hz b (repN l.kept home k) hb
            rw [replayE_home he, hpart k hk] at this
            have h2 : l.repL (repN l.kept home k) = l.repL home := repN_part l.kept home hk
            rw [h2] at this
            exact this
          have c3 := hrp nl 0 (by omega) hh
          have c4 := hrp false l.kept.length (Nat.le_refl _) (by intro h; cases h)
          have c5 := fun k hk => hrp false k hk (by intro h; cases h)
          change Ret _ _ [logD l, .list false (ints (l.repL home))] _ at c4
          change Ret _ _ [logD l, .list nl (ints home)] _ at c3
          have hol : (l.repL home).length = home.length := repN_len _ _ _
          have hwant : repN l.kept home l.kept.length = l.repL home := rfl
          have s1 := law16_sameInts_ret false false (l.repL home) (l.repL home)
          rw [decide_eq_true rfl] at s1
          generalize l.repL home = R at *
          generalize l.kept = ks at *
          subst hnl
          have hne : home ≠ [] := fun h => by rw [h] at hlen; simp at hlen; omega
          have hlb : home.length ≤ 1073741824 := by omega
          (try (simp -implicitDefEqProofs only [go_sem, logD_eq, logC_eq, hi, hol, q1, hne, hlb])); repeat' first | with_reducible exact True.intro | with_reducible refine And.intro ?_ ?_ | with_reducible intro _ | (((with_reducible refine isCall ?_); first | refine call_b (c2) rfl ?_ ?_ | refine call_d (c2) rfl ?_ | refine call_sb (c2) rfl ?_ ?_ | refine call_s (c2) rfl rfl ?_ | refine call_b (c3) rfl ?_ ?_ | refine call_d (c3) rfl ?_ | refine call_sb (c3) rfl ?_ ?_ | refine call_s (c3) rfl rfl ?_ | refine call_b (c4) rfl ?_ ?_ | refine call_d (c4) rfl ?_ | refine call_sb (c4) rfl ?_ ?_ | refine call_s (c4) rfl rfl ?_ | refine call_b (s1) rfl ?_ ?_ | refine call_d (s1) rfl ?_ | refine call_sb (s1) rfl ?_ ?_ | refine call_s (s1) rfl rfl ?_) <;> try (simp -implicitDefEqProofs only [go_sem, logD_eq, logC_eq, hi, hol, q1, hne, hlb])) | (((with_reducible refine vc_b ?_ ?_) <;> intro _) <;> try (simp -implicitDefEqProofs only [go_sem, logD_eq, logC_eq, hi, hol, q1, hne, hlb])) | simp (disch := omega) only [wrapI, wrapU, shl1, shl1', shl1'', shrN, shrN', and_one] | ((with_reducible refine isEx3 ?_); refine ⟨(_, _, _), rfl, ?_, ?_⟩) | ((with_reducible refine isEx ?_); refine ⟨_, rfl, ?_, ?_⟩)
          all_goals (try omega)
          refine pw_loopS (α := Int × (List Int) × (List Int)) (l0 := ?l2) (m0 := ?m2) (fun x => [(16, .d (.int .i64 x.1))]) (fun x => [(89, .row 3 1 false (ints x.2.1)), (92, .row 3 1 false (ints x.2.2))]) (fun x => (0 ≤ x.1 ∧ x.1 ≤ ks.length) ∧ x.2.1 = repN ks home (min x.1 (max 0 first)).toNat ∧ x.2.2 = repN ks home x.1.toNat) (fun x => (ks.length - x.1).toNat) (?a2_0, ?a2_1, ?a2_2) ?h02 ?he2 ?he22 ?hI2 ?step2
          case h02 => (simp -implicitDefEqProofs only [go_sem, recsD_len]; rfl)
          case he2 => rfl
          case he22 => rfl
          case' step2 => (rintro ⟨k, sm, wt⟩ hI2; try dsimp only at hI2)
          case' hI2 => try dsimp only
          · exact ⟨⟨by omega, by omega⟩, by rw [show (min (0 : Int) (max 0 first)).toNat = 0 by omega]; rfl, rfl⟩
          · obtain ⟨⟨p1, p2⟩, p3, p4⟩ := hI2
            have hsl := repN_len ks home (min k (max 0 first)).toNat
            have hwl := repN_len ks home k.toNat
            rw [← p3] at hsl
            rw [← p4] at hwl
            by_cases hk : k < ks.length
            · obtain ⟨r, hr, r1, r2, r3, r4⟩ := hkg k.toNat (by omega)
              have w1 : IntKind.i64.wrap (k + 1) = k + 1 := wrapI _ (by omega)
              have hnx : repN ks home (k + 1).toNat = wt.set r.blk.toNat r.val := by rw [show (k + 1).toNat = k.toNat + 1 by omega, repN, ← p4, hr]
              have hb0 := r3.1
              have hb1 : r.blk < wt.length := by omega
              have hb2 : r.blk < sm.length := by omega
              have hb3 : ¬ r.blk < 0 := by omega
              have hb4 : ¬ (home.length : Int) ≤ r.blk := by omega
              by_cases hf1 : k < first
              · have hns : repN ks home (min (k + 1) (max 0 first)).toNat = sm.set r.blk.toNat r.val := by
                  rw [show (min (k + 1) (max 0 first)).toNat = (k + 1).toNat by omega, hnx, p3, p4, show (min k (max 0 first)).toNat = k.toNat by omega]
                (try (simp -implicitDefEqProofs only [go_sem, recsD_len, onSome_recs, hr, recD_eq, recC_eq, recsD_unif, w1, hk, p1, hb1, hb0, hb2, hb3, hb4, hf1])); repeat' first | with_reducible exact True.intro | with_reducible refine And.intro ?_ ?_ | with_reducible intro _ | (((with_reducible refine vc_b ?_ ?_) <;> intro _) <;> try (simp -implicitDefEqProofs only [go_sem, recsD_len, onSome_recs, hr, recD_eq, recC_eq, recsD_unif, w1, hk, p1, hb1, hb0, hb2, hb3, hb4, hf1])) | simp (disch := omega) only [wrapI, wrapU, shl1, shl1', shl1'', shrN, shrN', and_one] | ((with_reducible refine isEx3 ?_); refine ⟨(_, _, _), rfl, ?_, ?_⟩) | ((with_reducible refine isEx ?_); refine ⟨_, rfl, ?_, ?_⟩)
                all_goals first | omega | exact hnx.symm | exact hns.symm | exact .inl True.intro
              · have hns : repN ks home (min (k + 1) (max 0 first)).toNat = sm := by
                  rw [show (min (k + 1) (max 0 first)).toNat = (min k (max 0 first)).toNat by omega]; exact p3.symm
                (try (simp -implicitDefEqProofs only [go_sem, recsD_len, onSome_recs, hr, recD_eq, recC_eq, recsD_unif, w1, hk, p1, hb1, hb0, hb2, hb3, hb4, hf1])); repeat' first | with_reducible exact True.intro | with_reducible refine And.intro ?_ ?_ | with_reducible intro _ | (((with_reducible refine vc_b ?_ ?_) <;> intro _) <;> try (simp -implicitDefEqProofs only [go_sem, recsD_len, onSome_recs, hr, recD_eq, recC_eq, recsD_unif, w1, hk, p1, hb1, hb0, hb2, hb3, hb4, hf1])) | simp (disch := omega) only [wrapI, wrapU, shl1, shl1', shl1'', shrN, shrN', and_one] | ((with_reducible refine isEx3 ?_); refine ⟨(_, _, _), rfl, ?_, ?_⟩) | ((with_reducible refine isEx ?_); refine ⟨_, rfl, ?_, ?_⟩)
                all_goals first | omega | exact hnx.symm | exact hns.symm | exact .inl True.intro
            · have hke : k.toNat = ks.length := by omega
              rw [hke, hwant] at p4
              have c6 := c5 (min k (max 0 first)).toNat (by omega)
              rw [← p3] at c6
              subst p4
              (try (simp -implicitDefEqProofs only [go_sem, logD_eq, logC_eq, recsD_len, hk])); repeat' first | with_reducible exact True.intro | with_reducible refine And.intro ?_ ?_ | with_reducible intro _ | (((with_reducible refine isCall ?_); first | refine call_b (c6) rfl ?_ ?_ | refine call_d (c6) rfl ?_ | refine call_sb (c6) rfl ?_ ?_ | refine call_s (c6) rfl rfl ?_ | refine call_b (s1) rfl ?_ ?_ | refine call_d (s1) rfl ?_ | refine call_sb (s1) rfl ?_ ?_ | refine call_s (s1) rfl rfl ?_ | refine call_b (cw) rfl ?_ ?_ | refine call_d (cw) rfl ?_ | refine call_sb (cw) rfl ?_ ?_ | refine call_s (cw) rfl rfl ?_) <;> try (simp -implicitDefEqProofs only [go_sem, logD_eq, logC_eq, recsD_len, hk])) | (((with_reducible refine vc_b ?_ ?_) <;> intro _) <;> try (simp -implicitDefEqProofs only [go_sem, logD_eq, logC_eq, recsD_len, hk])) | simp (disch := omega) only [wrapI, wrapU, shl1, shl1', shl1'', shrN, shrN', and_one] | ((with_reducible refine isEx3 ?_); refine ⟨(_, _, _), rfl, ?_, ?_⟩) | ((with_reducible refine isEx ?_); refine ⟨_, rfl, ?_, ?_⟩)
              all_goals first | omega | rfl | (simp; done)
    · (try (simp -implicitDefEqProofs only [go_sem, logD_eq, logC_eq, hlen])); repeat' first | with_reducible exact True.intro | with_reducible refine And.intro ?_ ?_ | with_reducible intro _ | (((with_reducible refine isCall ?_); first | refine call_b (c0) rfl ?_ ?_ | refine call_d (c0) rfl ?_ | refine call_sb (c0) rfl ?_ ?_ | refine call_s (c0) rfl rfl ?_ | refine call_b (cw) rfl ?_ ?_ | refine call_d (cw) rfl ?_ | refine call_sb (cw) rfl ?_ ?_ | refine call_s (cw) rfl rfl ?_) <;> try (simp -implicitDefEqProofs only [go_sem, logD_eq, logC_eq, hlen])) | (((with_reducible refine vc_b ?_ ?_) <;> intro _) <;> try (simp -implicitDefEqProofs only [go_sem, logD_eq, logC_eq, hlen])) | simp (disch := omega) only [wrapI, wrapU, shl1, shl1', shl1'', shrN, shrN', and_one] | ((with_reducible refine isEx3 ?_); refine ⟨(_, _, _), rfl, ?_, ?_⟩) | ((with_reducible refine isEx ?_); refine ⟨_, rfl, ?_, ?_⟩)
end Go.Pw
end
