/- A part of the proof. -/
import Derived.Test.YtiphmemigdplgaaDoorPgJournalOa
import Derived.Test.YtiphmemigdplgaaDoorJournalN
set_option linter.all false
open Go Go.Pw Go.Proofs
namespace Go.Pw
set_option linter.unusedSimpArgs false
set_option linter.unusedVariables false
set_option maxRecDepth 100000
set_option maxHeartbeats 3200000
def anyR (K : List GRec) (r : GRec) : Nat → Bool
  | 0 => false
  | i + 1 => anyR K r i || sameR (K[i]?.getD default) r
theorem anyR_next (K : List GRec) (r : GRec) (i : Int) (h : 0 ≤ i) : anyR K r (i + 1).toNat = (anyR K r i.toNat || sameR (K[i.toNat]?.getD default) r) := by
  rw [show (i + 1).toNat = i.toNat + 1 by omega, anyR]
theorem anyR_no {K : List GRec} {r : GRec} : ∀ {n : Nat}, anyR K r n = false → ∀ i, i < n → K[i]?.getD default ≠ r
  | 0, _, i, hi => by omega
  | n + 1, h, i, hi => by
    rw [anyR, Bool.or_eq_false_iff] at h
    rcases (show i < n ∨ i = n by omega) with h1 | h1
    · exact anyR_no h.1 i h1
    · subst h1
      intro e
      rw [e, sameR_iff.2 rfl] at h
      cases h.2
theorem errN_one' (b : Int) (s : List GRec) (v : GWr) : errN b s [v] [v].length = appE b s v := by
  show (if (0 : Int) = 0 then appE b s v else 0) = _
  rw [if_pos rfl]
theorem kept_get (l : GLog) {i : Nat} (h : i < l.many) : l.kept[i]?.getD default = l.at' (l.newest.tail + i) := by
  unfold GLog.kept GLog.keptN
  simp [h]
theorem cutS_one (s : List GRec) (v : GWr) : cutS s [v] [v].length false = putS s v := rfl
/-- A slot that holds no kept record. -/
theorem free_slot {l : GLog} (g : l.Good) {p : Nat} (h : anyR l.kept (l.slots[p]?.getD default) l.kept.length = false) : ∀ k, l.newest.tail ≤ k → k ≤ l.newest.num → (k.tmod l.slots.length).toNat ≠ p := by
  intro k h1 h2 e
  have hm : (k - l.newest.tail).toNat < l.many := by unfold GLog.many; omega
  have := anyR_no h (k - l.newest.tail).toNat (by rw [kept_len]; exact hm)
  apply this
  rw [kept_get l hm, show l.newest.tail + ((k - l.newest.tail).toNat : Int) = k by omega]
  unfold GLog.at'
  rw [e]
theorem torn_slot {l : GLog} (hc : l.check = 0) (hf : l.full = true) {p : Nat} (h : ∀ k, l.newest.tail ≤ k → k ≤ l.newest.num → (k.tmod l.slots.length).toNat ≠ p) : (l.setS (l.slots.set p badR)).openE = 0 ∧ (l.setS (l.slots.set p badR)).kept = l.kept := by
  obtain ⟨t1, t2, t3⟩ := torn_kept (check_good hc) h
  exact ⟨openE_of (check_set hc (slot_bad rfl)) (t3.trans hf), t2⟩
theorem cpy_chk {l : GLog} (h : l.openE = 0) : l.cpy.check = 0 ∧ l.cpy.full = true := openE_0 ((cpy_open l).trans h)
theorem cpy_kept' (l : GLog) : l.cpy.kept = l.kept := rfl
theorem rdy_open' {l : GLog} (h : l.rdy = true) : l.openE = 0 := by unfold GLog.rdy at h; simp at h; exact h.2
attribute [local congr] cg_pw cg_seqI cg_seqE cg_stepI cg_ev cg_evBin cg_condB cg_condV cg_thenQ cg_blockQ cg_onSome cg_onCells cg_onRow cg_onMap cg_onOpt cg_ghosts cg_ghost cg_evCall cg_part cg_rng cg_guardV cg_frzV cg_frpV cg_ownV cg_owcV cg_occV cg_occX cg_resK cg_res1 cg_yldP cg_rndE cg_onlyN cg_onHist
attribute [local irreducible] IntKind.wrap bitsOp Option.getD and or

theorem own_Append (l : GLog) (he : l.openE = 0) (hs : l.sn = true → l.slots = []) (hz : l.disk.zn = true → l.disk.zones = []) (nw : Bool) (es : List GWr) (hlw : es.length ≤ 1000) (hE : errN l.blocks l.slots es es.length = 0) :
    CallM E0 F_journal_Append [] [.d (logD l), .d (.list nw (wrsD es))] [(10, 1, .row 40 5 false (recsD (cutS l.slots es es.length false)))] (.tup [logA l.op (.own 10 1), .d (.int .i64 0)]) := by
  have c1 := own_Cut l he hs hz nw es hlw hE
  generalize cutS l.slots es es.length false = S at *
  unfold logA at *
  rw [logD_eq, logC_eq] at c1
  dsimp only [GLog.op] at c1 ⊢
  refine callM_of_pw dec_journal_Append mixed (by simp) (by simp [okV0, nodupB, lim, AObj.isHist]) (by simp [hasN]) fun hwf hwo => ?_
  rw [enterM_eq]; unfold pc_journal_Append
  (try (simp -implicitDefEqProofs only [go_sem, logD_eq, logC_eq, wrsD_len])); repeat' first | with_reducible exact True.intro | with_reducible refine And.intro ?_ ?_ | with_reducible intro _ | (((with_reducible refine isCall ?_); first | (refine call_m ([]) ([((47, 0), (10, 1))]) (c1) (by repeat' first | exact True.intro | exact rfl | refine And.intro ?_ ?_) (by simp [Handed, Ren.get, AObj.ren, AV.ren, AV.ren.renL, View.get, lookO, callF, newS, View.reach, AV.sites, AV.sites.sitesL, View.osites]) (by simp [namesOk, hasN, nodupB, Ren.get, newS, lim, upd]) (by rfl) (by simp only [backC, Ren.get, AObj.ren, AV.ren, AV.ren.renL, and_self, and_true, true_and, if_true, reduceIte]; rfl) ?_)) <;> try (simp -implicitDefEqProofs only [go_sem, logD_eq, logC_eq, wrsD_len])) | (((with_reducible refine vc_b ?_ ?_) <;> intro _) <;> try (simp -implicitDefEqProofs only [go_sem, logD_eq, logC_eq, wrsD_len])) | simp (disch := omega) only [wrapI, wrapU, shl1, shl1', shl1'', shrN, shrN', and_one] 
  all_goals first | omega | rfl | trace_state

theorem JournalOld_ret (l : GLog) (hs : l.sn = true → l.slots = []) (hz : l.disk.zn = true → l.disk.zones = []) (v : GWr) (slot : Int) :
    Ret E0 F_law16_JournalOld [logD l, wrD v, .int .i64 slot] (.bool true) := by
  refine ret_of_pw dec_law16_JournalOld mixed (by simp) fun hwf => ?_
  have c0 := law16_ready_ret l
  have cw := law16_works_ret
  rw [enter_eq]; unfold pc_law16_JournalOld
  cases hf : l.rdy with
  | false =>
    rw [hf] at c0
    (try (simp -implicitDefEqProofs only [go_sem, logD_eq, logC_eq, wrD_eq, wrC_eq])); repeat' first | with_reducible exact True.intro | with_reducible refine And.intro ?_ ?_ | with_reducible intro _ | (((with_reducible refine isCall ?_); first | refine call_b (c0) rfl ?_ ?_ | refine call_d (c0) rfl ?_ | refine call_sb (c0) rfl ?_ ?_ | refine call_s (c0) rfl rfl ?_ | refine call_b (cw) rfl ?_ ?_ | refine call_d (cw) rfl ?_ | refine call_sb (cw) rfl ?_ ?_ | refine call_s (cw) rfl rfl ?_) <;> try (simp -implicitDefEqProofs only [go_sem, logD_eq, logC_eq, wrD_eq, wrC_eq])) | (((with_reducible refine vc_b ?_ ?_) <;> intro _) <;> try (simp -implicitDefEqProofs only [go_sem, logD_eq, logC_eq, wrD_eq, wrC_eq])) | simp (disch := omega) only [wrapI, wrapU, shl1, shl1', shl1'', shrN, shrN', and_one] | ((with_reducible refine isEx2 ?_); refine ⟨(_, _), rfl, ?_, ?_⟩)
    all_goals trace_state
  | true =>
    rw [hf] at c0
    have he := rdy_open' hf
    obtain ⟨e1, e2⟩ := openE_0 he
    have g := check_good e1
    have m1 := g.m1; have m2 := g.m2
    have z2 := (good_of g.d).z2
    have c1 := journal_Recover_ret l hs hz
    rw [recE_of he, he] at c1
    have hkb : l.kept.length ≤ 1001 := by rw [kept_len]; exact many_bound g
    have hx1 : wrsD [v] = [.agg [.int .i64 v.blk, .int .i64 v.val, .int .i64 v.tail]] := rfl
    have b1 := g.b1; have b2 := g.b2
    have ct := ref16_Torn_ret
    rw [recD_eq, recC_eq, badR] at ct
    by_cases hr : 0 ≤ slot ∧ slot < (l.slots.length : Int)
    · obtain ⟨r1, r2⟩ := hr
      obtain ⟨R, hR⟩ : ∃ R, l.slots[slot.toNat]?.getD default = R := ⟨_, rfl⟩
      (try (simp -implicitDefEqProofs only [go_sem, logD_eq, logC_eq, wrD_eq, wrC_eq, recsD_len, eq_true r1, r2])); repeat' first | with_reducible exact True.intro | with_reducible refine And.intro ?_ ?_ | with_reducible intro _ | (((with_reducible refine isCall ?_); first | refine call_b (c0) rfl ?_ ?_ | refine call_d (c0) rfl ?_ | refine call_sb (c0) rfl ?_ ?_ | refine call_s (c0) rfl rfl ?_ | refine call_b (c1) rfl ?_ ?_ | refine call_d (c1) rfl ?_ | refine call_sb (c1) rfl ?_ ?_ | refine call_s (c1) rfl rfl ?_ | refine call_b (cw) rfl ?_ ?_ | refine call_d (cw) rfl ?_ | refine call_sb (cw) rfl ?_ ?_ | refine call_s (cw) rfl rfl ?_) <;> try (simp -implicitDefEqProofs only [go_sem, logD_eq, logC_eq, wrD_eq, wrC_eq, recsD_len, eq_true r1, r2])) | (((with_reducible refine vc_b ?_ ?_) <;> intro _) <;> try (simp -implicitDefEqProofs only [go_sem, logD_eq, logC_eq, wrD_eq, wrC_eq, recsD_len, eq_true r1, r2])) | simp (disch := omega) only [wrapI, wrapU, shl1, shl1', shl1'', shrN, shrN', and_one] | ((with_reducible refine isEx2 ?_); refine ⟨(_, _), rfl, ?_, ?_⟩)
      all_goals (try omega)
      refine pw_loopS (α := Int × Bool) (l0 := ?l1) (m0 := ?m1) (fun x => [(10, .d (.int .i64 x.1)), (9, .d (.bool x.2))]) (fun x => []) (fun x => (0 ≤ x.1 ∧ x.1 ≤ l.kept.length) ∧ x.2 = anyR l.kept R x.1.toNat) (fun x => (l.kept.length - x.1).toNat) (?a1_0, ?a1_1) ?h01 ?he1 ?he21 ?hI1 ?step1
      case h01 => (simp -implicitDefEqProofs only [go_sem, recsD_len]; rfl)
      case he1 => rfl
      case he21 => rfl
      case' step1 => (rintro ⟨i, b⟩ hI; try dsimp only at hI)
      case' hI1 => try dsimp only
      · exact ⟨⟨by omega, by omega⟩, rfl⟩
      · obtain ⟨⟨q1, q2⟩, q3⟩ := hI
        by_cases hi : i < l.kept.length
        · have w1 : IntKind.i64.wrap (i + 1) = i + 1 := wrapI _ (by omega)
          have hnx := anyR_next l.kept R i q1
          rw [← q3] at hnx
          obtain ⟨k, hk⟩ : ∃ k, l.kept[i.toNat]?.getD default = k := ⟨_, rfl⟩
          rw [hk] at hnx
          cases b with
          | true =>
            rw [Bool.true_or] at hnx
            (try (simp -implicitDefEqProofs only [go_sem, recsD_len, hi, w1])); repeat' first | with_reducible exact True.intro | with_reducible refine And.intro ?_ ?_ | with_reducible intro _ | (((with_reducible refine vc_b ?_ ?_) <;> intro _) <;> try (simp -implicitDefEqProofs only [go_sem, recsD_len, hi, w1])) | simp (disch := omega) only [wrapI, wrapU, shl1, shl1', shl1'', shrN, shrN', and_one] | ((with_reducible refine isEx2 ?_); refine ⟨(_, _), rfl, ?_, ?_⟩)
            all_goals first | omega | exact hnx.symm | trace_state
          | false =>
            rw [Bool.false_or] at hnx
            by_cases hkr : k = R
            · rw [sameR_iff.2 hkr] at hnx
              rw [← hkr] at hR
              (try (simp -implicitDefEqProofs only [go_sem, recsD_len, onSome_recs, recsD_unif, recD_eq, recC_eq, hk, hR, r1, r2, q1, hi, w1])); repeat' first | with_reducible exact True.intro | with_reducible refine And.intro ?_ ?_ | with_reducible intro _ | (((with_reducible refine vc_b ?_ ?_) <;> intro _) <;> try (simp -implicitDefEqProofs only [go_sem, recsD_len, onSome_recs, recsD_unif, recD_eq, recC_eq, hk, hR, r1, r2, q1, hi, w1])) | simp (disch := omega) only [wrapI, wrapU, shl1, shl1', shl1'', shrN, shrN', and_one] | ((with_reducible refine isEx2 ?_); refine ⟨(_, _), rfl, ?_, ?_⟩)
              all_goals first | omega | exact hnx.symm | trace_state
            · have hsr : sameR k R = false := by
                cases h : sameR k R with
                | false => rfl
                | true => exact absurd (sameR_iff.1 h) hkr
              rw [hsr] at hnx
              have hd : ¬ (k.num = R.num ∧ k.blk = R.blk ∧ k.val = R.val ∧ k.tail = R.tail ∧ k.bad = R.bad) := fun h => hkr (GRec.ext' h.1 h.2.1 h.2.2.1 h.2.2.2.1 h.2.2.2.2)
              (try (simp -implicitDefEqProofs only [go_sem, recsD_len, onSome_recs, recsD_unif, recD_eq, recC_eq, hk, hR, r1, r2, q1, hi, w1, hd])); repeat' first | with_reducible exact True.intro | with_reducible refine And.intro ?_ ?_ | with_reducible intro _ | (((with_reducible refine vc_b ?_ ?_) <;> intro _) <;> try (simp -implicitDefEqProofs only [go_sem, recsD_len, onSome_recs, recsD_unif, recD_eq, recC_eq, hk, hR, r1, r2, q1, hi, w1, hd])) | simp (disch := omega) only [wrapI, wrapU, shl1, shl1', shl1'', shrN, shrN', and_one] | ((with_reducible refine isEx2 ?_); refine ⟨(_, _), rfl, ?_, ?_⟩)
              all_goals first | omega | exact hnx.symm | trace_state
        · have hie : i.toNat = l.kept.length := by omega
          rw [hie] at q3
          cases b with
          | true =>
            rcases appE_kind l.blocks l.slots v with hx | hx | hx | hx
            · have hE : errN l.blocks l.slots [v] [v].length = 0 := by rw [errN_one', hx]
              have ca := own_Append l he hs hz false [v] (by simp) hE
              rw [cutS_one, hx1] at ca
              have a0 := appE_0 hx
              obtain ⟨_, _, a3, a4, a5⟩ := a0
              obtain ⟨n1, n2, n3⟩ := newest_good g
              rw [newest_eq] at n1 n2 n3
              have gop := op_good g
              have hc' : l.op.check = 0 := (op_check l).trans e1
              have hf' : l.op.full = true := (setS_full_congr (l := l) (k := l.op) rfl).trans e2
              have u1 := put_check (l := l.op) hc' gop (x := v) hx
              have u2 := put_newest (l := l.op) gop (x := v) hx
              have k2 := ref16_Check_ret (l.op.setS (putS l.slots v))
              have k3 := ref16_Newest_ret (l.op.setS (putS l.slots v))
              have u1' : (l.op.setS (putS l.slots v)).check = 0 := u1
              have u2' : (l.op.setS (putS l.slots v)).newest = recS l.slots v := u2
              rw [u1'] at k2
              rw [u2'] at k3
              obtain ⟨t1, t2, t3, t4⟩ := torn_all (l := l.op) hc' gop a4
              have hr9 := own_Recover (l.op.setS (tornS l.slots)) (openE_of t1 (t4.trans hf')) (fun h => by have h' : (l.disk.zn && l.disk.zones.isEmpty) = true := h; rw [Bool.and_eq_true] at h'; show l.disk.zones = []; simpa using h'.2)
              have t3' : (l.op.setS (tornS l.slots)).kept = l.kept := t3.trans (setS_kept_congr rfl)
              rw [t3'] at hr9
              have hcs := law16_sameRecords_ret l.kept.isEmpty l.kept.isEmpty l.kept l.kept true (by simp)
              obtain ⟨N, hN⟩ : ∃ N, (nwS l.slots).num + 1 = N := ⟨_, rfl⟩
              have k3' : Ret E0 F_ref16_Newest [logD (l.op.setS (putS l.slots v))] (.tup [.int .i64 N, .int .i64 v.tail]) := by rw [← hN]; exact k3
              have hp : nxS l.slots = (N.tmod l.slots.length).toNat := by rw [← hN]; rfl
              have hts : tornS l.slots = (putS l.slots v).set (nxS l.slots) ⟨0, 0, 0, 0, true⟩ := by unfold tornS putS badR; rw [List.set_set]
              have hpl := putS_len l.slots v
              rw [hts] at hr9
              have tt := tmod_range (n := N) (m := l.slots.length) (by omega) (by omega)
              rw [hp] at hr9
              clear k3 u1 u2 u1' u2' hts t1 t2 t3 t4 t3'
              obtain ⟨S, hS⟩ : ∃ S, putS l.slots v = S := ⟨_, rfl⟩
              rw [hS] at ca k2 k3' hr9 hpl
              unfold logA at ca hr9
              rw [logD_eq, logC_eq] at ca k2 k3'
              simp only [GLog.setS, GLog.op] at ca k2 k3' hr9
              have hmx : max 0 N = N := by omega
              have hlen2 : ¬ (S.length : Int) = 0 := by omega
              have tt' : 0 ≤ N.tmod S.length ∧ N.tmod S.length < S.length := by rw [hpl]; omega
              rw [← hpl] at hr9
              have hpl' : (S.length : Int) = l.slots.length := by omega
              (try (simp -implicitDefEqProofs only [go_sem, logD_eq, logC_eq, wrD_eq, wrC_eq, recsD_len, hi, onSome_recs, recsD_unif, recD_eq, recC_eq, recsD_set, hmx, hlen2, tt'.1, tt'.2, eq_true hpl'])); repeat' first | with_reducible exact True.intro | with_reducible refine And.intro ?_ ?_ | with_reducible intro _ | (((with_reducible refine isCall ?_); first | refine call_b (c0) rfl ?_ ?_ | refine call_d (c0) rfl ?_ | refine call_sb (c0) rfl ?_ ?_ | refine call_s (c0) rfl rfl ?_ | refine call_b (c1) rfl ?_ ?_ | refine call_d (c1) rfl ?_ | refine call_sb (c1) rfl ?_ ?_ | refine call_s (c1) rfl rfl ?_ | (refine call_m ([]) ([((10, 1), (85, 1))]) (ca) (by repeat' first | exact True.intro | exact rfl | refine And.intro ?_ ?_) (by simp [Handed, Ren.get, AObj.ren, AV.ren, AV.ren.renL, View.get, lookO, callF, newS, View.reach, AV.sites, AV.sites.sitesL, View.osites]) (by simp [namesOk, hasN, nodupB, Ren.get, newS, lim, upd]) (by rfl) (by simp only [backC, Ren.get, AObj.ren, AV.ren, AV.ren.renL, and_self, and_true, true_and, if_true, reduceIte]; rfl) ?_) | refine call_b (k2) rfl ?_ ?_ | refine call_d (k2) rfl ?_ | refine call_sb (k2) rfl ?_ ?_ | refine call_s (k2) rfl rfl ?_ | refine call_s (k3') rfl (by simp [D.flat, D.flat1, D.prim]) ?_ | refine call_b (ct) rfl ?_ ?_ | refine call_d (ct) rfl ?_ | refine call_sb (ct) rfl ?_ ?_ | refine call_s (ct) rfl rfl ?_ | (refine call_m ([((901000, 0), (85, 1))]) ([((901000, 0), (85, 1))]) (hr9) (by repeat' first | exact True.intro | exact rfl | refine And.intro ?_ ?_) (by simp [Handed, Ren.get, AObj.ren, AV.ren, AV.ren.renL, View.get, lookO, callF, newS, View.reach, AV.sites, AV.sites.sitesL, View.osites]) (by simp [namesOk, hasN, nodupB, Ren.get, newS, lim, upd]) (by rfl) (by simp only [backC, Ren.get, AObj.ren, AV.ren, AV.ren.renL, and_self, and_true, true_and, if_true, reduceIte]; rfl) ?_) | refine call_b (hcs) rfl ?_ ?_ | refine call_d (hcs) rfl ?_ | refine call_sb (hcs) rfl ?_ ?_ | refine call_s (hcs) rfl rfl ?_ | refine call_b (cw) rfl ?_ ?_ | refine call_d (cw) rfl ?_ | refine call_sb (cw) rfl ?_ ?_ | refine call_s (cw) rfl rfl ?_) <;> try (simp -implicitDefEqProofs only [go_sem, logD_eq, logC_eq, wrD_eq, wrC_eq, recsD_len, hi, onSome_recs, recsD_unif, recD_eq, recC_eq, recsD_set, hmx, hlen2, tt'.1, tt'.2, eq_true hpl'])) | (((with_reducible refine vc_b ?_ ?_) <;> intro _) <;> try (simp -implicitDefEqProofs only [go_sem, logD_eq, logC_eq, wrD_eq, wrC_eq, recsD_len, hi, onSome_recs, recsD_unif, recD_eq, recC_eq, recsD_set, hmx, hlen2, tt'.1, tt'.2, eq_true hpl'])) | simp (disch := omega) only [wrapI, wrapU, shl1, shl1', shl1'', shrN, shrN', and_one] | ((with_reducible refine isEx2 ?_); refine ⟨(_, _), rfl, ?_, ?_⟩)
              all_goals first | omega | rfl | exact .inl True.intro | trace_state
            all_goals
              have hE := errN_one' l.blocks l.slots v
              rw [hx] at hE
              have ca := journal_Append_ret l hs hz false [v]
              rw [cutE_of he [v] [v].length false (by omega) (fun h => by cases h), hE, hx1] at ca
              (try (simp -implicitDefEqProofs only [go_sem, logD_eq, logC_eq, wrD_eq, wrC_eq, recsD_len, hi])); repeat' first | with_reducible exact True.intro | with_reducible refine And.intro ?_ ?_ | with_reducible intro _ | (((with_reducible refine isCall ?_); first | refine call_b (c0) rfl ?_ ?_ | refine call_d (c0) rfl ?_ | refine call_sb (c0) rfl ?_ ?_ | refine call_s (c0) rfl rfl ?_ | refine call_b (c1) rfl ?_ ?_ | refine call_d (c1) rfl ?_ | refine call_sb (c1) rfl ?_ ?_ | refine call_s (c1) rfl rfl ?_ | refine call_b (ca) rfl ?_ ?_ | refine call_d (ca) rfl ?_ | refine call_sb (ca) rfl ?_ ?_ | refine call_s (ca) rfl rfl ?_ | refine call_b (cw) rfl ?_ ?_ | refine call_d (cw) rfl ?_ | refine call_sb (cw) rfl ?_ ?_ | refine call_s (cw) rfl rfl ?_) <;> try (simp -implicitDefEqProofs only [go_sem, logD_eq, logC_eq, wrD_eq, wrC_eq, recsD_len, hi])) | (((with_reducible refine vc_b ?_ ?_) <;> intro _) <;> try (simp -implicitDefEqProofs only [go_sem, logD_eq, logC_eq, wrD_eq, wrC_eq, recsD_len, hi])) | simp (disch := omega) only [wrapI, wrapU, shl1, shl1', shl1'', shrN, shrN', and_one] | ((with_reducible refine isEx2 ?_); refine ⟨(_, _), rfl, ?_, ?_⟩)
              all_goals first | omega | rfl | exact .inl True.intro | trace_state
          | false =>
            rw [← hR] at q3
            obtain ⟨f1, f2⟩ := cpy_chk he
            obtain ⟨t1, t2⟩ := torn_slot (l := l.cpy) f1 f2 (free_slot (l := l.cpy) (check_good f1) q3.symm)
            have cc := own_Copy l (by omega) (by omega) (by omega)
            have cr := own_Recover (l.cpy.setS (l.cpy.slots.set slot.toNat badR)) t1 (fun h => by cases h)
            rw [t2, cpy_kept'] at cr
            have cs := law16_sameRecords_ret l.kept.isEmpty l.kept.isEmpty l.kept l.kept true (by simp)
            unfold logA at cc cr
            rw [logD_eq, logC_eq] at cc
            simp only [GLog.setS, GLog.cpy, GDisk.cp, badR] at cc cr
            (try (simp -implicitDefEqProofs only [go_sem, logD_eq, logC_eq, wrD_eq, wrC_eq, recsD_len, hi, onSome_recs, recsD_unif, recD_eq, recC_eq, recsD_set, r1, r2])); repeat' first | with_reducible exact True.intro | with_reducible refine And.intro ?_ ?_ | with_reducible intro _ | (((with_reducible refine isCall ?_); first | (refine call_m ([]) ([((12, 1), (62, 1))]) (cc) (by repeat' first | exact True.intro | exact rfl | refine And.intro ?_ ?_) (by simp [Handed, Ren.get, AObj.ren, AV.ren, AV.ren.renL, View.get, lookO, callF, newS, View.reach, AV.sites, AV.sites.sitesL, View.osites]) (by simp [namesOk, hasN, nodupB, Ren.get, newS, lim, upd]) (by rfl) (by simp only [backC, Ren.get, AObj.ren, AV.ren, AV.ren.renL, and_self, and_true, true_and, if_true, reduceIte]; rfl) ?_) | refine call_b (ct) rfl ?_ ?_ | refine call_d (ct) rfl ?_ | refine call_sb (ct) rfl ?_ ?_ | refine call_s (ct) rfl rfl ?_ | (refine call_m ([((901000, 0), (62, 1))]) ([((901000, 0), (62, 1))]) (cr) (by repeat' first | exact True.intro | exact rfl | refine And.intro ?_ ?_) (by simp [Handed, Ren.get, AObj.ren, AV.ren, AV.ren.renL, View.get, lookO, callF, newS, View.reach, AV.sites, AV.sites.sitesL, View.osites]) (by simp [namesOk, hasN, nodupB, Ren.get, newS, lim, upd]) (by rfl) (by simp only [backC, Ren.get, AObj.ren, AV.ren, AV.ren.renL, and_self, and_true, true_and, if_true, reduceIte]; rfl) ?_) | refine call_b (cs) rfl ?_ ?_ | refine call_d (cs) rfl ?_ | refine call_sb (cs) rfl ?_ ?_ | refine call_s (cs) rfl rfl ?_) <;> try (simp -implicitDefEqProofs only [go_sem, logD_eq, logC_eq, wrD_eq, wrC_eq, recsD_len, hi, onSome_recs, recsD_unif, recD_eq, recC_eq, recsD_set, r1, r2])) | (((with_reducible refine vc_b ?_ ?_) <;> intro _) <;> try (simp -implicitDefEqProofs only [go_sem, logD_eq, logC_eq, wrD_eq, wrC_eq, recsD_len, hi, onSome_recs, recsD_unif, recD_eq, recC_eq, recsD_set, r1, r2])) | simp (disch := omega) only [wrapI, wrapU, shl1, shl1', shl1'', shrN, shrN', and_one] | ((with_reducible refine isEx2 ?_); refine ⟨(_, _), rfl, ?_, ?_⟩)
            all_goals (first | omega | exact .inl True.intro | skip)
            clear cc cr cs t1 t2 f1 f2
            rcases appE_kind l.blocks l.slots v with hx | hx | hx | hx
            · have hE : errN l.blocks l.slots [v] [v].length = 0 := by rw [errN_one', hx]
              have ca := own_Append l he hs hz false [v] (by simp) hE
              rw [cutS_one, hx1] at ca
              have a0 := appE_0 hx
              obtain ⟨_, _, a3, a4, a5⟩ := a0
              obtain ⟨n1, n2, n3⟩ := newest_good g
              rw [newest_eq] at n1 n2 n3
              have gop := op_good g
              have hc' : l.op.check = 0 := (op_check l).trans e1
              have hf' : l.op.full = true := (setS_full_congr (l := l) (k := l.op) rfl).trans e2
              have u1 := put_check (l := l.op) hc' gop (x := v) hx
              have u2 := put_newest (l := l.op) gop (x := v) hx
              have k2 := ref16_Check_ret (l.op.setS (putS l.slots v))
              have k3 := ref16_Newest_ret (l.op.setS (putS l.slots v))
              have u1' : (l.op.setS (putS l.slots v)).check = 0 := u1
              have u2' : (l.op.setS (putS l.slots v)).newest = recS l.slots v := u2
              rw [u1'] at k2
              rw [u2'] at k3
              obtain ⟨t1, t2, t3, t4⟩ := torn_all (l := l.op) hc' gop a4
              have hr9 := own_Recover (l.op.setS (tornS l.slots)) (openE_of t1 (t4.trans hf')) (fun h => by have h' : (l.disk.zn && l.disk.zones.isEmpty) = true := h; rw [Bool.and_eq_true] at h'; show l.disk.zones = []; simpa using h'.2)
              have t3' : (l.op.setS (tornS l.slots)).kept = l.kept := t3.trans (setS_kept_congr rfl)
              rw [t3'] at hr9
              have hcs := law16_sameRecords_ret l.kept.isEmpty l.kept.isEmpty l.kept l.kept true (by simp)
              obtain ⟨N, hN⟩ : ∃ N, (nwS l.slots).num + 1 = N := ⟨_, rfl⟩
              have k3' : Ret E0 F_ref16_Newest [logD (l.op.setS (putS l.slots v))] (.tup [.int .i64 N, .int .i64 v.tail]) := by rw [← hN]; exact k3
              have hp : nxS l.slots = (N.tmod l.slots.length).toNat := by rw [← hN]; rfl
              have hts : tornS l.slots = (putS l.slots v).set (nxS l.slots) ⟨0, 0, 0, 0, true⟩ := by unfold tornS putS badR; rw [List.set_set]
              have hpl := putS_len l.slots v
              rw [hts] at hr9
              have tt := tmod_range (n := N) (m := l.slots.length) (by omega) (by omega)
              rw [hp] at hr9
              clear k3 u1 u2 u1' u2' hts t1 t2 t3 t4 t3'
              obtain ⟨S, hS⟩ : ∃ S, putS l.slots v = S := ⟨_, rfl⟩
              rw [hS] at ca k2 k3' hr9 hpl
              unfold logA at ca hr9
              rw [logD_eq, logC_eq] at ca k2 k3'
              simp only [GLog.setS, GLog.op] at ca k2 k3' hr9
              have hmx : max 0 N = N := by omega
              have hlen2 : ¬ (S.length : Int) = 0 := by omega
              have tt' : 0 ≤ N.tmod S.length ∧ N.tmod S.length < S.length := by rw [hpl]; omega
              rw [← hpl] at hr9
              have hpl' : (S.length : Int) = l.slots.length := by omega
              (try (simp -implicitDefEqProofs only [go_sem, logD_eq, logC_eq, wrD_eq, wrC_eq, recsD_len, hi, onSome_recs, recsD_unif, recD_eq, recC_eq, recsD_set, r1, r2, onSome_recs, recsD_unif, recD_eq, recC_eq, recsD_set, hmx, hlen2, tt'.1, tt'.2, eq_true hpl'])); repeat' first | with_reducible exact True.intro | with_reducible refine And.intro ?_ ?_ | with_reducible intro _ | (((with_reducible refine isCall ?_); first | refine call_b (ct) rfl ?_ ?_ | refine call_d (ct) rfl ?_ | refine call_sb (ct) rfl ?_ ?_ | refine call_s (ct) rfl rfl ?_ | (refine call_m ([]) ([((10, 1), (85, 1))]) (ca) (by repeat' first | exact True.intro | exact rfl | refine And.intro ?_ ?_) (by simp [Handed, Ren.get, AObj.ren, AV.ren, AV.ren.renL, View.get, lookO, callF, newS, View.reach, AV.sites, AV.sites.sitesL, View.osites]) (by simp [namesOk, hasN, nodupB, Ren.get, newS, lim, upd]) (by rfl) (by simp only [backC, Ren.get, AObj.ren, AV.ren, AV.ren.renL, and_self, and_true, true_and, if_true, reduceIte]; rfl) ?_) | refine call_b (k2) rfl ?_ ?_ | refine call_d (k2) rfl ?_ | refine call_sb (k2) rfl ?_ ?_ | refine call_s (k2) rfl rfl ?_ | refine call_s (k3') rfl (by simp [D.flat, D.flat1, D.prim]) ?_ | refine call_b (ct) rfl ?_ ?_ | refine call_d (ct) rfl ?_ | refine call_sb (ct) rfl ?_ ?_ | refine call_s (ct) rfl rfl ?_ | (refine call_m ([((901000, 0), (85, 1))]) ([((901000, 0), (85, 1))]) (hr9) (by repeat' first | exact True.intro | exact rfl | refine And.intro ?_ ?_) (by simp [Handed, Ren.get, AObj.ren, AV.ren, AV.ren.renL, View.get, lookO, callF, newS, View.reach, AV.sites, AV.sites.sitesL, View.osites]) (by simp [namesOk, hasN, nodupB, Ren.get, newS, lim, upd]) (by rfl) (by simp only [backC, Ren.get, AObj.ren, AV.ren, AV.ren.renL, and_self, and_true, true_and, if_true, reduceIte]; rfl) ?_) | refine call_b (hcs) rfl ?_ ?_ | refine call_d (hcs) rfl ?_ | refine call_sb (hcs) rfl ?_ ?_ | refine call_s (hcs) rfl rfl ?_ | refine call_b (cw) rfl ?_ ?_ | refine call_d (cw) rfl ?_ | refine call_sb (cw) rfl ?_ ?_ | refine call_s (cw) rfl rfl ?_) <;> try (simp -implicitDefEqProofs only [go_sem, logD_eq, logC_eq, wrD_eq, wrC_eq, recsD_len, hi, onSome_recs, recsD_unif, recD_eq, recC_eq, recsD_set, r1, r2, onSome_recs, recsD_unif, recD_eq, recC_eq, recsD_set, hmx, hlen2, tt'.1, tt'.2, eq_true hpl'])) | (((with_reducible refine vc_b ?_ ?_) <;> intro _) <;> try (simp -implicitDefEqProofs only [go_sem, logD_eq, logC_eq, wrD_eq, wrC_eq, recsD_len, hi, onSome_recs, recsD_unif, recD_eq, recC_eq, recsD_set, r1, r2, onSome_recs, recsD_unif, recD_eq, recC_eq, recsD_set, hmx, hlen2, tt'.1, tt'.2, eq_true hpl'])) | simp (disch := omega) only [wrapI, wrapU, shl1, shl1', shl1'', shrN, shrN', and_one] | ((with_reducible refine isEx2 ?_); refine ⟨(_, _), rfl, ?_, ?_⟩)
              all_goals first | omega | rfl | exact .inl True.intro | trace_state
            all_goals
              have hE := errN_one' l.blocks l.slots v
              rw [hx] at hE
              have ca := journal_Append_ret l hs hz false [v]
              rw [cutE_of he [v] [v].length false (by omega) (fun h => by cases h), hE, hx1] at ca
              (try (simp -implicitDefEqProofs only [go_sem, logD_eq, logC_eq, wrD_eq, wrC_eq, recsD_len, hi, onSome_recs, recsD_unif, recD_eq, recC_eq, recsD_set, r1, r2])); repeat' first | with_reducible exact True.intro | with_reducible refine And.intro ?_ ?_ | with_reducible intro _ | (((with_reducible refine isCall ?_); first | refine call_b (ct) rfl ?_ ?_ | refine call_d (ct) rfl ?_ | refine call_sb (ct) rfl ?_ ?_ | refine call_s (ct) rfl rfl ?_ | refine call_b (ca) rfl ?_ ?_ | refine call_d (ca) rfl ?_ | refine call_sb (ca) rfl ?_ ?_ | refine call_s (ca) rfl rfl ?_ | refine call_b (cw) rfl ?_ ?_ | refine call_d (cw) rfl ?_ | refine call_sb (cw) rfl ?_ ?_ | refine call_s (cw) rfl rfl ?_) <;> try (simp -implicitDefEqProofs only [go_sem, logD_eq, logC_eq, wrD_eq, wrC_eq, recsD_len, hi, onSome_recs, recsD_unif, recD_eq, recC_eq, recsD_set, r1, r2])) | (((with_reducible refine vc_b ?_ ?_) <;> intro _) <;> try (simp -implicitDefEqProofs only [go_sem, logD_eq, logC_eq, wrD_eq, wrC_eq, recsD_len, hi, onSome_recs, recsD_unif, recD_eq, recC_eq, recsD_set, r1, r2])) | simp (disch := omega) only [wrapI, wrapU, shl1, shl1', shl1'', shrN, shrN', and_one] | ((with_reducible refine isEx2 ?_); refine ⟨(_, _), rfl, ?_, ?_⟩)
              all_goals first | omega | rfl | exact .inl True.intro | trace_state
    · by_cases r1 : 0 ≤ slot
      · have r2 : ¬ slot < (l.slots.length : Int) := by omega
        rcases appE_kind l.blocks l.slots v with hx | hx | hx | hx
        · have hE : errN l.blocks l.slots [v] [v].length = 0 := by rw [errN_one', hx]
          have ca := own_Append l he hs hz false [v] (by simp) hE
          rw [cutS_one, hx1] at ca
          have a0 := appE_0 hx
          obtain ⟨_, _, a3, a4, a5⟩ := a0
          obtain ⟨n1, n2, n3⟩ := newest_good g
          rw [newest_eq] at n1 n2 n3
          have gop := op_good g
          have hc' : l.op.check = 0 := (op_check l).trans e1
          have hf' : l.op.full = true := (setS_full_congr (l := l) (k := l.op) rfl).trans e2
          have u1 := put_check (l := l.op) hc' gop (x := v) hx
          have u2 := put_newest (l := l.op) gop (x := v) hx
          have k2 := ref16_Check_ret (l.op.setS (putS l.slots v))
          have k3 := ref16_Newest_ret (l.op.setS (putS l.slots v))
          have u1' : (l.op.setS (putS l.slots v)).check = 0 := u1
          have u2' : (l.op.setS (putS l.slots v)).newest = recS l.slots v := u2
          rw [u1'] at k2
          rw [u2'] at k3
          obtain ⟨t1, t2, t3, t4⟩ := torn_all (l := l.op) hc' gop a4
          have hr9 := own_Recover (l.op.setS (tornS l.slots)) (openE_of t1 (t4.trans hf')) (fun h => by have h' : (l.disk.zn && l.disk.zones.isEmpty) = true := h; rw [Bool.and_eq_true] at h'; show l.disk.zones = []; simpa using h'.2)
          have t3' : (l.op.setS (tornS l.slots)).kept = l.kept := t3.trans (setS_kept_congr rfl)
          rw [t3'] at hr9
          have hcs := law16_sameRecords_ret l.kept.isEmpty l.kept.isEmpty l.kept l.kept true (by simp)
          obtain ⟨N, hN⟩ : ∃ N, (nwS l.slots).num + 1 = N := ⟨_, rfl⟩
          have k3' : Ret E0 F_ref16_Newest [logD (l.op.setS (putS l.slots v))] (.tup [.int .i64 N, .int .i64 v.tail]) := by rw [← hN]; exact k3
          have hp : nxS l.slots = (N.tmod l.slots.length).toNat := by rw [← hN]; rfl
          have hts : tornS l.slots = (putS l.slots v).set (nxS l.slots) ⟨0, 0, 0, 0, true⟩ := by unfold tornS putS badR; rw [List.set_set]
          have hpl := putS_len l.slots v
          rw [hts] at hr9
          have tt := tmod_range (n := N) (m := l.slots.length) (by omega) (by omega)
          rw [hp] at hr9
          clear k3 u1 u2 u1' u2' hts t1 t2 t3 t4 t3'
          obtain ⟨S, hS⟩ : ∃ S, putS l.slots v = S := ⟨_, rfl⟩
          rw [hS] at ca k2 k3' hr9 hpl
          unfold logA at ca hr9
          rw [logD_eq, logC_eq] at ca k2 k3'
          simp only [GLog.setS, GLog.op] at ca k2 k3' hr9
          have hmx : max 0 N = N := by omega
          have hlen2 : ¬ (S.length : Int) = 0 := by omega
          have tt' : 0 ≤ N.tmod S.length ∧ N.tmod S.length < S.length := by rw [hpl]; omega
          rw [← hpl] at hr9
          have hpl' : (S.length : Int) = l.slots.length := by omega
          (try (simp -implicitDefEqProofs only [go_sem, logD_eq, logC_eq, wrD_eq, wrC_eq, recsD_len, eq_true r1, r2, onSome_recs, recsD_unif, recD_eq, recC_eq, recsD_set, hmx, hlen2, tt'.1, tt'.2, eq_true hpl'])); repeat' first | with_reducible exact True.intro | with_reducible refine And.intro ?_ ?_ | with_reducible intro _ | (((with_reducible refine isCall ?_); first | refine call_b (c0) rfl ?_ ?_ | refine call_d (c0) rfl ?_ | refine call_sb (c0) rfl ?_ ?_ | refine call_s (c0) rfl rfl ?_ | refine call_b (c1) rfl ?_ ?_ | refine call_d (c1) rfl ?_ | refine call_sb (c1) rfl ?_ ?_ | refine call_s (c1) rfl rfl ?_ | (refine call_m ([]) ([((10, 1), (85, 0))]) (ca) (by repeat' first | exact True.intro | exact rfl | refine And.intro ?_ ?_) (by simp [Handed, Ren.get, AObj.ren, AV.ren, AV.ren.renL, View.get, lookO, callF, newS, View.reach, AV.sites, AV.sites.sitesL, View.osites]) (by simp [namesOk, hasN, nodupB, Ren.get, newS, lim, upd]) (by rfl) (by simp only [backC, Ren.get, AObj.ren, AV.ren, AV.ren.renL, and_self, and_true, true_and, if_true, reduceIte]; rfl) ?_) | refine call_b (k2) rfl ?_ ?_ | refine call_d (k2) rfl ?_ | refine call_sb (k2) rfl ?_ ?_ | refine call_s (k2) rfl rfl ?_ | refine call_s (k3') rfl (by simp [D.flat, D.flat1, D.prim]) ?_ | refine call_b (ct) rfl ?_ ?_ | refine call_d (ct) rfl ?_ | refine call_sb (ct) rfl ?_ ?_ | refine call_s (ct) rfl rfl ?_ | (refine call_m ([((901000, 0), (85, 0))]) ([((901000, 0), (85, 0))]) (hr9) (by repeat' first | exact True.intro | exact rfl | refine And.intro ?_ ?_) (by simp [Handed, Ren.get, AObj.ren, AV.ren, AV.ren.renL, View.get, lookO, callF, newS, View.reach, AV.sites, AV.sites.sitesL, View.osites]) (by simp [namesOk, hasN, nodupB, Ren.get, newS, lim, upd]) (by rfl) (by simp only [backC, Ren.get, AObj.ren, AV.ren, AV.ren.renL, and_self, and_true, true_and, if_true, reduceIte]; rfl) ?_) | refine call_b (hcs) rfl ?_ ?_ | refine call_d (hcs) rfl ?_ | refine call_sb (hcs) rfl ?_ ?_ | refine call_s (hcs) rfl rfl ?_ | refine call_b (cw) rfl ?_ ?_ | refine call_d (cw) rfl ?_ | refine call_sb (cw) rfl ?_ ?_ | refine call_s (cw) rfl rfl ?_) <;> try (simp -implicitDefEqProofs only [go_sem, logD_eq, logC_eq, wrD_eq, wrC_eq, recsD_len, eq_true r1, r2, onSome_recs, recsD_unif, recD_eq, recC_eq, recsD_set, hmx, hlen2, tt'.1, tt'.2, eq_true hpl'])) | (((with_reducible refine vc_b ?_ ?_) <;> intro _) <;> try (simp -implicitDefEqProofs only [go_sem, logD_eq, logC_eq, wrD_eq, wrC_eq, recsD_len, eq_true r1, r2, onSome_recs, recsD_unif, recD_eq, recC_eq, recsD_set, hmx, hlen2, tt'.1, tt'.2, eq_true hpl'])) | simp (disch := omega) only [wrapI, wrapU, shl1, shl1', shl1'', shrN, shrN', and_one] | ((with_reducible refine isEx2 ?_); refine ⟨(_, _), rfl, ?_, ?_⟩)
          all_goals first | omega | rfl | exact .inl True.intro | trace_state
        all_goals
          have hE := errN_one' l.blocks l.slots v
          rw [hx] at hE
          have ca := journal_Append_ret l hs hz false [v]
          rw [cutE_of he [v] [v].length false (by omega) (fun h => by cases h), hE, hx1] at ca
          (try (simp -implicitDefEqProofs only [go_sem, logD_eq, logC_eq, wrD_eq, wrC_eq, recsD_len, eq_true r1, r2])); repeat' first | with_reducible exact True.intro | with_reducible refine And.intro ?_ ?_ | with_reducible intro _ | (((with_reducible refine isCall ?_); first | refine call_b (c0) rfl ?_ ?_ | refine call_d (c0) rfl ?_ | refine call_sb (c0) rfl ?_ ?_ | refine call_s (c0) rfl rfl ?_ | refine call_b (c1) rfl ?_ ?_ | refine call_d (c1) rfl ?_ | refine call_sb (c1) rfl ?_ ?_ | refine call_s (c1) rfl rfl ?_ | refine call_b (ca) rfl ?_ ?_ | refine call_d (ca) rfl ?_ | refine call_sb (ca) rfl ?_ ?_ | refine call_s (ca) rfl rfl ?_ | refine call_b (cw) rfl ?_ ?_ | refine call_d (cw) rfl ?_ | refine call_sb (cw) rfl ?_ ?_ | refine call_s (cw) rfl rfl ?_) <;> try (simp -implicitDefEqProofs only [go_sem, logD_eq, logC_eq, wrD_eq, wrC_eq, recsD_len, eq_true r1, r2])) | (((with_reducible refine vc_b ?_ ?_) <;> intro _) <;> try (simp -implicitDefEqProofs only [go_sem, logD_eq, logC_eq, wrD_eq, wrC_eq, recsD_len, eq_true r1, r2])) | simp (disch := omega) only [wrapI, wrapU, shl1, shl1', shl1'', shrN, shrN', and_one] | ((with_reducible refine isEx2 ?_); refine ⟨(_, _), rfl, ?_, ?_⟩)
          all_goals first | omega | rfl | exact .inl True.intro | trace_state
      · have r1' : slot < 0 := by omega
        rcases appE_kind l.blocks l.slots v with hx | hx | hx | hx
        · have hE : errN l.blocks l.slots [v] [v].length = 0 := by rw [errN_one', hx]
          have ca := own_Append l he hs hz false [v] (by simp) hE
          rw [cutS_one, hx1] at ca
          have a0 := appE_0 hx
          obtain ⟨_, _, a3, a4, a5⟩ := a0
          obtain ⟨n1, n2, n3⟩ := newest_good g
          rw [newest_eq] at n1 n2 n3
          have gop := op_good g
          have hc' : l.op.check = 0 := (op_check l).trans e1
          have hf' : l.op.full = true := (setS_full_congr (l := l) (k := l.op) rfl).trans e2
          have u1 := put_check (l := l.op) hc' gop (x := v) hx
          have u2 := put_newest (l := l.op) gop (x := v) hx
          have k2 := ref16_Check_ret (l.op.setS (putS l.slots v))
          have k3 := ref16_Newest_ret (l.op.setS (putS l.slots v))
          have u1' : (l.op.setS (putS l.slots v)).check = 0 := u1
          have u2' : (l.op.setS (putS l.slots v)).newest = recS l.slots v := u2
          rw [u1'] at k2
          rw [u2'] at k3
          obtain ⟨t1, t2, t3, t4⟩ := torn_all (l := l.op) hc' gop a4
          have hr9 := own_Recover (l.op.setS (tornS l.slots)) (openE_of t1 (t4.trans hf')) (fun h => by have h' : (l.disk.zn && l.disk.zones.isEmpty) = true := h; rw [Bool.and_eq_true] at h'; show l.disk.zones = []; simpa using h'.2)
          have t3' : (l.op.setS (tornS l.slots)).kept = l.kept := t3.trans (setS_kept_congr rfl)
          rw [t3'] at hr9
          have hcs := law16_sameRecords_ret l.kept.isEmpty l.kept.isEmpty l.kept l.kept true (by simp)
          obtain ⟨N, hN⟩ : ∃ N, (nwS l.slots).num + 1 = N := ⟨_, rfl⟩
          have k3' : Ret E0 F_ref16_Newest [logD (l.op.setS (putS l.slots v))] (.tup [.int .i64 N, .int .i64 v.tail]) := by rw [← hN]; exact k3
          have hp : nxS l.slots = (N.tmod l.slots.length).toNat := by rw [← hN]; rfl
          have hts : tornS l.slots = (putS l.slots v).set (nxS l.slots) ⟨0, 0, 0, 0, true⟩ := by unfold tornS putS badR; rw [List.set_set]
          have hpl := putS_len l.slots v
          rw [hts] at hr9
          have tt := tmod_range (n := N) (m := l.slots.length) (by omega) (by omega)
          rw [hp] at hr9
          clear k3 u1 u2 u1' u2' hts t1 t2 t3 t4 t3'
          obtain ⟨S, hS⟩ : ∃ S, putS l.slots v = S := ⟨_, rfl⟩
          rw [hS] at ca k2 k3' hr9 hpl
          unfold logA at ca hr9
          rw [logD_eq, logC_eq] at ca k2 k3'
          simp only [GLog.setS, GLog.op] at ca k2 k3' hr9
          have hmx : max 0 N = N := by omega
          have hlen2 : ¬ (S.length : Int) = 0 := by omega
          have tt' : 0 ≤ N.tmod S.length ∧ N.tmod S.length < S.length := by rw [hpl]; omega
          rw [← hpl] at hr9
          have hpl' : (S.length : Int) = l.slots.length := by omega
          (try (simp -implicitDefEqProofs only [go_sem, logD_eq, logC_eq, wrD_eq, wrC_eq, recsD_len, r1, r1', onSome_recs, recsD_unif, recD_eq, recC_eq, recsD_set, hmx, hlen2, tt'.1, tt'.2, eq_true hpl'])); repeat' first | with_reducible exact True.intro | with_reducible refine And.intro ?_ ?_ | with_reducible intro _ | (((with_reducible refine isCall ?_); first | refine call_b (c0) rfl ?_ ?_ | refine call_d (c0) rfl ?_ | refine call_sb (c0) rfl ?_ ?_ | refine call_s (c0) rfl rfl ?_ | refine call_b (c1) rfl ?_ ?_ | refine call_d (c1) rfl ?_ | refine call_sb (c1) rfl ?_ ?_ | refine call_s (c1) rfl rfl ?_ | (refine call_m ([]) ([((10, 1), (85, 0))]) (ca) (by repeat' first | exact True.intro | exact rfl | refine And.intro ?_ ?_) (by simp [Handed, Ren.get, AObj.ren, AV.ren, AV.ren.renL, View.get, lookO, callF, newS, View.reach, AV.sites, AV.sites.sitesL, View.osites]) (by simp [namesOk, hasN, nodupB, Ren.get, newS, lim, upd]) (by rfl) (by simp only [backC, Ren.get, AObj.ren, AV.ren, AV.ren.renL, and_self, and_true, true_and, if_true, reduceIte]; rfl) ?_) | refine call_b (k2) rfl ?_ ?_ | refine call_d (k2) rfl ?_ | refine call_sb (k2) rfl ?_ ?_ | refine call_s (k2) rfl rfl ?_ | refine call_s (k3') rfl (by simp [D.flat, D.flat1, D.prim]) ?_ | refine call_b (ct) rfl ?_ ?_ | refine call_d (ct) rfl ?_ | refine call_sb (ct) rfl ?_ ?_ | refine call_s (ct) rfl rfl ?_ | (refine call_m ([((901000, 0), (85, 0))]) ([((901000, 0), (85, 0))]) (hr9) (by repeat' first | exact True.intro | exact rfl | refine And.intro ?_ ?_) (by simp [Handed, Ren.get, AObj.ren, AV.ren, AV.ren.renL, View.get, lookO, callF, newS, View.reach, AV.sites, AV.sites.sitesL, View.osites]) (by simp [namesOk, hasN, nodupB, Ren.get, newS, lim, upd]) (by rfl) (by simp only [backC, Ren.get, AObj.ren, AV.ren, AV.ren.renL, and_self, and_true, true_and, if_true, reduceIte]; rfl) ?_) | refine call_b (hcs) rfl ?_ ?_ | refine call_d (hcs) rfl ?_ | refine call_sb (hcs) rfl ?_ ?_ | refine call_s (hcs) rfl rfl ?_ | refine call_b (cw) rfl ?_ ?_ | refine call_d (cw) rfl ?_ | refine call_sb (cw) rfl ?_ ?_ | refine call_s (cw) rfl rfl ?_) <;> try (simp -implicitDefEqProofs only [go_sem, logD_eq, logC_eq, wrD_eq, wrC_eq, recsD_len, r1, r1', onSome_recs, recsD_unif, recD_eq, recC_eq, recsD_set, hmx, hlen2, tt'.1, tt'.2, eq_true hpl'])) | (((with_reducible refine vc_b ?_ ?_) <;> intro _) <;> try (simp -implicitDefEqProofs only [go_sem, logD_eq, logC_eq, wrD_eq, wrC_eq, recsD_len, r1, r1', onSome_recs, recsD_unif, recD_eq, recC_eq, recsD_set, hmx, hlen2, tt'.1, tt'.2, eq_true hpl'])) | simp (disch := omega) only [wrapI, wrapU, shl1, shl1', shl1'', shrN, shrN', and_one] | ((with_reducible refine isEx2 ?_); refine ⟨(_, _), rfl, ?_, ?_⟩)
          all_goals first | omega | rfl | exact .inl True.intro | trace_state
        all_goals
          have hE := errN_one' l.blocks l.slots v
          rw [hx] at hE
          have ca := journal_Append_ret l hs hz false [v]
          rw [cutE_of he [v] [v].length false (by omega) (fun h => by cases h), hE, hx1] at ca
          (try (simp -implicitDefEqProofs only [go_sem, logD_eq, logC_eq, wrD_eq, wrC_eq, recsD_len, r1, r1'])); repeat' first | with_reducible exact True.intro | with_reducible refine And.intro ?_ ?_ | with_reducible intro _ | (((with_reducible refine isCall ?_); first | refine call_b (c0) rfl ?_ ?_ | refine call_d (c0) rfl ?_ | refine call_sb (c0) rfl ?_ ?_ | refine call_s (c0) rfl rfl ?_ | refine call_b (c1) rfl ?_ ?_ | refine call_d (c1) rfl ?_ | refine call_sb (c1) rfl ?_ ?_ | refine call_s (c1) rfl rfl ?_ | refine call_b (ca) rfl ?_ ?_ | refine call_d (ca) rfl ?_ | refine call_sb (ca) rfl ?_ ?_ | refine call_s (ca) rfl rfl ?_ | refine call_b (cw) rfl ?_ ?_ | refine call_d (cw) rfl ?_ | refine call_sb (cw) rfl ?_ ?_ | refine call_s (cw) rfl rfl ?_) <;> try (simp -implicitDefEqProofs only [go_sem, logD_eq, logC_eq, wrD_eq, wrC_eq, recsD_len, r1, r1'])) | (((with_reducible refine vc_b ?_ ?_) <;> intro _) <;> try (simp -implicitDefEqProofs only [go_sem, logD_eq, logC_eq, wrD_eq, wrC_eq, recsD_len, r1, r1'])) | simp (disch := omega) only [wrapI, wrapU, shl1, shl1', shl1'', shrN, shrN', and_one] | ((with_reducible refine isEx2 ?_); refine ⟨(_, _), rfl, ?_, ?_⟩)
          all_goals first | omega | rfl | exact .inl True.intro | trace_state
end Go.Pw
