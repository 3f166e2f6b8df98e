/- A part of the proof. -/
import Derived.Test.YtiphmemigdplgaaDoorPgJournalQ
set_option linter.all false
open Go Go.Pw Go.Proofs
namespace Go.Pw
set_option linter.unusedSimpArgs false
set_option linter.unusedVariables false
set_option maxRecDepth 100000
set_option maxHeartbeats 3200000
/-- What Cut puts out, after the first entries. -/
def outN (s : List GRec) (es : List GWr) (d : Int) (torn : Bool) : Nat → List GRec
  | 0 => s
  | i + 1 => if (i : Int) < d then (outN s es d torn i).set (nxS (putN s es i)) ((putN s es (i + 1))[nxS (putN s es i)]?.getD default)
    else if (i : Int) = d ∧ torn = true then (outN s es d torn i).set (nxS (putN s es i)) badR else outN s es d torn i
def cutS (s : List GRec) (es : List GWr) (d : Nat) (torn : Bool) : List GRec := if torn then tornS (putN s es d) else putN s es d
theorem set_getD_self (s : List GRec) (p : Nat) (r : GRec) : s.set p ((s.set p r)[p]?.getD default) = s.set p r := by
  by_cases h : p < s.length
  · rw [getD_setR, if_pos ⟨rfl, h⟩]
  · rw [List.set_eq_of_length_le (by omega), List.set_eq_of_length_le (by omega)]
theorem outN_lt (s : List GRec) (es : List GWr) (d : Nat) (torn : Bool) : ∀ i, i ≤ d → outN s es d torn i = putN s es i
  | 0, _ => rfl
  | i + 1, h => by
    rw [outN, if_pos (by omega), outN_lt s es d torn i (by omega), putN]
    unfold putS
    rw [set_getD_self]
theorem outN_ge (s : List GRec) (es : List GWr) (d : Nat) (torn : Bool) : ∀ i, d < i → outN s es d torn i = cutS s es d torn
  | 0, h => by omega
  | i + 1, h => by
    rw [outN, if_neg (by omega)]
    rcases (show i = d ∨ d < i by omega) with h1 | h1
    · subst h1
      rw [outN_lt s es i torn i (Nat.le_refl _)]
      unfold cutS tornS
      cases torn <;> simp
    · rw [if_neg (by omega), outN_ge s es d torn i h1]
theorem outN_end (s : List GRec) (es : List GWr) (d : Nat) (torn : Bool) (n : Nat) (h : d ≤ n) (ht : torn = true → d < n) : outN s es d torn n = cutS s es d torn := by
  rcases (show d = n ∨ d < n by omega) with h1 | h1
  · subst h1
    rw [outN_lt s es d torn d (Nat.le_refl _)]
    unfold cutS
    cases torn with
    | true => exact absurd (ht rfl) (by omega)
    | false => rfl
  · exact outN_ge s es d torn n h1
theorem outN_len (s : List GRec) (es : List GWr) (d : Int) (torn : Bool) : ∀ i, (outN s es d torn i).length = s.length
  | 0 => rfl
  | i + 1 => by
    rw [outN]; split
    · rw [List.length_set, outN_len s es d torn i]
    · split
      · rw [List.length_set, outN_len s es d torn i]
      · exact outN_len s es d torn i
theorem putN_good {l : GLog} (g : l.Good) (es : List GWr) : ∀ i, errN l.blocks l.slots es i = 0 → (l.setS (putN l.slots es i)).Good
  | 0, _ => g
  | i + 1, h => by
    have h0 := errN_zero h (Nat.le_succ i)
    exact put_good (l := l.setS (putN l.slots es i)) (putN_good g es i h0) (errN_step h (Nat.lt_succ_self i))
theorem putN_newest {l : GLog} (g : l.Good) (es : List GWr) : ∀ i, errN l.blocks l.slots es i = 0 → (nwS (putN l.slots es i)).num = l.newest.num + i
  | 0, _ => by simp [putN, newest_eq]
  | i + 1, h => by
    have h0 := errN_zero h (Nat.le_succ i)
    have := put_newest (l := l.setS (putN l.slots es i)) (putN_good g es i h0) (errN_step h (Nat.lt_succ_self i))
    rw [putN]
    have e : nwS (putS (putN l.slots es i) (es[i]?.getD default)) = recS (putN l.slots es i) (es[i]?.getD default) := this
    rw [e]
    show (nwS (putN l.slots es i)).num + 1 = _
    rw [putN_newest g es i h0]; omega
def GLog.zero : GLog := ⟨⟨0, 0, true, [], 0, 0, 0, 0, 0, 0⟩, 0, 0, true, []⟩
theorem zero_eq : logD GLog.zero = .agg [.int .i64 0, .int .i64 0, .list true [], .int .i64 0, .int .i64 0, .int .i64 0, .int .i64 0, .int .i64 0, .int .i64 0, .int .i64 0, .int .i64 0, .list true []] := rfl
def argBad (es : List GWr) (d : Int) (torn : Bool) : Bool := !inZ d 0 es.length || (torn && decide (d = es.length))
def GLog.cutE (l : GLog) (es : List GWr) (d : Int) (torn : Bool) : Int := if l.openE ≠ 0 then l.openE else if argBad es d torn then 1 else errN l.blocks l.slots es es.length
def GLog.cutL (l : GLog) (es : List GWr) (d : Int) (torn : Bool) : GLog := if l.cutE es d torn = 0 then l.op.setS (cutS l.slots es d.toNat torn) else GLog.zero
theorem errN_next (b : Int) (s : List GRec) (es : List GWr) (i : Int) (h : 0 ≤ i) (h0 : errN b s es i.toNat = 0) : errN b s es (i + 1).toNat = appE b (putN s es i.toNat) (es[i.toNat]?.getD default) := by
  rw [show (i + 1).toNat = i.toNat + 1 by omega, errN, if_pos h0]
theorem putN_next (s : List GRec) (es : List GWr) (i : Int) (h : 0 ≤ i) : putN s es (i + 1).toNat = putS (putN s es i.toNat) (es[i.toNat]?.getD default) := by
  rw [show (i + 1).toNat = i.toNat + 1 by omega, putN]
theorem outN_next (s : List GRec) (es : List GWr) (d : Int) (torn : Bool) (i : Int) (h : 0 ≤ i) : outN s es d torn (i + 1).toNat = if i < d then (outN s es d torn i.toNat).set (nxS (putN s es i.toNat)) ((putN s es (i + 1).toNat)[nxS (putN s es i.toNat)]?.getD default)
    else if i = d ∧ torn = true then (outN s es d torn i.toNat).set (nxS (putN s es i.toNat)) badR else outN s es d torn i.toNat := by
  rw [show (i + 1).toNat = i.toNat + 1 by omega, outN, show ((i.toNat : Nat) : Int) = i by omega]
attribute [local congr] cg_pw cg_seqI cg_seqE cg_stepI cg_ev cg_evBin cg_condB cg_condV cg_thenQ cg_blockQ cg_onSome cg_onCells cg_onRow cg_onMap cg_onOpt cg_ghosts cg_ghost cg_evCall cg_part cg_rng cg_guardV cg_frzV cg_frpV cg_ownV cg_owcV cg_occV cg_occX cg_resK cg_res1 cg_yldP cg_rndE cg_onlyN cg_onHist
attribute [local irreducible] IntKind.wrap bitsOp Option.getD and or

theorem journal_Cut_ret (l : GLog) (hs : l.sn = true → l.slots = []) (hz : l.disk.zn = true → l.disk.zones = []) (nw : Bool) (es : List GWr) (d : Int) (torn : Bool) :
    Ret E0 F_journal_Cut [logD l, .list nw (wrsD es), .int .i64 d, .bool torn] (.tup [logD (l.cutL es d torn), .int .i64 (l.cutE es d torn)]) := by
  refine ret_of_pw dec_journal_Cut mixed (by simp) fun hwf => ?_
  simp only [wf_int, wf_bool, wf_ints, wf_list, wf_agg, wf_ptr, wf_fn, wf_tup, wf_all_cons, wf_all_nil, wf_all_map, inK_i64, maxLen_eq, List.length_map, ints_len, true_and, and_true, logC_eq, recsD_len, wrsD_len, zpsD_len] at hwf
  unfold GLog.cutL GLog.cutE
  by_cases he : l.openE = 0
  · obtain ⟨hc, hf⟩ := openE_0 he
    have g := check_good hc
    have gop := op_good g
    have m1 := g.m1; have m2 := g.m2
    have c1 := own_open l he hs hz
    have c2 := journal_to_ret d es.length
    simp only [ne_eq, he, not_true_eq_false, if_false]
    cases hb : argBad es d torn with
    | true =>
      simp only [if_true]
      rw [if_neg (by omega), zero_eq]
      have hb2 := hb
      unfold argBad at hb2
      rw [enter_eq]; unfold pc_journal_Cut
      cases hi : inZ d 0 es.length with
      | false =>
        rw [hi] at c2
        (try (simp -implicitDefEqProofs only [go_sem, logD_eq, logC_eq, GLog.op, wrsD_len])); repeat' first | with_reducible exact True.intro | with_reducible refine And.intro ?_ ?_ | with_reducible intro _ | (((with_reducible refine isCall ?_); first | (refine call_m ([]) ([((15, 1), (20, 0)), ((19, 1), (10020, 0))]) (c1) (by repeat' first | exact True.intro | exact rfl | refine And.intro ?_ ?_) (by simp [Handed, Ren.get, AObj.ren, AV.ren, AV.ren.renL, View.get, lookO, callF, newS, View.reach, AV.sites, AV.sites.sitesL, View.osites]) (by simp [namesOk, hasN, nodupB, Ren.get, newS, lim, upd]) (by rfl) (by simp only [backC, Ren.get, AObj.ren, AV.ren, AV.ren.renL, and_self, and_true, true_and, if_true, reduceIte]; rfl) ?_) | refine call_b (c2) rfl ?_ ?_ | refine call_d (c2) rfl ?_ | refine call_sb (c2) rfl ?_ ?_ | refine call_s (c2) rfl rfl ?_) <;> try (simp -implicitDefEqProofs only [go_sem, logD_eq, logC_eq, GLog.op, wrsD_len])) | (((with_reducible refine vc_b ?_ ?_) <;> intro _) <;> try (simp -implicitDefEqProofs only [go_sem, logD_eq, logC_eq, GLog.op, wrsD_len])) | simp (disch := omega) only [wrapI, wrapU, shl1, shl1', shl1'', shrN, shrN', and_one] | ((with_reducible refine isEx3 ?_); refine ⟨(_, _, _), rfl, ?_, ?_⟩)
        all_goals first | omega | rfl | trace_state
      | true =>
        rw [hi] at c2
        rw [hi] at hb2
        simp only [Bool.not_true, Bool.false_or, Bool.and_eq_true, decide_eq_true_eq] at hb2
        rw [hb2.1]
        have hd := hb2.2
        (try (simp -implicitDefEqProofs only [go_sem, logD_eq, logC_eq, GLog.op, wrsD_len, eq_true hd])); repeat' first | with_reducible exact True.intro | with_reducible refine And.intro ?_ ?_ | with_reducible intro _ | (((with_reducible refine isCall ?_); first | (refine call_m ([]) ([((15, 1), (20, 0)), ((19, 1), (10020, 0))]) (c1) (by repeat' first | exact True.intro | exact rfl | refine And.intro ?_ ?_) (by simp [Handed, Ren.get, AObj.ren, AV.ren, AV.ren.renL, View.get, lookO, callF, newS, View.reach, AV.sites, AV.sites.sitesL, View.osites]) (by simp [namesOk, hasN, nodupB, Ren.get, newS, lim, upd]) (by rfl) (by simp only [backC, Ren.get, AObj.ren, AV.ren, AV.ren.renL, and_self, and_true, true_and, if_true, reduceIte]; rfl) ?_) | refine call_b (c2) rfl ?_ ?_ | refine call_d (c2) rfl ?_ | refine call_sb (c2) rfl ?_ ?_ | refine call_s (c2) rfl rfl ?_) <;> try (simp -implicitDefEqProofs only [go_sem, logD_eq, logC_eq, GLog.op, wrsD_len, eq_true hd])) | (((with_reducible refine vc_b ?_ ?_) <;> intro _) <;> try (simp -implicitDefEqProofs only [go_sem, logD_eq, logC_eq, GLog.op, wrsD_len, eq_true hd])) | simp (disch := omega) only [wrapI, wrapU, shl1, shl1', shl1'', shrN, shrN', and_one] | ((with_reducible refine isEx3 ?_); refine ⟨(_, _, _), rfl, ?_, ?_⟩)
        all_goals first | omega | rfl | trace_state
    | false =>
      simp only [Bool.false_eq_true, if_false]
      unfold argBad at hb
      rw [Bool.or_eq_false_iff] at hb
      obtain ⟨hi, ht⟩ := hb
      have hi : inZ d 0 es.length = true := by simpa using hi
      have hd := inZ_iff.1 hi
      have c3 := Clone_own_own l.slots (by omega) (by omega)
      cases torn with
      | true =>
        have hne : ¬ d = es.length := by simpa using ht

        rw [hi] at c2
        have c4 := fun s => ns_newest (l.op.setS s)
        rw [enter_eq]; unfold pc_journal_Cut
        (try (simp -implicitDefEqProofs only [go_sem, logD_eq, logC_eq, GLog.op, wrsD_len, hne])); repeat' first | with_reducible exact True.intro | with_reducible refine And.intro ?_ ?_ | with_reducible intro _ | (((with_reducible refine isCall ?_); first | (refine call_m ([]) ([((15, 1), (20, 0)), ((19, 1), (10020, 0))]) (c1) (by repeat' first | exact True.intro | exact rfl | refine And.intro ?_ ?_) (by simp [Handed, Ren.get, AObj.ren, AV.ren, AV.ren.renL, View.get, lookO, callF, newS, View.reach, AV.sites, AV.sites.sitesL, View.osites]) (by simp [namesOk, hasN, nodupB, Ren.get, newS, lim, upd]) (by rfl) (by simp only [backC, Ren.get, AObj.ren, AV.ren, AV.ren.renL, and_self, and_true, true_and, if_true, reduceIte]; rfl) ?_) | refine call_b (c2) rfl ?_ ?_ | refine call_d (c2) rfl ?_ | refine call_sb (c2) rfl ?_ ?_ | refine call_s (c2) rfl rfl ?_ | (refine call_m ([((900000, 0), (10020, 0))]) ([((900000, 0), (10020, 0)), ((7, 1), (47, 0))]) (c3) (by repeat' first | exact True.intro | exact rfl | refine And.intro ?_ ?_) (by simp [Handed, Ren.get, AObj.ren, AV.ren, AV.ren.renL, View.get, lookO, callF, newS, View.reach, AV.sites, AV.sites.sitesL, View.osites]) (by simp [namesOk, hasN, nodupB, Ren.get, newS, lim, upd]) (by rfl) (by simp only [backC, Ren.get, AObj.ren, AV.ren, AV.ren.renL, and_self, and_true, true_and, if_true, reduceIte]; rfl) ?_)) <;> try (simp -implicitDefEqProofs only [go_sem, logD_eq, logC_eq, GLog.op, wrsD_len, hne])) | (((with_reducible refine vc_b ?_ ?_) <;> intro _) <;> try (simp -implicitDefEqProofs only [go_sem, logD_eq, logC_eq, GLog.op, wrsD_len, hne])) | simp (disch := omega) only [wrapI, wrapU, shl1, shl1', shl1'', shrN, shrN', and_one] | ((with_reducible refine isEx3 ?_); refine ⟨(_, _, _), rfl, ?_, ?_⟩)
        all_goals (try omega)
        refine pw_loopS (α := Int × (List GRec) × (List GRec)) (l0 := ?l1) (m0 := ?m1) (fun x => [(50, .d (.int .i64 x.1))]) (fun x => [(10020, .row 40 5 false (recsD x.2.1)), (47, .row 40 5 false (recsD x.2.2))]) (fun x => (0 ≤ x.1 ∧ x.1 ≤ es.length) ∧ x.2.1 = putN l.slots es x.1.toNat ∧ errN l.blocks l.slots es x.1.toNat = 0 ∧ x.2.2 = outN l.slots es d true x.1.toNat) (fun x => (es.length - x.1).toNat) (?a1_0, ?a1_1, ?a1_2) ?h01 ?he1 ?he21 ?hI1 ?step1
        case h01 => (simp -implicitDefEqProofs only [go_sem, recsD_len, wrsD_len]; rfl)
        case he1 => rfl
        case he21 => rfl
        case' step1 => (rintro ⟨i, s, o⟩ hI; try dsimp only at hI)
        case' hI1 => try dsimp only
        · exact ⟨⟨by omega, by omega⟩, rfl, rfl, rfl⟩
        · obtain ⟨⟨q1, q2⟩, q3, q4, q5⟩ := hI
          have hsl : s.length = l.slots.length := by rw [q3]; exact putN_len _ _ _
          have hol : o.length = l.slots.length := by rw [q5]; exact outN_len _ _ _ _ _
          by_cases hie : i < es.length
          · have w1 : IntKind.i64.wrap (i + 1) = i + 1 := wrapI _ (by omega)
            have e1 := errN_next l.blocks l.slots es i q1 q4
            have e2 := putN_next l.slots es i q1
            have e3 := outN_next l.slots es d true i q1
            obtain ⟨x, hx⟩ : ∃ x, es[i.toNat]?.getD default = x := ⟨_, rfl⟩
            have gL : (l.op.setS s).Good := by rw [q3]; exact putN_good (l := l.op) gop es i.toNat q4
            obtain ⟨n1, n2, n3⟩ := newest_good gL
            rw [setS_newest] at n1 n2 n3
            rw [hx, ← q3] at e1
            rw [hx, ← q3] at e2
            rw [e2, ← q3, ← q5] at e3
            have c4 := ns_newest (l.op.setS s)
            have hP : nxS s = (((nwS s).num + 1).tmod s.length).toNat := rfl
            have t1 := tmod_range (n := (nwS s).num + 1) (m := s.length) (by omega) (by omega)
            have w2 : IntKind.i64.wrap ((nwS s).num + 1) = (nwS s).num + 1 := wrapI _ (by omega)
            rw [recD_eq, recC_eq, ns_C, setS_newest] at c4
            by_cases ha : appE l.blocks s x = 0
            · have c5 := own_append_ok (l.op.setS s) gL x ha
              have hpl := putS_len s x
              rw [ha] at e1
              obtain ⟨r, hr⟩ : ∃ r, (putS s x)[nxS s]?.getD default = r := ⟨_, rfl⟩
              rw [hr] at e3
              unfold logV at c5
              simp only [GLog.setS, GLog.op] at c4 c5
              rw [← hP] at t1
              have hPl := t1.1
              obtain ⟨P, hPP⟩ : ∃ P, nxS s = P := ⟨_, rfl⟩
              rw [hPP] at hP t1 hPl hr e3
              obtain ⟨s', hs'⟩ : ∃ s', putS s x = s' := ⟨_, rfl⟩
              rw [hs'] at c5 hpl hr e2
              have hPo : P < o.length := by omega
              have hPs : P < s'.length := by omega
              have e5 : ¬ (o.length : Int) = 0 := by omega
              have hPo' : ((((nwS s).num + 1).tmod o.length).toNat) = P := by rw [hP, hol, hsl]
              have t2 : 0 ≤ ((nwS s).num + 1).tmod o.length ∧ ((nwS s).num + 1).tmod o.length < o.length := by rw [hol, ← hsl]; omega
              by_cases hid : i < d
              · rw [if_pos hid] at e3
                (try (simp -implicitDefEqProofs only [go_sem, wrsD_len, onSome_wrs, wrsD_unif, hx, wrD_eq, wrC_eq, recsD_len, onSome_recs, recsD_unif, recD_eq, recC_eq, recsD_set, hr, hPo', hPo, hPs, t2.1, t2.2, e5, w1, w2, hie, q1, hid])); repeat' first | with_reducible exact True.intro | with_reducible refine And.intro ?_ ?_ | with_reducible intro _ | (((with_reducible refine isCall ?_); first | refine call_s (c4) rfl (by simp [D.flat, D.flat1, D.prim]) ?_ | (refine call_m ([((900000, 0), (20, 0)), ((901000, 0), (10020, 0))]) ([((900000, 0), (20, 0)), ((901000, 0), (10020, 0))]) (c5) (by repeat' first | exact True.intro | exact rfl | refine And.intro ?_ ?_) (by simp [Handed, Ren.get, AObj.ren, AV.ren, AV.ren.renL, View.get, lookO, callF, newS, View.reach, AV.sites, AV.sites.sitesL, View.osites]) (by simp [namesOk, hasN, nodupB, Ren.get, newS, lim, upd]) (by rfl) (by simp only [backC, Ren.get, AObj.ren, AV.ren, AV.ren.renL, and_self, and_true, true_and, if_true, reduceIte]; rfl) ?_)) <;> try (simp -implicitDefEqProofs only [go_sem, wrsD_len, onSome_wrs, wrsD_unif, hx, wrD_eq, wrC_eq, recsD_len, onSome_recs, recsD_unif, recD_eq, recC_eq, recsD_set, hr, hPo', hPo, hPs, t2.1, t2.2, e5, w1, w2, hie, q1, hid])) | (((with_reducible refine vc_b ?_ ?_) <;> intro _) <;> try (simp -implicitDefEqProofs only [go_sem, wrsD_len, onSome_wrs, wrsD_unif, hx, wrD_eq, wrC_eq, recsD_len, onSome_recs, recsD_unif, recD_eq, recC_eq, recsD_set, hr, hPo', hPo, hPs, t2.1, t2.2, e5, w1, w2, hie, q1, hid])) | simp (disch := omega) only [wrapI, wrapU, shl1, shl1', shl1'', shrN, shrN', and_one] | ((with_reducible refine isEx3 ?_); refine ⟨(_, _, _), rfl, ?_, ?_⟩)
                all_goals first | omega | exact .inl True.intro | exact e1 | exact e2.symm | exact e3.symm | exact e1' | trace_state
              · rw [if_neg hid] at e3
                by_cases hit : i = d
                · simp only [hit, true_and, and_true, and_false, true_and, Bool.false_eq_true, if_true, if_false] at e3
                  subst hit
                  (try (simp -implicitDefEqProofs only [go_sem, wrsD_len, onSome_wrs, wrsD_unif, hx, wrD_eq, wrC_eq, recsD_len, onSome_recs, recsD_unif, recD_eq, recC_eq, recsD_set, hr, hPo', hPo, hPs, t2.1, t2.2, e5, w1, w2, hie, q1])); repeat' first | with_reducible exact True.intro | with_reducible refine And.intro ?_ ?_ | with_reducible intro _ | (((with_reducible refine isCall ?_); first | refine call_s (c4) rfl (by simp [D.flat, D.flat1, D.prim]) ?_ | (refine call_m ([((900000, 0), (20, 0)), ((901000, 0), (10020, 0))]) ([((900000, 0), (20, 0)), ((901000, 0), (10020, 0))]) (c5) (by repeat' first | exact True.intro | exact rfl | refine And.intro ?_ ?_) (by simp [Handed, Ren.get, AObj.ren, AV.ren, AV.ren.renL, View.get, lookO, callF, newS, View.reach, AV.sites, AV.sites.sitesL, View.osites]) (by simp [namesOk, hasN, nodupB, Ren.get, newS, lim, upd]) (by rfl) (by simp only [backC, Ren.get, AObj.ren, AV.ren, AV.ren.renL, and_self, and_true, true_and, if_true, reduceIte]; rfl) ?_)) <;> try (simp -implicitDefEqProofs only [go_sem, wrsD_len, onSome_wrs, wrsD_unif, hx, wrD_eq, wrC_eq, recsD_len, onSome_recs, recsD_unif, recD_eq, recC_eq, recsD_set, hr, hPo', hPo, hPs, t2.1, t2.2, e5, w1, w2, hie, q1])) | (((with_reducible refine vc_b ?_ ?_) <;> intro _) <;> try (simp -implicitDefEqProofs only [go_sem, wrsD_len, onSome_wrs, wrsD_unif, hx, wrD_eq, wrC_eq, recsD_len, onSome_recs, recsD_unif, recD_eq, recC_eq, recsD_set, hr, hPo', hPo, hPs, t2.1, t2.2, e5, w1, w2, hie, q1])) | simp (disch := omega) only [wrapI, wrapU, shl1, shl1', shl1'', shrN, shrN', and_one] | ((with_reducible refine isEx3 ?_); refine ⟨(_, _, _), rfl, ?_, ?_⟩)
                  all_goals first | omega | exact .inl True.intro | exact e1 | exact e2.symm | exact e3.symm | exact e1' | trace_state
                · simp only [hit, false_and, if_false] at e3
                  (try (simp -implicitDefEqProofs only [go_sem, wrsD_len, onSome_wrs, wrsD_unif, hx, wrD_eq, wrC_eq, recsD_len, onSome_recs, recsD_unif, recD_eq, recC_eq, recsD_set, hr, hPo', hPo, hPs, t2.1, t2.2, e5, w1, w2, hie, q1, hid, hit])); repeat' first | with_reducible exact True.intro | with_reducible refine And.intro ?_ ?_ | with_reducible intro _ | (((with_reducible refine isCall ?_); first | refine call_s (c4) rfl (by simp [D.flat, D.flat1, D.prim]) ?_ | (refine call_m ([((900000, 0), (20, 0)), ((901000, 0), (10020, 0))]) ([((900000, 0), (20, 0)), ((901000, 0), (10020, 0))]) (c5) (by repeat' first | exact True.intro | exact rfl | refine And.intro ?_ ?_) (by simp [Handed, Ren.get, AObj.ren, AV.ren, AV.ren.renL, View.get, lookO, callF, newS, View.reach, AV.sites, AV.sites.sitesL, View.osites]) (by simp [namesOk, hasN, nodupB, Ren.get, newS, lim, upd]) (by rfl) (by simp only [backC, Ren.get, AObj.ren, AV.ren, AV.ren.renL, and_self, and_true, true_and, if_true, reduceIte]; rfl) ?_)) <;> try (simp -implicitDefEqProofs only [go_sem, wrsD_len, onSome_wrs, wrsD_unif, hx, wrD_eq, wrC_eq, recsD_len, onSome_recs, recsD_unif, recD_eq, recC_eq, recsD_set, hr, hPo', hPo, hPs, t2.1, t2.2, e5, w1, w2, hie, q1, hid, hit])) | (((with_reducible refine vc_b ?_ ?_) <;> intro _) <;> try (simp -implicitDefEqProofs only [go_sem, wrsD_len, onSome_wrs, wrsD_unif, hx, wrD_eq, wrC_eq, recsD_len, onSome_recs, recsD_unif, recD_eq, recC_eq, recsD_set, hr, hPo', hPo, hPs, t2.1, t2.2, e5, w1, w2, hie, q1, hid, hit])) | simp (disch := omega) only [wrapI, wrapU, shl1, shl1', shl1'', shrN, shrN', and_one] | ((with_reducible refine isEx3 ?_); refine ⟨(_, _, _), rfl, ?_, ?_⟩)
                  all_goals first | omega | exact .inl True.intro | exact e1 | exact e2.symm | exact e3.symm | exact e1' | trace_state
            · have c5 := own_append_no (l.op.setS s) gL x ha
              have c5' : appE (l.op.setS s).blocks (l.op.setS s).slots x = appE l.blocks s x := rfl
              rw [c5'] at c5
              have hE : errN l.blocks l.slots es es.length = appE l.blocks s x := by
                rw [← e1]; exact errN_mono (by rw [e1]; exact ha) _ (by omega)
              rw [hE, if_neg ha, zero_eq]
              unfold logV at c5
              simp only [GLog.setS, GLog.op] at c4 c5
              (try (simp -implicitDefEqProofs only [go_sem, wrsD_len, onSome_wrs, wrsD_unif, hx, wrD_eq, wrC_eq, recsD_len, onSome_recs, recsD_unif, recD_eq, recC_eq, w1, w2, hie, q1, ha])); repeat' first | with_reducible exact True.intro | with_reducible refine And.intro ?_ ?_ | with_reducible intro _ | (((with_reducible refine isCall ?_); first | refine call_s (c4) rfl (by simp [D.flat, D.flat1, D.prim]) ?_ | (refine call_m ([((900000, 0), (20, 0)), ((901000, 0), (10020, 0))]) ([((900000, 0), (20, 0)), ((901000, 0), (10020, 0))]) (c5) (by repeat' first | exact True.intro | exact rfl | refine And.intro ?_ ?_) (by simp [Handed, Ren.get, AObj.ren, AV.ren, AV.ren.renL, View.get, lookO, callF, newS, View.reach, AV.sites, AV.sites.sitesL, View.osites]) (by simp [namesOk, hasN, nodupB, Ren.get, newS, lim, upd]) (by rfl) (by simp only [backC, Ren.get, AObj.ren, AV.ren, AV.ren.renL, and_self, and_true, true_and, if_true, reduceIte]; rfl) ?_)) <;> try (simp -implicitDefEqProofs only [go_sem, wrsD_len, onSome_wrs, wrsD_unif, hx, wrD_eq, wrC_eq, recsD_len, onSome_recs, recsD_unif, recD_eq, recC_eq, w1, w2, hie, q1, ha])) | (((with_reducible refine vc_b ?_ ?_) <;> intro _) <;> try (simp -implicitDefEqProofs only [go_sem, wrsD_len, onSome_wrs, wrsD_unif, hx, wrD_eq, wrC_eq, recsD_len, onSome_recs, recsD_unif, recD_eq, recC_eq, w1, w2, hie, q1, ha])) | simp (disch := omega) only [wrapI, wrapU, shl1, shl1', shl1'', shrN, shrN', and_one] | ((with_reducible refine isEx3 ?_); refine ⟨(_, _, _), rfl, ?_, ?_⟩)
              all_goals first | omega | exact .inl True.intro | rfl | trace_state
          · have hi0 : i.toNat = es.length := by omega
            rw [hi0] at q4 q5
            have hd0 : ((d.toNat : Nat) : Int) = d := by omega
            have hcut : o = cutS l.slots es d.toNat true := by
              rw [q5, ← outN_end l.slots es d.toNat true es.length (by omega) (by intro _; omega), hd0]
            rw [if_pos q4, q4, ← hcut]
            (try (simp -implicitDefEqProofs only [go_sem, wrsD_len, recsD_len, logD_eq, logC_eq, GLog.setS, GLog.op, hie])); repeat' first | with_reducible exact True.intro | with_reducible refine And.intro ?_ ?_ | with_reducible intro _ | (((with_reducible refine vc_b ?_ ?_) <;> intro _) <;> try (simp -implicitDefEqProofs only [go_sem, wrsD_len, recsD_len, logD_eq, logC_eq, GLog.setS, GLog.op, hie])) | simp (disch := omega) only [wrapI, wrapU, shl1, shl1', shl1'', shrN, shrN', and_one] | ((with_reducible refine isEx3 ?_); refine ⟨(_, _, _), rfl, ?_, ?_⟩)
            all_goals first | omega | exact .inl True.intro | rfl | trace_state
      | false =>

        rw [hi] at c2
        have c4 := fun s => ns_newest (l.op.setS s)
        rw [enter_eq]; unfold pc_journal_Cut
        (try (simp -implicitDefEqProofs only [go_sem, logD_eq, logC_eq, GLog.op, wrsD_len])); repeat' first | with_reducible exact True.intro | with_reducible refine And.intro ?_ ?_ | with_reducible intro _ | (((with_reducible refine isCall ?_); first | (refine call_m ([]) ([((15, 1), (20, 0)), ((19, 1), (10020, 0))]) (c1) (by repeat' first | exact True.intro | exact rfl | refine And.intro ?_ ?_) (by simp [Handed, Ren.get, AObj.ren, AV.ren, AV.ren.renL, View.get, lookO, callF, newS, View.reach, AV.sites, AV.sites.sitesL, View.osites]) (by simp [namesOk, hasN, nodupB, Ren.get, newS, lim, upd]) (by rfl) (by simp only [backC, Ren.get, AObj.ren, AV.ren, AV.ren.renL, and_self, and_true, true_and, if_true, reduceIte]; rfl) ?_) | refine call_b (c2) rfl ?_ ?_ | refine call_d (c2) rfl ?_ | refine call_sb (c2) rfl ?_ ?_ | refine call_s (c2) rfl rfl ?_ | (refine call_m ([((900000, 0), (10020, 0))]) ([((900000, 0), (10020, 0)), ((7, 1), (47, 0))]) (c3) (by repeat' first | exact True.intro | exact rfl | refine And.intro ?_ ?_) (by simp [Handed, Ren.get, AObj.ren, AV.ren, AV.ren.renL, View.get, lookO, callF, newS, View.reach, AV.sites, AV.sites.sitesL, View.osites]) (by simp [namesOk, hasN, nodupB, Ren.get, newS, lim, upd]) (by rfl) (by simp only [backC, Ren.get, AObj.ren, AV.ren, AV.ren.renL, and_self, and_true, true_and, if_true, reduceIte]; rfl) ?_)) <;> try (simp -implicitDefEqProofs only [go_sem, logD_eq, logC_eq, GLog.op, wrsD_len])) | (((with_reducible refine vc_b ?_ ?_) <;> intro _) <;> try (simp -implicitDefEqProofs only [go_sem, logD_eq, logC_eq, GLog.op, wrsD_len])) | simp (disch := omega) only [wrapI, wrapU, shl1, shl1', shl1'', shrN, shrN', and_one] | ((with_reducible refine isEx3 ?_); refine ⟨(_, _, _), rfl, ?_, ?_⟩)
        all_goals (try omega)
        refine pw_loopS (α := Int × (List GRec) × (List GRec)) (l0 := ?l2) (m0 := ?m2) (fun x => [(50, .d (.int .i64 x.1))]) (fun x => [(10020, .row 40 5 false (recsD x.2.1)), (47, .row 40 5 false (recsD x.2.2))]) (fun x => (0 ≤ x.1 ∧ x.1 ≤ es.length) ∧ x.2.1 = putN l.slots es x.1.toNat ∧ errN l.blocks l.slots es x.1.toNat = 0 ∧ x.2.2 = outN l.slots es d false x.1.toNat) (fun x => (es.length - x.1).toNat) (?a2_0, ?a2_1, ?a2_2) ?h02 ?he2 ?he22 ?hI2 ?step2
        case h02 => (simp -implicitDefEqProofs only [go_sem, recsD_len, wrsD_len]; rfl)
        case he2 => rfl
        case he22 => rfl
        case' step2 => (rintro ⟨i, s, o⟩ hI2; try dsimp only at hI2)
        case' hI2 => try dsimp only
        · exact ⟨⟨by omega, by omega⟩, rfl, rfl, rfl⟩
        · obtain ⟨⟨q1, q2⟩, q3, q4, q5⟩ := hI2
          have hsl : s.length = l.slots.length := by rw [q3]; exact putN_len _ _ _
          have hol : o.length = l.slots.length := by rw [q5]; exact outN_len _ _ _ _ _
          by_cases hie : i < es.length
          · have w1 : IntKind.i64.wrap (i + 1) = i + 1 := wrapI _ (by omega)
            have e1 := errN_next l.blocks l.slots es i q1 q4
            have e2 := putN_next l.slots es i q1
            have e3 := outN_next l.slots es d false i q1
            obtain ⟨x, hx⟩ : ∃ x, es[i.toNat]?.getD default = x := ⟨_, rfl⟩
            have gL : (l.op.setS s).Good := by rw [q3]; exact putN_good (l := l.op) gop es i.toNat q4
            obtain ⟨n1, n2, n3⟩ := newest_good gL
            rw [setS_newest] at n1 n2 n3
            rw [hx, ← q3] at e1
            rw [hx, ← q3] at e2
            rw [e2, ← q3, ← q5] at e3
            have c4 := ns_newest (l.op.setS s)
            have hP : nxS s = (((nwS s).num + 1).tmod s.length).toNat := rfl
            have t1 := tmod_range (n := (nwS s).num + 1) (m := s.length) (by omega) (by omega)
            have w2 : IntKind.i64.wrap ((nwS s).num + 1) = (nwS s).num + 1 := wrapI _ (by omega)
            rw [recD_eq, recC_eq, ns_C, setS_newest] at c4
            by_cases ha : appE l.blocks s x = 0
            · have c5 := own_append_ok (l.op.setS s) gL x ha
              have hpl := putS_len s x
              rw [ha] at e1
              obtain ⟨r, hr⟩ : ∃ r, (putS s x)[nxS s]?.getD default = r := ⟨_, rfl⟩
              rw [hr] at e3
              unfold logV at c5
              simp only [GLog.setS, GLog.op] at c4 c5
              rw [← hP] at t1
              have hPl := t1.1
              obtain ⟨P, hPP⟩ : ∃ P, nxS s = P := ⟨_, rfl⟩
              rw [hPP] at hP t1 hPl hr e3
              obtain ⟨s', hs'⟩ : ∃ s', putS s x = s' := ⟨_, rfl⟩
              rw [hs'] at c5 hpl hr e2
              have hPo : P < o.length := by omega
              have hPs : P < s'.length := by omega
              have e5 : ¬ (o.length : Int) = 0 := by omega
              have hPo' : ((((nwS s).num + 1).tmod o.length).toNat) = P := by rw [hP, hol, hsl]
              have t2 : 0 ≤ ((nwS s).num + 1).tmod o.length ∧ ((nwS s).num + 1).tmod o.length < o.length := by rw [hol, ← hsl]; omega
              by_cases hid : i < d
              · rw [if_pos hid] at e3
                (try (simp -implicitDefEqProofs only [go_sem, wrsD_len, onSome_wrs, wrsD_unif, hx, wrD_eq, wrC_eq, recsD_len, onSome_recs, recsD_unif, recD_eq, recC_eq, recsD_set, hr, hPo', hPo, hPs, t2.1, t2.2, e5, w1, w2, hie, q1, hid])); repeat' first | with_reducible exact True.intro | with_reducible refine And.intro ?_ ?_ | with_reducible intro _ | (((with_reducible refine isCall ?_); first | refine call_s (c4) rfl (by simp [D.flat, D.flat1, D.prim]) ?_ | (refine call_m ([((900000, 0), (20, 0)), ((901000, 0), (10020, 0))]) ([((900000, 0), (20, 0)), ((901000, 0), (10020, 0))]) (c5) (by repeat' first | exact True.intro | exact rfl | refine And.intro ?_ ?_) (by simp [Handed, Ren.get, AObj.ren, AV.ren, AV.ren.renL, View.get, lookO, callF, newS, View.reach, AV.sites, AV.sites.sitesL, View.osites]) (by simp [namesOk, hasN, nodupB, Ren.get, newS, lim, upd]) (by rfl) (by simp only [backC, Ren.get, AObj.ren, AV.ren, AV.ren.renL, and_self, and_true, true_and, if_true, reduceIte]; rfl) ?_)) <;> try (simp -implicitDefEqProofs only [go_sem, wrsD_len, onSome_wrs, wrsD_unif, hx, wrD_eq, wrC_eq, recsD_len, onSome_recs, recsD_unif, recD_eq, recC_eq, recsD_set, hr, hPo', hPo, hPs, t2.1, t2.2, e5, w1, w2, hie, q1, hid])) | (((with_reducible refine vc_b ?_ ?_) <;> intro _) <;> try (simp -implicitDefEqProofs only [go_sem, wrsD_len, onSome_wrs, wrsD_unif, hx, wrD_eq, wrC_eq, recsD_len, onSome_recs, recsD_unif, recD_eq, recC_eq, recsD_set, hr, hPo', hPo, hPs, t2.1, t2.2, e5, w1, w2, hie, q1, hid])) | simp (disch := omega) only [wrapI, wrapU, shl1, shl1', shl1'', shrN, shrN', and_one] | ((with_reducible refine isEx3 ?_); refine ⟨(_, _, _), rfl, ?_, ?_⟩)
                all_goals first | omega | exact .inl True.intro | exact e1 | exact e2.symm | exact e3.symm | exact e1' | trace_state
              · rw [if_neg hid] at e3
                by_cases hit : i = d
                · simp only [hit, false_and, and_true, and_false, true_and, Bool.false_eq_true, if_true, if_false] at e3
                  subst hit
                  (try (simp -implicitDefEqProofs only [go_sem, wrsD_len, onSome_wrs, wrsD_unif, hx, wrD_eq, wrC_eq, recsD_len, onSome_recs, recsD_unif, recD_eq, recC_eq, recsD_set, hr, hPo', hPo, hPs, t2.1, t2.2, e5, w1, w2, hie, q1])); repeat' first | with_reducible exact True.intro | with_reducible refine And.intro ?_ ?_ | with_reducible intro _ | (((with_reducible refine isCall ?_); first | refine call_s (c4) rfl (by simp [D.flat, D.flat1, D.prim]) ?_ | (refine call_m ([((900000, 0), (20, 0)), ((901000, 0), (10020, 0))]) ([((900000, 0), (20, 0)), ((901000, 0), (10020, 0))]) (c5) (by repeat' first | exact True.intro | exact rfl | refine And.intro ?_ ?_) (by simp [Handed, Ren.get, AObj.ren, AV.ren, AV.ren.renL, View.get, lookO, callF, newS, View.reach, AV.sites, AV.sites.sitesL, View.osites]) (by simp [namesOk, hasN, nodupB, Ren.get, newS, lim, upd]) (by rfl) (by simp only [backC, Ren.get, AObj.ren, AV.ren, AV.ren.renL, and_self, and_true, true_and, if_true, reduceIte]; rfl) ?_)) <;> try (simp -implicitDefEqProofs only [go_sem, wrsD_len, onSome_wrs, wrsD_unif, hx, wrD_eq, wrC_eq, recsD_len, onSome_recs, recsD_unif, recD_eq, recC_eq, recsD_set, hr, hPo', hPo, hPs, t2.1, t2.2, e5, w1, w2, hie, q1])) | (((with_reducible refine vc_b ?_ ?_) <;> intro _) <;> try (simp -implicitDefEqProofs only [go_sem, wrsD_len, onSome_wrs, wrsD_unif, hx, wrD_eq, wrC_eq, recsD_len, onSome_recs, recsD_unif, recD_eq, recC_eq, recsD_set, hr, hPo', hPo, hPs, t2.1, t2.2, e5, w1, w2, hie, q1])) | simp (disch := omega) only [wrapI, wrapU, shl1, shl1', shl1'', shrN, shrN', and_one] | ((with_reducible refine isEx3 ?_); refine ⟨(_, _, _), rfl, ?_, ?_⟩)
                  all_goals first | omega | exact .inl True.intro | exact e1 | exact e2.symm | exact e3.symm | exact e1' | trace_state
                · simp only [hit, false_and, if_false] at e3
                  (try (simp -implicitDefEqProofs only [go_sem, wrsD_len, onSome_wrs, wrsD_unif, hx, wrD_eq, wrC_eq, recsD_len, onSome_recs, recsD_unif, recD_eq, recC_eq, recsD_set, hr, hPo', hPo, hPs, t2.1, t2.2, e5, w1, w2, hie, q1, hid, hit])); repeat' first | with_reducible exact True.intro | with_reducible refine And.intro ?_ ?_ | with_reducible intro _ | (((with_reducible refine isCall ?_); first | refine call_s (c4) rfl (by simp [D.flat, D.flat1, D.prim]) ?_ | (refine call_m ([((900000, 0), (20, 0)), ((901000, 0), (10020, 0))]) ([((900000, 0), (20, 0)), ((901000, 0), (10020, 0))]) (c5) (by repeat' first | exact True.intro | exact rfl | refine And.intro ?_ ?_) (by simp [Handed, Ren.get, AObj.ren, AV.ren, AV.ren.renL, View.get, lookO, callF, newS, View.reach, AV.sites, AV.sites.sitesL, View.osites]) (by simp [namesOk, hasN, nodupB, Ren.get, newS, lim, upd]) (by rfl) (by simp only [backC, Ren.get, AObj.ren, AV.ren, AV.ren.renL, and_self, and_true, true_and, if_true, reduceIte]; rfl) ?_)) <;> try (simp -implicitDefEqProofs only [go_sem, wrsD_len, onSome_wrs, wrsD_unif, hx, wrD_eq, wrC_eq, recsD_len, onSome_recs, recsD_unif, recD_eq, recC_eq, recsD_set, hr, hPo', hPo, hPs, t2.1, t2.2, e5, w1, w2, hie, q1, hid, hit])) | (((with_reducible refine vc_b ?_ ?_) <;> intro _) <;> try (simp -implicitDefEqProofs only [go_sem, wrsD_len, onSome_wrs, wrsD_unif, hx, wrD_eq, wrC_eq, recsD_len, onSome_recs, recsD_unif, recD_eq, recC_eq, recsD_set, hr, hPo', hPo, hPs, t2.1, t2.2, e5, w1, w2, hie, q1, hid, hit])) | simp (disch := omega) only [wrapI, wrapU, shl1, shl1', shl1'', shrN, shrN', and_one] | ((with_reducible refine isEx3 ?_); refine ⟨(_, _, _), rfl, ?_, ?_⟩)
                  all_goals first | omega | exact .inl True.intro | exact e1 | exact e2.symm | exact e3.symm | exact e1' | trace_state
            · have c5 := own_append_no (l.op.setS s) gL x ha
              have c5' : appE (l.op.setS s).blocks (l.op.setS s).slots x = appE l.blocks s x := rfl
              rw [c5'] at c5
              have hE : errN l.blocks l.slots es es.length = appE l.blocks s x := by
                rw [← e1]; exact errN_mono (by rw [e1]; exact ha) _ (by omega)
              rw [hE, if_neg ha, zero_eq]
              unfold logV at c5
              simp only [GLog.setS, GLog.op] at c4 c5
              (try (simp -implicitDefEqProofs only [go_sem, wrsD_len, onSome_wrs, wrsD_unif, hx, wrD_eq, wrC_eq, recsD_len, onSome_recs, recsD_unif, recD_eq, recC_eq, w1, w2, hie, q1, ha])); repeat' first | with_reducible exact True.intro | with_reducible refine And.intro ?_ ?_ | with_reducible intro _ | (((with_reducible refine isCall ?_); first | refine call_s (c4) rfl (by simp [D.flat, D.flat1, D.prim]) ?_ | (refine call_m ([((900000, 0), (20, 0)), ((901000, 0), (10020, 0))]) ([((900000, 0), (20, 0)), ((901000, 0), (10020, 0))]) (c5) (by repeat' first | exact True.intro | exact rfl | refine And.intro ?_ ?_) (by simp [Handed, Ren.get, AObj.ren, AV.ren, AV.ren.renL, View.get, lookO, callF, newS, View.reach, AV.sites, AV.sites.sitesL, View.osites]) (by simp [namesOk, hasN, nodupB, Ren.get, newS, lim, upd]) (by rfl) (by simp only [backC, Ren.get, AObj.ren, AV.ren, AV.ren.renL, and_self, and_true, true_and, if_true, reduceIte]; rfl) ?_)) <;> try (simp -implicitDefEqProofs only [go_sem, wrsD_len, onSome_wrs, wrsD_unif, hx, wrD_eq, wrC_eq, recsD_len, onSome_recs, recsD_unif, recD_eq, recC_eq, w1, w2, hie, q1, ha])) | (((with_reducible refine vc_b ?_ ?_) <;> intro _) <;> try (simp -implicitDefEqProofs only [go_sem, wrsD_len, onSome_wrs, wrsD_unif, hx, wrD_eq, wrC_eq, recsD_len, onSome_recs, recsD_unif, recD_eq, recC_eq, w1, w2, hie, q1, ha])) | simp (disch := omega) only [wrapI, wrapU, shl1, shl1', shl1'', shrN, shrN', and_one] | ((with_reducible refine isEx3 ?_); refine ⟨(_, _, _), rfl, ?_, ?_⟩)
              all_goals first | omega | exact .inl True.intro | rfl | trace_state
          · have hi0 : i.toNat = es.length := by omega
            rw [hi0] at q4 q5
            have hd0 : ((d.toNat : Nat) : Int) = d := by omega
            have hcut : o = cutS l.slots es d.toNat false := by
              rw [q5, ← outN_end l.slots es d.toNat false es.length (by omega) (by intro h; cases h), hd0]
            rw [if_pos q4, q4, ← hcut]
            (try (simp -implicitDefEqProofs only [go_sem, wrsD_len, recsD_len, logD_eq, logC_eq, GLog.setS, GLog.op, hie])); repeat' first | with_reducible exact True.intro | with_reducible refine And.intro ?_ ?_ | with_reducible intro _ | (((with_reducible refine vc_b ?_ ?_) <;> intro _) <;> try (simp -implicitDefEqProofs only [go_sem, wrsD_len, recsD_len, logD_eq, logC_eq, GLog.setS, GLog.op, hie])) | simp (disch := omega) only [wrapI, wrapU, shl1, shl1', shl1'', shrN, shrN', and_one] | ((with_reducible refine isEx3 ?_); refine ⟨(_, _, _), rfl, ?_, ?_⟩)
            all_goals first | omega | exact .inl True.intro | rfl | trace_state
  · have c1 := journal_open_ret l hs hz
    unfold openR at c1
    rw [if_neg he] at c1
    simp only [ne_eq, he, not_false_eq_true, if_true]
    rw [if_neg (by simpa using he), zero_eq, enter_eq]; unfold pc_journal_Cut
    (try (simp -implicitDefEqProofs only [go_sem, logD_eq, logC_eq, he])); repeat' first | with_reducible exact True.intro | with_reducible refine And.intro ?_ ?_ | with_reducible intro _ | (((with_reducible refine isCall ?_); first | refine call_b (c1) rfl ?_ ?_ | refine call_d (c1) rfl ?_ | refine call_sb (c1) rfl ?_ ?_ | refine call_s (c1) rfl rfl ?_) <;> try (simp -implicitDefEqProofs only [go_sem, logD_eq, logC_eq, he])) | (((with_reducible refine vc_b ?_ ?_) <;> intro _) <;> try (simp -implicitDefEqProofs only [go_sem, logD_eq, logC_eq, he])) | simp (disch := omega) only [wrapI, wrapU, shl1, shl1', shl1'', shrN, shrN', and_one] | ((with_reducible refine isEx3 ?_); refine ⟨(_, _, _), rfl, ?_, ?_⟩)
    all_goals first | omega | rfl | (simp [he]; done) | trace_state

theorem journal_Append_ret (l : GLog) (hs : l.sn = true → l.slots = []) (hz : l.disk.zn = true → l.disk.zones = []) (nw : Bool) (es : List GWr) :
    Ret E0 F_journal_Append [logD l, .list nw (wrsD es)] (.tup [logD (l.cutL es es.length false), .int .i64 (l.cutE es es.length false)]) := by
  refine ret_of_pw dec_journal_Append mixed (by simp) fun hwf => ?_
  have c1 := journal_Cut_ret l hs hz nw es es.length false
  generalize l.cutL es es.length false = L at *
  generalize l.cutE es es.length false = e at *
  rw [enter_eq]; unfold pc_journal_Append
  (try (simp -implicitDefEqProofs only [go_sem, logD_eq, logC_eq, wrsD_len])); repeat' first | with_reducible exact True.intro | with_reducible refine And.intro ?_ ?_ | with_reducible intro _ | (((with_reducible refine isCall ?_); first | refine call_b (c1) rfl ?_ ?_ | refine call_d (c1) rfl ?_ | refine call_sb (c1) rfl ?_ ?_ | refine call_s (c1) rfl rfl ?_) <;> try (simp -implicitDefEqProofs only [go_sem, logD_eq, logC_eq, wrsD_len])) | (((with_reducible refine vc_b ?_ ?_) <;> intro _) <;> try (simp -implicitDefEqProofs only [go_sem, logD_eq, logC_eq, wrsD_len])) | simp (disch := omega) only [wrapI, wrapU, shl1, shl1', shl1'', shrN, shrN', and_one] 
  all_goals first | omega | rfl | trace_state
end Go.Pw
