/- A part of the proof. -/
import Derived.Test.YtiphmemigdplgaaDoorPgJournalA
set_option linter.all false
section
open Go Go.Pw Go.Proofs
namespace Go.Pw
set_option linter.unusedSimpArgs false
set_option linter.unusedVariables false
set_option maxRecDepth 100000
set_option maxHeartbeats 3200000
theorem sn_dptr0 {V : View} {c : D} {l : List D} : AV.snap V (.dptr (c :: l) 0) = some (.ptr (c :: l)) := rfl
theorem isEmpty_snocR {α : Type} (l : List α) (x : α) : (l ++ [x]).isEmpty = false := by cases l <;> rfl
/-- What 'kept' answers. -/
def GLog.keptA (l : GLog) : List GRec := if l.full then l.kept else []
theorem whole_next {l : GLog} {t n : Int} (h0 : t ≤ n) : l.whole t (n + 1 - t).toNat = (l.whole t (n - t).toNat && (!(l.at' n).bad && decide ((l.at' n).num = n))) := by
  rw [show (n + 1 - t).toNat = (n - t).toNat + 1 by omega, GLog.whole, show t + (((n - t).toNat : Nat) : Int) = n by omega]
theorem keptN_next {l : GLog} {t n : Int} (h0 : t ≤ n) : l.keptN t (n + 1 - t).toNat = l.keptN t (n - t).toNat ++ [l.at' n] := by
  rw [show (n + 1 - t).toNat = (n - t).toNat + 1 by omega, keptN_succ, show t + (((n - t).toNat : Nat) : Int) = n by omega]
theorem full_bad {l : GLog} {n : Int} (h0 : l.newest.tail ≤ n) (h1 : n ≤ l.newest.num) (h : (!(l.at' n).bad && decide ((l.at' n).num = n)) = false) : l.full = false := by
  unfold GLog.full
  exact whole_bad (i := (n - l.newest.tail).toNat) (by unfold GLog.many; omega) (by rw [show l.newest.tail + (((n - l.newest.tail).toNat : Nat) : Int) = n by omega]; exact h)
attribute [local congr] cg_pw cg_seqI cg_seqE cg_stepI cg_ev cg_evBin cg_condB cg_condV cg_thenQ cg_blockQ cg_onSome cg_onCells cg_onRow cg_onMap cg_onOpt cg_ghosts cg_ghost cg_evCall cg_part cg_rng cg_guardV cg_frzV cg_frpV cg_ownV cg_owcV cg_occV cg_occX cg_resK cg_res1 cg_yldP cg_rndE cg_onlyN cg_onHist
attribute [local irreducible] IntKind.wrap bitsOp Option.getD and or

theorem journal_slot_ret (l : GLog) (n : Int) (hl : 1 ≤ l.slots.length) (h0 : 0 ≤ n) : Ret E0 F_journal_log_slot [.ptr (logC l), .int .i64 n] (.ptr (recC (l.at' n))) := by
  refine ret_of_pw dec_journal_log_slot mixed (by simp) fun hwf => ?_
  have h1 := Int.tmod_nonneg (l.slots.length : Int) h0
  have h2 := Int.tmod_lt_of_pos n (b := (l.slots.length : Int)) (by omega)
  have e5 : ¬ (l.slots.length : Int) = 0 := by omega
  rw [enter_eq]; unfold pc_journal_log_slot GLog.at'
  (try (simp -implicitDefEqProofs only [go_sem, logC_eq, recsD_len, onSome_recs, recsD_unif, e5, h1, h2, recD_eq, sn_dptr0, recC_eq])); repeat' first | with_reducible exact True.intro | with_reducible refine And.intro ?_ ?_ | with_reducible intro _ | (((with_reducible refine vc_b ?_ ?_) <;> intro _) <;> try (simp -implicitDefEqProofs only [go_sem, logC_eq, recsD_len, onSome_recs, recsD_unif, e5, h1, h2, recD_eq, sn_dptr0, recC_eq])) | simp (disch := omega) only [wrapI, wrapU, shl1, shl1', shl1'', shrN, shrN', and_one] 
  all_goals first | omega | (simp; done) | rfl | skip

theorem journal_kept_ret (l : GLog) (g : l.Good) : Ret E0 F_journal_log_kept [.ptr (logC l)] (.tup [.list (!l.full || l.keptA.isEmpty) (recsD l.keptA), .bool l.full]) := by
  refine ret_of_pw dec_journal_log_kept mixed (by simp) fun hwf => ?_
  have c1 := journal_newest_ret l
  obtain ⟨n1, n2, n3⟩ := newest_good g
  have m1 := g.m1; have m2 := g.m2
  obtain ⟨⟨na, nb, nc, nd, ne⟩, hR⟩ : ∃ R, l.newest = R := ⟨_, rfl⟩
  have hN : l.newest.num = na := by rw [hR]
  have hT : l.newest.tail = nd := by rw [hR]
  rw [hR, recD_eq, recC_eq] at c1
  rw [hN, hT] at n3
  rw [hN] at n2
  rw [enter_eq]; unfold pc_journal_log_kept
  (try (simp -implicitDefEqProofs only [go_sem, logC_eq])); repeat' first | with_reducible exact True.intro | with_reducible refine And.intro ?_ ?_ | with_reducible intro _ | (((with_reducible refine isCall ?_); first | refine call_b (c1) rfl ?_ ?_ | refine call_d (c1) rfl ?_ | refine call_sb (c1) rfl ?_ ?_ | refine call_s (c1) rfl rfl ?_) <;> try (simp -implicitDefEqProofs only [go_sem, logC_eq])) | (((with_reducible refine vc_b ?_ ?_) <;> intro _) <;> try (simp -implicitDefEqProofs only [go_sem, logC_eq])) | simp (disch := omega) only [wrapI, wrapU, shl1, shl1', shl1'', shrN, shrN', and_one] | ((with_reducible refine isEx3 ?_); refine ⟨(_, _, _), rfl, ?_, ?_⟩)
  all_goals first | omega | (simp; done) | (simp; omega) | skip
  refine pw_loopS (α := Int × (List GRec) × Bool) (l0 := ?l1) (m0 := ?m1) (fun x => [(5, .d (.int .i64 x.1))]) (fun x => [(33, .row 40 5 x.2.2 (recsD x.2.1))]) (fun x => (nd ≤ x.1 ∧ x.1 ≤ na + 1) ∧ x.2.1 = l.keptN nd (x.1 - nd).toNat ∧ x.2.2 = x.2.1.isEmpty ∧ l.whole nd (x.1 - nd).toNat = true) (fun x => (na + 1 - x.1).toNat) (?a1_0, [], true) ?h01 ?he1 ?he21 ?hI1 ?step1
  case h01 => (simp -implicitDefEqProofs only [go_sem, logC_eq]; rfl)
  case he1 => rfl
  case he21 => rfl
  case' step1 => (rintro ⟨n, out, b⟩ hI; try dsimp only at hI)
  case' hI1 => try dsimp only
  · refine ⟨⟨by omega, by omega⟩, ?_, rfl, ?_⟩
    · rw [Int.sub_self]; rfl
    · rw [Int.sub_self]; rfl
  · obtain ⟨⟨q1, q2⟩, q3, q4, q5⟩ := hI
    by_cases hn : n ≤ na
    · have c2 := journal_slot_ret l n (by omega) (by omega)
      have w1 : IntKind.i64.wrap (n + 1) = n + 1 := wrapI _ (by omega)
      have k1 := whole_next (l := l) q1
      have k2 := keptN_next (l := l) q1
      have k3 := full_bad (l := l) (n := n) (by omega) (by omega)
      have hlen := keptN_len l nd (n - nd).toNat
      rw [← q3] at hlen k2
      rw [q5] at k1
      have hemp := isEmpty_snocR out
      obtain ⟨r, hr⟩ : ∃ r, l.at' n = r := ⟨_, rfl⟩
      rw [hr] at c2 k1 k2 k3
      rw [recC_eq] at c2
      cases hb : r.bad with
      | true =>
        have hf := k3 (by rw [hb]; simp)
        have ha : l.keptA = [] := by unfold GLog.keptA; rw [hf]; simp
        rw [hf, ha]
        rw [hb] at c2
        (try (simp -implicitDefEqProofs only [go_sem, logC_eq, hn, recsD_nil])); repeat' first | with_reducible exact True.intro | with_reducible refine And.intro ?_ ?_ | with_reducible intro _ | (((with_reducible refine isCall ?_); first | refine call_b (c2) rfl ?_ ?_ | refine call_d (c2) rfl ?_ | refine call_sb (c2) rfl ?_ ?_ | refine call_s (c2) rfl rfl ?_) <;> try (simp -implicitDefEqProofs only [go_sem, logC_eq, hn, recsD_nil])) | (((with_reducible refine vc_b ?_ ?_) <;> intro _) <;> try (simp -implicitDefEqProofs only [go_sem, logC_eq, hn, recsD_nil])) | simp (disch := omega) only [wrapI, wrapU, shl1, shl1', shl1'', shrN, shrN', and_one] | ((with_reducible refine isEx3 ?_); refine ⟨(_, _, _), rfl, ?_, ?_⟩)
        all_goals first | omega | (simp; done) | rfl | skip
      | false =>
        rw [hb] at c2
        by_cases hx : r.num = n
        · rw [hb, decide_eq_true hx] at k1
          have hnx : l.keptN nd (n + 1 - nd).toNat = out ++ [⟨r.num, r.blk, r.val, r.tail, false⟩] := by rw [k2, ← hb]
          have k1' : l.whole nd (n + 1 - nd).toNat = true := by rw [k1]; simp
          (try (simp -implicitDefEqProofs only [go_sem, logC_eq, hn, eq_true hx, recsD_len, recsD_unif, recsD_snoc, w1])); repeat' first | with_reducible exact True.intro | with_reducible refine And.intro ?_ ?_ | with_reducible intro _ | (((with_reducible refine isCall ?_); first | refine call_b (c2) rfl ?_ ?_ | refine call_d (c2) rfl ?_ | refine call_sb (c2) rfl ?_ ?_ | refine call_s (c2) rfl rfl ?_) <;> try (simp -implicitDefEqProofs only [go_sem, logC_eq, hn, eq_true hx, recsD_len, recsD_unif, recsD_snoc, w1])) | (((with_reducible refine vc_b ?_ ?_) <;> intro _) <;> try (simp -implicitDefEqProofs only [go_sem, logC_eq, hn, eq_true hx, recsD_len, recsD_unif, recsD_snoc, w1])) | simp (disch := omega) only [wrapI, wrapU, shl1, shl1', shl1'', shrN, shrN', and_one] | ((with_reducible refine isEx3 ?_); refine ⟨(_, _, _), rfl, ?_, ?_⟩)
          all_goals first | omega | exact hnx.symm | exact k1' | exact (hemp _).symm | skip
        · have hf := k3 (by rw [hb, decide_eq_false hx]; simp)
          have ha : l.keptA = [] := by unfold GLog.keptA; rw [hf]; simp
          rw [hf, ha]
          (try (simp -implicitDefEqProofs only [go_sem, logC_eq, hn, hx, recsD_nil])); repeat' first | with_reducible exact True.intro | with_reducible refine And.intro ?_ ?_ | with_reducible intro _ | (((with_reducible refine isCall ?_); first | refine call_b (c2) rfl ?_ ?_ | refine call_d (c2) rfl ?_ | refine call_sb (c2) rfl ?_ ?_ | refine call_s (c2) rfl rfl ?_) <;> try (simp -implicitDefEqProofs only [go_sem, logC_eq, hn, hx, recsD_nil])) | (((with_reducible refine vc_b ?_ ?_) <;> intro _) <;> try (simp -implicitDefEqProofs only [go_sem, logC_eq, hn, hx, recsD_nil])) | simp (disch := omega) only [wrapI, wrapU, shl1, shl1', shl1'', shrN, shrN', and_one] | ((with_reducible refine isEx3 ?_); refine ⟨(_, _, _), rfl, ?_, ?_⟩)
          all_goals first | omega | (simp; done) | rfl | skip
    · have hne : n = na + 1 := by omega
      have hm : (n - nd).toNat = l.many := by unfold GLog.many; omega
      rw [hm] at q3 q5
      have hf : l.full = true := by unfold GLog.full; rw [hT]; exact q5
      have ha : l.keptA = out := by unfold GLog.keptA GLog.kept; rw [hf, q3, hT]; rfl
      rw [hf, ha, ← q4]
      (try (simp -implicitDefEqProofs only [go_sem, logC_eq, hn])); repeat' first | with_reducible exact True.intro | with_reducible refine And.intro ?_ ?_ | with_reducible intro _ | (((with_reducible refine vc_b ?_ ?_) <;> intro _) <;> try (simp -implicitDefEqProofs only [go_sem, logC_eq, hn])) | simp (disch := omega) only [wrapI, wrapU, shl1, shl1', shl1'', shrN, shrN', and_one] | ((with_reducible refine isEx3 ?_); refine ⟨(_, _, _), rfl, ?_, ?_⟩)
end Go.Pw
end
section
open Go Go.Pw Go.Proofs
namespace Go.Pw
set_option linter.unusedSimpArgs false
set_option linter.unusedVariables false
set_option maxRecDepth 100000
set_option maxHeartbeats 3200000
theorem sn_ptrJ {V o g} : AV.snap V (.ptr o g 0) = match V.get o g with | some (.cells xs) => (match listM AV.toD1 xs with | some (c :: l) => some (.ptr (c :: l)) | _ => none) | _ => none := rfl
def nilR (nl : Bool) (l : List GRec) : Bool := nl && l.isEmpty
/-- A log in new memory. -/
def GLog.cp (l : GLog) : GLog := { l with disk := { l.disk with zn := l.disk.zn && l.disk.zones.isEmpty }, sn := l.sn && l.slots.isEmpty }
def GLog.openE (l : GLog) : Int := if l.check ≠ 0 then l.check else if l.full then 0 else 161
theorem cp_newest (l : GLog) : l.cp.newest = l.newest := rfl
theorem cp_at (l : GLog) (n : Int) : l.cp.at' n = l.at' n := rfl
theorem cp_kept (l : GLog) : l.cp.kept = l.kept := rfl
theorem cp_whole (l : GLog) (t : Int) : ∀ n, l.cp.whole t n = l.whole t n
  | 0 => rfl
  | n + 1 => by rw [GLog.whole, GLog.whole, cp_whole l t n]; rfl
theorem cp_full (l : GLog) : l.cp.full = l.full := cp_whole l _ _
theorem cp_keptA (l : GLog) : l.cp.keptA = l.keptA := by unfold GLog.keptA; rw [cp_full]; rfl
theorem cp_good {l : GLog} (g : l.Good) : l.cp.Good := by
  have s : Same l.disk l.cp.disk := ⟨rfl, rfl, rfl⟩
  exact ⟨g.d, g.b1, g.b2, g.m1, g.m2, g.f1, (by rw [s.size]; exact g.f2), g.s⟩
theorem check_good {l : GLog} (h : l.check = 0) : l.Good := log_good (GLog.check_ok.1 h)
theorem recsD_empty (l : List GRec) : (recsD l).isEmpty = l.isEmpty := by cases l <;> rfl
attribute [local congr] cg_pw cg_seqI cg_seqE cg_stepI cg_ev cg_evBin cg_condB cg_condV cg_thenQ cg_blockQ cg_onSome cg_onCells cg_onRow cg_onMap cg_onOpt cg_ghosts cg_ghost cg_evCall cg_part cg_rng cg_guardV cg_frzV cg_frpV cg_ownV cg_owcV cg_occV cg_occX cg_resK cg_res1 cg_yldP cg_rndE cg_onlyN cg_onHist
attribute [local irreducible] IntKind.wrap bitsOp Option.getD and or

theorem Clone_rec_ret (nl : Bool) (l : List GRec) (hl : l.length ≤ 1000) (hw : nl = true → l = []) : Ret E0 F_slices_Clone_api_Record_api_Record [.list nl (recsD l)] (.list (nl && l.isEmpty) (recsD l)) := by
  refine ret_of_pw dec_slices_Clone_api_Record_api_Record mixed (by simp) fun hwf => ?_
  rw [enter_eq]; unfold pc_slices_Clone_api_Record_api_Record
  cases nl with
  | true =>
    rw [hw rfl]
    (try (simp -implicitDefEqProofs only [go_sem, recsD_nil])); repeat' first | with_reducible exact True.intro | with_reducible refine And.intro ?_ ?_ | with_reducible intro _ | (((with_reducible refine vc_b ?_ ?_) <;> intro _) <;> try (simp -implicitDefEqProofs only [go_sem, recsD_nil])) | simp (disch := omega) only [wrapI, wrapU, shl1, shl1', shl1'', shrN, shrN', and_one] 
    all_goals first | rfl | (simp; done) | skip
  | false =>
    (try (simp -implicitDefEqProofs only [go_sem, recsD_len, recsD_unif])); repeat' first | with_reducible exact True.intro | with_reducible refine And.intro ?_ ?_ | with_reducible intro _ | (((with_reducible refine vc_b ?_ ?_) <;> intro _) <;> try (simp -implicitDefEqProofs only [go_sem, recsD_len, recsD_unif])) | simp (disch := omega) only [wrapI, wrapU, shl1, shl1', shl1'', shrN, shrN', and_one] 
    all_goals first | omega | rfl | (simp; done) | (rename_i hx; rw [hx]) | skip

theorem Clone_zone_ret (nl : Bool) (l : List Zp) (hl : l.length ≤ 1000) (hw : nl = true → l = []) : Ret E0 F_slices_Clone_api_Zone_api_Zone [.list nl (zpsD l)] (.list (nl && l.isEmpty) (zpsD l)) := by
  refine ret_of_pw dec_slices_Clone_api_Zone_api_Zone mixed (by simp) fun hwf => ?_
  rw [enter_eq]; unfold pc_slices_Clone_api_Zone_api_Zone
  cases nl with
  | true =>
    rw [hw rfl, show zpsD [] = [] from rfl]
    (try (simp -implicitDefEqProofs only [go_sem])); repeat' first | with_reducible exact True.intro | with_reducible refine And.intro ?_ ?_ | with_reducible intro _ | (((with_reducible refine vc_b ?_ ?_) <;> intro _) <;> try (simp -implicitDefEqProofs only [go_sem])) | simp (disch := omega) only [wrapI, wrapU, shl1, shl1', shl1'', shrN, shrN', and_one] 
    all_goals first | rfl | (simp; done) | skip
  | false =>
    (try (simp -implicitDefEqProofs only [go_sem, zpsD_len, zpsD_unif])); repeat' first | with_reducible exact True.intro | with_reducible refine And.intro ?_ ?_ | with_reducible intro _ | (((with_reducible refine vc_b ?_ ?_) <;> intro _) <;> try (simp -implicitDefEqProofs only [go_sem, zpsD_len, zpsD_unif])) | simp (disch := omega) only [wrapI, wrapU, shl1, shl1', shl1'', shrN, shrN', and_one] 
    all_goals first | omega | rfl | (simp; done) | (rename_i hx; rw [hx]) | skip

def openR (l : GLog) : D := if l.openE = 0 then .ptr (logC l.cp) else .nilptr
theorem journal_open_ret (l : GLog) (hs : l.sn = true → l.slots = []) (hz : l.disk.zn = true → l.disk.zones = []) : Ret E0 F_journal_open [logD l] (.tup [openR l, .int .i64 l.openE]) := by
  refine ret_of_pw dec_journal_open mixed (by simp) fun hwf => ?_
  have c1 := journal_Check_ret l
  rw [enter_eq]; unfold pc_journal_open openR GLog.openE
  by_cases hc : l.check = 0
  · rw [hc] at c1
    have g := check_good hc
    have m2 := g.m2
    have z2 := (good_of g.d).z2
    have c2 := Clone_rec_ret l.sn l.slots (by omega) hs
    have c3 := Clone_zone_ret l.disk.zn l.disk.zones (by omega) hz
    have c4 := journal_kept_ret l.cp (cp_good g)
    rw [cp_full, cp_keptA] at c4
    cases hf : l.full with
    | true =>
      rw [hf] at c4
      (try (simp -implicitDefEqProofs only [go_sem, logD_eq, logC_eq, GLog.cp, sn_ptrJ, hc])); repeat' first | with_reducible exact True.intro | with_reducible refine And.intro ?_ ?_ | with_reducible intro _ | (((with_reducible refine isCall ?_); first | refine call_b (c1) rfl ?_ ?_ | refine call_d (c1) rfl ?_ | refine call_sb (c1) rfl ?_ ?_ | refine call_s (c1) rfl rfl ?_ | refine call_b (c2) rfl ?_ ?_ | refine call_d (c2) rfl ?_ | refine call_sb (c2) rfl ?_ ?_ | refine call_s (c2) rfl rfl ?_ | refine call_b (c3) rfl ?_ ?_ | refine call_d (c3) rfl ?_ | refine call_sb (c3) rfl ?_ ?_ | refine call_s (c3) rfl rfl ?_ | refine call_b (c4) rfl ?_ ?_ | refine call_d (c4) rfl ?_ | refine call_sb (c4) rfl ?_ ?_ | refine call_s (c4) rfl rfl ?_) <;> try (simp -implicitDefEqProofs only [go_sem, logD_eq, logC_eq, GLog.cp, sn_ptrJ, hc])) | (((with_reducible refine vc_b ?_ ?_) <;> intro _) <;> try (simp -implicitDefEqProofs only [go_sem, logD_eq, logC_eq, GLog.cp, sn_ptrJ, hc])) | simp (disch := omega) only [wrapI, wrapU, shl1, shl1', shl1'', shrN, shrN', and_one] 
      all_goals first | omega | rfl | (simp [hc]; done)
    | false =>
      rw [hf] at c4
      (try (simp -implicitDefEqProofs only [go_sem, logD_eq, logC_eq, GLog.cp, sn_ptrJ, hc])); repeat' first | with_reducible exact True.intro | with_reducible refine And.intro ?_ ?_ | with_reducible intro _ | (((with_reducible refine isCall ?_); first | refine call_b (c1) rfl ?_ ?_ | refine call_d (c1) rfl ?_ | refine call_sb (c1) rfl ?_ ?_ | refine call_s (c1) rfl rfl ?_ | refine call_b (c2) rfl ?_ ?_ | refine call_d (c2) rfl ?_ | refine call_sb (c2) rfl ?_ ?_ | refine call_s (c2) rfl rfl ?_ | refine call_b (c3) rfl ?_ ?_ | refine call_d (c3) rfl ?_ | refine call_sb (c3) rfl ?_ ?_ | refine call_s (c3) rfl rfl ?_ | refine call_b (c4) rfl ?_ ?_ | refine call_d (c4) rfl ?_ | refine call_sb (c4) rfl ?_ ?_ | refine call_s (c4) rfl rfl ?_) <;> try (simp -implicitDefEqProofs only [go_sem, logD_eq, logC_eq, GLog.cp, sn_ptrJ, hc])) | (((with_reducible refine vc_b ?_ ?_) <;> intro _) <;> try (simp -implicitDefEqProofs only [go_sem, logD_eq, logC_eq, GLog.cp, sn_ptrJ, hc])) | simp (disch := omega) only [wrapI, wrapU, shl1, shl1', shl1'', shrN, shrN', and_one] 
      all_goals first | omega | rfl | (simp [hc]; done)
  · (try (simp -implicitDefEqProofs only [go_sem, logD_eq, logC_eq, hc])); repeat' first | with_reducible exact True.intro | with_reducible refine And.intro ?_ ?_ | with_reducible intro _ | (((with_reducible refine isCall ?_); first | refine call_b (c1) rfl ?_ ?_ | refine call_d (c1) rfl ?_ | refine call_sb (c1) rfl ?_ ?_ | refine call_s (c1) rfl rfl ?_) <;> try (simp -implicitDefEqProofs only [go_sem, logD_eq, logC_eq, hc])) | (((with_reducible refine vc_b ?_ ?_) <;> intro _) <;> try (simp -implicitDefEqProofs only [go_sem, logD_eq, logC_eq, hc])) | simp (disch := omega) only [wrapI, wrapU, shl1, shl1', shl1'', shrN, shrN', and_one] 
    all_goals first | omega | rfl | (simp [hc]; done)
end Go.Pw
end
section
open Go Go.Pw Go.Proofs
namespace Go.Pw
set_option linter.unusedSimpArgs false
set_option linter.unusedVariables false
set_option maxRecDepth 100000
set_option maxHeartbeats 3200000
def GLog.recE (l : GLog) : List GRec := if l.openE = 0 then l.kept else []
def GLog.room (l : GLog) : Int := if l.openE = 0 then l.newest.tail + l.slots.length - l.newest.num - 1 else 0
theorem openE_0 {l : GLog} (h : l.openE = 0) : l.check = 0 ∧ l.full = true := by
  unfold GLog.openE at h
  by_cases hc : l.check = 0
  · refine ⟨hc, ?_⟩
    rw [if_neg (by simpa using hc)] at h
    cases hf : l.full with
    | true => rfl
    | false => rw [hf] at h; simp at h
  · rw [if_pos hc] at h; exact absurd h hc
theorem keptA_full {l : GLog} (h : l.full = true) : l.keptA = l.kept := by unfold GLog.keptA; rw [h]; rfl
attribute [local congr] cg_pw cg_seqI cg_seqE cg_stepI cg_ev cg_evBin cg_condB cg_condV cg_thenQ cg_blockQ cg_onSome cg_onCells cg_onRow cg_onMap cg_onOpt cg_ghosts cg_ghost cg_evCall cg_part cg_rng cg_guardV cg_frzV cg_frpV cg_ownV cg_owcV cg_occV cg_occX cg_resK cg_res1 cg_yldP cg_rndE cg_onlyN cg_onHist
attribute [local irreducible] IntKind.wrap bitsOp Option.getD and or

theorem journal_Recover_ret (l : GLog) (hs : l.sn = true → l.slots = []) (hz : l.disk.zn = true → l.disk.zones = []) : Ret E0 F_journal_Recover [logD l] (.tup [.list l.recE.isEmpty (recsD l.recE), .int .i64 l.openE]) := by
  refine ret_of_pw dec_journal_Recover mixed (by simp) fun hwf => ?_
  have c1 := journal_open_ret l hs hz
  rw [enter_eq]; unfold pc_journal_Recover GLog.recE
  unfold openR at c1
  by_cases he : l.openE = 0
  · obtain ⟨h1, h2⟩ := openE_0 he
    have c2 := journal_kept_ret l.cp (cp_good (check_good h1))
    rw [cp_full, cp_keptA, h2, keptA_full h2] at c2
    rw [if_pos he] at c1
    rw [if_pos he]
    rw [he] at c1 ⊢
    (try (simp -implicitDefEqProofs only [go_sem, logD_eq, logC_eq, GLog.cp])); repeat' first | with_reducible exact True.intro | with_reducible refine And.intro ?_ ?_ | with_reducible intro _ | (((with_reducible refine isCall ?_); first | refine call_b (c1) rfl ?_ ?_ | refine call_d (c1) rfl ?_ | refine call_sb (c1) rfl ?_ ?_ | refine call_s (c1) rfl rfl ?_ | refine call_b (c2) rfl ?_ ?_ | refine call_d (c2) rfl ?_ | refine call_sb (c2) rfl ?_ ?_ | refine call_s (c2) rfl rfl ?_) <;> try (simp -implicitDefEqProofs only [go_sem, logD_eq, logC_eq, GLog.cp])) | (((with_reducible refine vc_b ?_ ?_) <;> intro _) <;> try (simp -implicitDefEqProofs only [go_sem, logD_eq, logC_eq, GLog.cp])) | simp (disch := omega) only [wrapI, wrapU, shl1, shl1', shl1'', shrN, shrN', and_one] 
    all_goals first | omega | rfl | (simp; done)
  · rw [if_neg he] at c1
    rw [if_neg he]
    (try (simp -implicitDefEqProofs only [go_sem, logD_eq, logC_eq, he, recsD_nil])); repeat' first | with_reducible exact True.intro | with_reducible refine And.intro ?_ ?_ | with_reducible intro _ | (((with_reducible refine isCall ?_); first | refine call_b (c1) rfl ?_ ?_ | refine call_d (c1) rfl ?_ | refine call_sb (c1) rfl ?_ ?_ | refine call_s (c1) rfl rfl ?_) <;> try (simp -implicitDefEqProofs only [go_sem, logD_eq, logC_eq, he, recsD_nil])) | (((with_reducible refine vc_b ?_ ?_) <;> intro _) <;> try (simp -implicitDefEqProofs only [go_sem, logD_eq, logC_eq, he, recsD_nil])) | simp (disch := omega) only [wrapI, wrapU, shl1, shl1', shl1'', shrN, shrN', and_one] 
    all_goals first | omega | rfl | (simp; done)

theorem journal_limit_ret (l : GLog) (g : l.Good) : Ret E0 F_journal_log_limit [.ptr (logC l)] (.int .i64 (l.newest.tail + l.slots.length)) := by
  refine ret_of_pw dec_journal_log_limit mixed (by simp) fun hwf => ?_
  have c1 := journal_newest_ret l
  obtain ⟨n1, n2, n3⟩ := newest_good g
  have m1 := g.m1; have m2 := g.m2
  obtain ⟨⟨na, nb, nc, nd, ne⟩, hR⟩ : ∃ R, l.newest = R := ⟨_, rfl⟩
  rw [hR] at c1 n2 n3 ⊢
  rw [recD_eq, recC_eq] at c1
  have w1 : IntKind.i64.wrap (nd + l.slots.length) = nd + l.slots.length := wrapI _ (by simp only at n2 n3; omega)
  rw [enter_eq]; unfold pc_journal_log_limit
  (try (simp -implicitDefEqProofs only [go_sem, logC_eq, recsD_len, w1])); repeat' first | with_reducible exact True.intro | with_reducible refine And.intro ?_ ?_ | with_reducible intro _ | (((with_reducible refine isCall ?_); first | refine call_b (c1) rfl ?_ ?_ | refine call_d (c1) rfl ?_ | refine call_sb (c1) rfl ?_ ?_ | refine call_s (c1) rfl rfl ?_) <;> try (simp -implicitDefEqProofs only [go_sem, logC_eq, recsD_len, w1])) | (((with_reducible refine vc_b ?_ ?_) <;> intro _) <;> try (simp -implicitDefEqProofs only [go_sem, logC_eq, recsD_len, w1])) | simp (disch := omega) only [wrapI, wrapU, shl1, shl1', shl1'', shrN, shrN', and_one] 
  all_goals first | omega | rfl | (simp; done)

theorem journal_Room_ret (l : GLog) (hs : l.sn = true → l.slots = []) (hz : l.disk.zn = true → l.disk.zones = []) : Ret E0 F_journal_Room [logD l] (.tup [.int .i64 l.room, .int .i64 l.openE]) := by
  refine ret_of_pw dec_journal_Room mixed (by simp) fun hwf => ?_
  have c1 := journal_open_ret l hs hz
  rw [enter_eq]; unfold pc_journal_Room GLog.room
  unfold openR at c1
  by_cases he : l.openE = 0
  · obtain ⟨h1, h2⟩ := openE_0 he
    have g := cp_good (check_good h1)
    have c2 := journal_limit_ret l.cp g
    have c3 := journal_newest_ret l.cp
    obtain ⟨n1, n2, n3⟩ := newest_good g
    have m1 := g.m1; have m2 := g.m2
    rw [cp_newest] at c2 c3 n2 n3
    obtain ⟨⟨na, nb, nc, nd, ne⟩, hR⟩ : ∃ R, l.newest = R := ⟨_, rfl⟩
    rw [hR] at c2 c3 n2 n3 ⊢
    rw [recD_eq, recC_eq] at c3
    have e1 : l.cp.slots.length = l.slots.length := rfl
    rw [e1] at c2 m1 m2
    simp only at n2 n3 c2
    have w1 : IntKind.i64.wrap (nd + l.slots.length - na) = nd + l.slots.length - na := wrapI _ (by omega)
    have w2 : IntKind.i64.wrap (nd + l.slots.length - na - 1) = nd + l.slots.length - na - 1 := wrapI _ (by omega)
    rw [if_pos he] at c1
    rw [if_pos he]
    rw [he] at c1 ⊢
    (try (simp -implicitDefEqProofs only [go_sem, logD_eq, logC_eq, GLog.cp, w1, w2])); repeat' first | with_reducible exact True.intro | with_reducible refine And.intro ?_ ?_ | with_reducible intro _ | (((with_reducible refine isCall ?_); first | refine call_b (c1) rfl ?_ ?_ | refine call_d (c1) rfl ?_ | refine call_sb (c1) rfl ?_ ?_ | refine call_s (c1) rfl rfl ?_ | refine call_b (c2) rfl ?_ ?_ | refine call_d (c2) rfl ?_ | refine call_sb (c2) rfl ?_ ?_ | refine call_s (c2) rfl rfl ?_ | refine call_b (c3) rfl ?_ ?_ | refine call_d (c3) rfl ?_ | refine call_sb (c3) rfl ?_ ?_ | refine call_s (c3) rfl rfl ?_) <;> try (simp -implicitDefEqProofs only [go_sem, logD_eq, logC_eq, GLog.cp, w1, w2])) | (((with_reducible refine vc_b ?_ ?_) <;> intro _) <;> try (simp -implicitDefEqProofs only [go_sem, logD_eq, logC_eq, GLog.cp, w1, w2])) | simp (disch := omega) only [wrapI, wrapU, shl1, shl1', shl1'', shrN, shrN', and_one] 
    all_goals first | omega | rfl | (simp; done)
  · rw [if_neg he] at c1
    rw [if_neg he]
    (try (simp -implicitDefEqProofs only [go_sem, logD_eq, logC_eq, he])); repeat' first | with_reducible exact True.intro | with_reducible refine And.intro ?_ ?_ | with_reducible intro _ | (((with_reducible refine isCall ?_); first | refine call_b (c1) rfl ?_ ?_ | refine call_d (c1) rfl ?_ | refine call_sb (c1) rfl ?_ ?_ | refine call_s (c1) rfl rfl ?_) <;> try (simp -implicitDefEqProofs only [go_sem, logD_eq, logC_eq, he])) | (((with_reducible refine vc_b ?_ ?_) <;> intro _) <;> try (simp -implicitDefEqProofs only [go_sem, logD_eq, logC_eq, he])) | simp (disch := omega) only [wrapI, wrapU, shl1, shl1', shl1'', shrN, shrN', and_one] 
    all_goals first | omega | rfl | (simp; done)

theorem ref16_Newest_ret (l : GLog) : Ret E0 F_ref16_Newest [logD l] (.tup [.int .i64 l.newest.num, .int .i64 l.newest.tail]) := by
  refine ret_of_pw dec_ref16_Newest mixed (by simp) fun hwf => ?_
  simp only [wf_int, wf_bool, wf_ints, wf_list, wf_agg, wf_ptr, wf_fn, wf_tup, wf_all_cons, wf_all_nil, wf_all_map, inK_i64, maxLen_eq, List.length_map, ints_len, true_and, and_true, logD_eq, logC_eq, recsD_len, zpsD_len] at hwf
  rw [enter_eq]; unfold pc_ref16_Newest GLog.newest
  have c1 := fun r => ref16_Has_ret r
  (try (simp -implicitDefEqProofs only [go_sem, logD_eq, logC_eq])); repeat' first | with_reducible exact True.intro | with_reducible refine And.intro ?_ ?_ | with_reducible intro _ | (((with_reducible refine vc_b ?_ ?_) <;> intro _) <;> try (simp -implicitDefEqProofs only [go_sem, logD_eq, logC_eq])) | simp (disch := omega) only [wrapI, wrapU, shl1, shl1', shl1'', shrN, shrN', and_one] | ((with_reducible refine isEx3 ?_); refine ⟨(_, _, _), rfl, ?_, ?_⟩)
  all_goals first | omega | (simp; done) | (simp; omega) | skip
  refine pw_loopS (α := Int × Int × Int) (l0 := ?l1) (m0 := ?m1) (fun x => [(4, .d (.int .i64 x.1)), (2, .d (.int .i64 x.2.1)), (3, .d (.int .i64 x.2.2))]) (fun x => []) (fun x => (0 ≤ x.1 ∧ x.1 ≤ l.slots.length) ∧ (newN l.slots x.1.toNat).num = x.2.1 ∧ (newN l.slots x.1.toNat).tail = x.2.2) (fun x => (l.slots.length - x.1).toNat) (?a1_0, ?a1_1, ?a1_2) ?h01 ?he1 ?he21 ?hI1 ?step1
  case h01 => (simp -implicitDefEqProofs only [go_sem, recsD_len, logC_eq]; rfl)
  case he1 => rfl
  case he21 => rfl
  case' step1 => (rintro ⟨i, a, d⟩ hI; try dsimp only at hI)
  case' hI1 => try dsimp only
  · exact ⟨⟨by omega, by omega⟩, rfl, rfl⟩
  · obtain ⟨⟨h1, h2⟩, h3, h4⟩ := hI
    by_cases hi : i < l.slots.length
    · have w1 : IntKind.i64.wrap (i + 1) = i + 1 := wrapI _ (by omega)
      have hn := newN_next l.slots i h1
      have hge := newN_ge l.slots i.toNat
      rw [h3] at hn hge
      have c2 := c1 (l.slots[i.toNat]?.getD default)
      obtain ⟨r, hr⟩ : ∃ r, l.slots[i.toNat]?.getD default = r := ⟨_, rfl⟩
      rw [hr] at hn c2
      rw [recD_eq, recC_eq] at c2
      cases hb : r.bad with
      | true =>
        rw [hb] at hn c2
        simp only [Bool.not_true, Bool.false_and, Bool.false_eq_true, if_false] at hn c2
        have f3 : (newN l.slots (i + 1).toNat).num = a := by rw [hn, h3]
        have f4 : (newN l.slots (i + 1).toNat).tail = d := by rw [hn, h4]
        (try (simp -implicitDefEqProofs only [go_sem, recsD_len, onSome_recs, hr, recD_eq, recC_eq, recsD_unif, hb, w1, logC_eq, hi])); repeat' first | with_reducible exact True.intro | with_reducible refine And.intro ?_ ?_ | with_reducible intro _ | (((with_reducible refine isCall ?_); first | refine call_b (c2) rfl ?_ ?_ | refine call_d (c2) rfl ?_ | refine call_sb (c2) rfl ?_ ?_ | refine call_s (c2) rfl rfl ?_) <;> try (simp -implicitDefEqProofs only [go_sem, recsD_len, onSome_recs, hr, recD_eq, recC_eq, recsD_unif, hb, w1, logC_eq, hi])) | (((with_reducible refine vc_b ?_ ?_) <;> intro _) <;> try (simp -implicitDefEqProofs only [go_sem, recsD_len, onSome_recs, hr, recD_eq, recC_eq, recsD_unif, hb, w1, logC_eq, hi])) | simp (disch := omega) only [wrapI, wrapU, shl1, shl1', shl1'', shrN, shrN', and_one] | ((with_reducible refine isEx3 ?_); refine ⟨(_, _, _), rfl, ?_, ?_⟩)
        all_goals first | omega
      | false =>
        rw [hb] at hn c2
        by_cases hlt : a < r.num
        · have hz : 0 ≤ r.num := by omega
          simp only [Bool.not_false, Bool.true_and, decide_eq_true hlt, decide_eq_true hz, if_true] at hn c2
          have f3 : (newN l.slots (i + 1).toNat).num = r.num := by rw [hn]
          have f4 : (newN l.slots (i + 1).toNat).tail = r.tail := by rw [hn]
          (try (simp -implicitDefEqProofs only [go_sem, recsD_len, onSome_recs, hr, recD_eq, recC_eq, recsD_unif, hb, w1, hlt, logC_eq, hi])); repeat' first | with_reducible exact True.intro | with_reducible refine And.intro ?_ ?_ | with_reducible intro _ | (((with_reducible refine isCall ?_); first | refine call_b (c2) rfl ?_ ?_ | refine call_d (c2) rfl ?_ | refine call_sb (c2) rfl ?_ ?_ | refine call_s (c2) rfl rfl ?_) <;> try (simp -implicitDefEqProofs only [go_sem, recsD_len, onSome_recs, hr, recD_eq, recC_eq, recsD_unif, hb, w1, hlt, logC_eq, hi])) | (((with_reducible refine vc_b ?_ ?_) <;> intro _) <;> try (simp -implicitDefEqProofs only [go_sem, recsD_len, onSome_recs, hr, recD_eq, recC_eq, recsD_unif, hb, w1, hlt, logC_eq, hi])) | simp (disch := omega) only [wrapI, wrapU, shl1, shl1', shl1'', shrN, shrN', and_one] | ((with_reducible refine isEx3 ?_); refine ⟨(_, _, _), rfl, ?_, ?_⟩)
          all_goals first | omega
        · simp only [Bool.not_false, Bool.true_and, decide_eq_false hlt, Bool.false_eq_true, if_false] at hn c2
          have f3 : (newN l.slots (i + 1).toNat).num = a := by rw [hn, h3]
          have f4 : (newN l.slots (i + 1).toNat).tail = d := by rw [hn, h4]
          (try (simp -implicitDefEqProofs only [go_sem, recsD_len, onSome_recs, hr, recD_eq, recC_eq, recsD_unif, hb, w1, hlt, logC_eq, hi])); repeat' first | with_reducible exact True.intro | with_reducible refine And.intro ?_ ?_ | with_reducible intro _ | (((with_reducible refine isCall ?_); first | refine call_b (c2) rfl ?_ ?_ | refine call_d (c2) rfl ?_ | refine call_sb (c2) rfl ?_ ?_ | refine call_s (c2) rfl rfl ?_) <;> try (simp -implicitDefEqProofs only [go_sem, recsD_len, onSome_recs, hr, recD_eq, recC_eq, recsD_unif, hb, w1, hlt, logC_eq, hi])) | (((with_reducible refine vc_b ?_ ?_) <;> intro _) <;> try (simp -implicitDefEqProofs only [go_sem, recsD_len, onSome_recs, hr, recD_eq, recC_eq, recsD_unif, hb, w1, hlt, logC_eq, hi])) | simp (disch := omega) only [wrapI, wrapU, shl1, shl1', shl1'', shrN, shrN', and_one] | ((with_reducible refine isEx3 ?_); refine ⟨(_, _, _), rfl, ?_, ?_⟩)
          all_goals first | omega
    · have hie : i.toNat = l.slots.length := by omega
      rw [hie] at h3 h4
      rw [h3, h4]
      (try (simp -implicitDefEqProofs only [go_sem, recsD_len, hi, logC_eq])); repeat' first | with_reducible exact True.intro | with_reducible refine And.intro ?_ ?_ | with_reducible intro _ | (((with_reducible refine vc_b ?_ ?_) <;> intro _) <;> try (simp -implicitDefEqProofs only [go_sem, recsD_len, hi, logC_eq])) | simp (disch := omega) only [wrapI, wrapU, shl1, shl1', shl1'', shrN, shrN', and_one] | ((with_reducible refine isEx3 ?_); refine ⟨(_, _, _), rfl, ?_, ?_⟩)
      all_goals first | omega | (simp; done) | (simp; omega) | skip
end Go.Pw
end
