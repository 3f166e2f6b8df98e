/- A part of the proof. -/
import Derived.Test.YtiphmemigdplgaaDoorJournalC
set_option linter.all false
open Go Go.Pw Go.Proofs
namespace Go.Pw
set_option linter.unusedSimpArgs false
set_option linter.unusedVariables false
set_option maxRecDepth 100000
set_option maxHeartbeats 3200000
theorem sn_dptr0 {V : View} {c : D} {l : List D} : AV.snap V (.dptr (c :: l) 0) = some (.ptr (c :: l)) := rfl
theorem isEmpty_snocR {α : Type} (l : List α) (x : α) : (l ++ [x]).isEmpty = false := by cases l <;> rfl
/-- What 'kept' answers. -/
def GLog.keptA (l : GLog) : List GRec := if l.full then l.kept else []
theorem whole_next {l : GLog} {t n : Int} (h0 : t ≤ n) : l.whole t (n + 1 - t).toNat = (l.whole t (n - t).toNat && (!(l.at' n).bad && decide ((l.at' n).num = n))) := by
  rw [show (n + 1 - t).toNat = (n - t).toNat + 1 by omega, GLog.whole, show t + (((n - t).toNat : Nat) : Int) = n by omega]
theorem keptN_next {l : GLog} {t n : Int} (h0 : t ≤ n) : l.keptN t (n + 1 - t).toNat = l.keptN t (n - t).toNat ++ [l.at' n] := by
  rw [show (n + 1 - t).toNat = (n - t).toNat + 1 by omega, keptN_succ, show t + (((n - t).toNat : Nat) : Int) = n by omega]
theorem full_bad {l : GLog} {n : Int} (h0 : l.newest.tail ≤ n) (h1 : n ≤ l.newest.num) (h : (!(l.at' n).bad && decide ((l.at' n).num = n)) = false) : l.full = false := by
  unfold GLog.full
  exact whole_bad (i := (n - l.newest.tail).toNat) (by unfold GLog.many; omega) (by rw [show l.newest.tail + (((n - l.newest.tail).toNat : Nat) : Int) = n by omega]; exact h)
attribute [local congr] cg_pw cg_seqI cg_seqE cg_stepI cg_ev cg_evBin cg_condB cg_condV cg_thenQ cg_blockQ cg_onSome cg_onCells cg_onRow cg_onMap cg_onOpt cg_ghosts cg_ghost cg_evCall cg_part cg_rng cg_guardV cg_frzV cg_frpV cg_ownV cg_owcV cg_occV cg_occX cg_resK cg_res1 cg_yldP cg_rndE cg_onlyN cg_onHist
attribute [local irreducible] IntKind.wrap bitsOp Option.getD and or

theorem journal_slot_ret (l : GLog) (n : Int) (hl : 1 ≤ l.slots.length) (h0 : 0 ≤ n) : Ret E0 F_journal_log_slot [.ptr (logC l), .int .i64 n] (.ptr (recC (l.at' n))) := by
  refine ret_of_pw dec_journal_log_slot mixed (by simp) fun hwf => ?_
  have h1 := Int.tmod_nonneg (l.slots.length : Int) h0
  have h2 := Int.tmod_lt_of_pos n (b := (l.slots.length : Int)) (by omega)
  have e5 : ¬ (l.slots.length : Int) = 0 := by omega
  rw [enter_eq]; unfold pc_journal_log_slot GLog.at'
  (try (simp -implicitDefEqProofs only [go_sem, logC_eq, recsD_len, onSome_recs, recsD_unif, e5, h1, h2, recD_eq, sn_dptr0, recC_eq])); repeat' first | with_reducible exact True.intro | with_reducible refine And.intro ?_ ?_ | with_reducible intro _ | (((with_reducible refine vc_b ?_ ?_) <;> intro _) <;> try (simp -implicitDefEqProofs only [go_sem, logC_eq, recsD_len, onSome_recs, recsD_unif, e5, h1, h2, recD_eq, sn_dptr0, recC_eq])) | simp (disch := omega) only [wrapI, wrapU, shl1, shl1', shl1'', shrN, shrN', and_one] 
  all_goals first | omega | (simp; done) | rfl | skip

theorem journal_kept_ret (l : GLog) (g : l.Good) : Ret E0 F_journal_log_kept [.ptr (logC l)] (.tup [.list (!l.full || l.keptA.isEmpty) (recsD l.keptA), .bool l.full]) := by
  refine ret_of_pw dec_journal_log_kept mixed (by simp) fun hwf => ?_
  have c1 := journal_newest_ret l
  obtain ⟨n1, n2, n3⟩ := newest_good g
  have m1 := g.m1; have m2 := g.m2
  obtain ⟨⟨na, nb, nc, nd, ne⟩, hR⟩ : ∃ R, l.newest = R := ⟨_, rfl⟩
  have hN : l.newest.num = na := by rw [hR]
  have hT : l.newest.tail = nd := by rw [hR]
  rw [hR, recD_eq, recC_eq] at c1
  rw [hN, hT] at n3
  rw [hN] at n2
  rw [enter_eq]; unfold pc_journal_log_kept
  (try (simp -implicitDefEqProofs only [go_sem, logC_eq])); repeat' first | with_reducible exact True.intro | with_reducible refine And.intro ?_ ?_ | with_reducible intro _ | (((with_reducible refine isCall ?_); first | refine call_b (c1) rfl ?_ ?_ | refine call_d (c1) rfl ?_ | refine call_sb (c1) rfl ?_ ?_ | refine call_s (c1) rfl rfl ?_) <;> try (simp -implicitDefEqProofs only [go_sem, logC_eq])) | (((with_reducible refine vc_b ?_ ?_) <;> intro _) <;> try (simp -implicitDefEqProofs only [go_sem, logC_eq])) | simp (disch := omega) only [wrapI, wrapU, shl1, shl1', shl1'', shrN, shrN', and_one] | ((with_reducible refine isEx3 ?_); refine ⟨(_, _, _), rfl, ?_, ?_⟩)
  all_goals first | omega | (simp; done) | (simp; omega) | skip
  refine pw_loopS (α := Int × (List GRec) × Bool) (l0 := ?l1) (m0 := ?m1) (fun x => [(5, .d (.int .i64 x.1))]) (fun x => [(33, .row 40 5 x.2.2 (recsD x.2.1))]) (fun x => (nd ≤ x.1 ∧ x.1 ≤ na + 1) ∧ x.2.1 = l.keptN nd (x.1 - nd).toNat ∧ x.2.2 = x.2.1.isEmpty ∧ l.whole nd (x.1 - nd).toNat = true) (fun x => (na + 1 - x.1).toNat) (?a1_0, [], true) ?h01 ?he1 ?he21 ?hI1 ?step1
  case h01 => (simp -implicitDefEqProofs only [go_sem, logC_eq]; rfl)
  case he1 => rfl
  case he21 => rfl
  case' step1 => (rintro ⟨n, out, b⟩ hI; try dsimp only at hI)
  case' hI1 => try dsimp only
  · refine ⟨⟨by omega, by omega⟩, ?_, rfl, ?_⟩
    · rw [Int.sub_self]; rfl
    · rw [Int.sub_self]; rfl
  · obtain ⟨⟨q1, q2⟩, q3, q4, q5⟩ := hI
    by_cases hn : n ≤ na
    · have c2 := journal_slot_ret l n (by omega) (by omega)
      have w1 : IntKind.i64.wrap (n + 1) = n + 1 := wrapI _ (by omega)
      have k1 := whole_next (l := l) q1
      have k2 := keptN_next (l := l) q1
      have k3 := full_bad (l := l) (n := n) (by omega) (by omega)
      have hlen := keptN_len l nd (n - nd).toNat
      rw [← q3] at hlen k2
      rw [q5] at k1
      have hemp := isEmpty_snocR out
      obtain ⟨r, hr⟩ : ∃ r, l.at' n = r := ⟨_, rfl⟩
      rw [hr] at c2 k1 k2 k3
      rw [recC_eq] at c2
      cases hb : r.bad with
      | true =>
        have hf := k3 (by rw [hb]; simp)
        have ha : l.keptA = [] := by unfold GLog.keptA; rw [hf]; simp
        rw [hf, ha]
        rw [hb] at c2
        (try (simp -implicitDefEqProofs only [go_sem, logC_eq, hn, recsD_nil])); repeat' first | with_reducible exact True.intro | with_reducible refine And.intro ?_ ?_ | with_reducible intro _ | (((with_reducible refine isCall ?_); first | refine call_b (c2) rfl ?_ ?_ | refine call_d (c2) rfl ?_ | refine call_sb (c2) rfl ?_ ?_ | refine call_s (c2) rfl rfl ?_) <;> try (simp -implicitDefEqProofs only [go_sem, logC_eq, hn, recsD_nil])) | (((with_reducible refine vc_b ?_ ?_) <;> intro _) <;> try (simp -implicitDefEqProofs only [go_sem, logC_eq, hn, recsD_nil])) | simp (disch := omega) only [wrapI, wrapU, shl1, shl1', shl1'', shrN, shrN', and_one] | ((with_reducible refine isEx3 ?_); refine ⟨(_, _, _), rfl, ?_, ?_⟩)
        all_goals first | omega | (simp; done) | rfl | skip
      | false =>
        rw [hb] at c2
        by_cases hx : r.num = n
        · rw [hb, decide_eq_true hx] at k1
          have hnx : l.keptN nd (n + 1 - nd).toNat = out ++ [⟨r.num, r.blk, r.val, r.tail, false⟩] := by rw [k2, ← hb]
          have k1' : l.whole nd (n + 1 - nd).toNat = true := by rw [k1]; simp
          (try (simp -implicitDefEqProofs only [go_sem, logC_eq, hn, eq_true hx, recsD_len, recsD_unif, recsD_snoc, w1])); repeat' first | with_reducible exact True.intro | with_reducible refine And.intro ?_ ?_ | with_reducible intro _ | (((with_reducible refine isCall ?_); first | refine call_b (c2) rfl ?_ ?_ | refine call_d (c2) rfl ?_ | refine call_sb (c2) rfl ?_ ?_ | refine call_s (c2) rfl rfl ?_) <;> try (simp -implicitDefEqProofs only [go_sem, logC_eq, hn, eq_true hx, recsD_len, recsD_unif, recsD_snoc, w1])) | (((with_reducible refine vc_b ?_ ?_) <;> intro _) <;> try (simp -implicitDefEqProofs only [go_sem, logC_eq, hn, eq_true hx, recsD_len, recsD_unif, recsD_snoc, w1])) | simp (disch := omega) only [wrapI, wrapU, shl1, shl1', shl1'', shrN, shrN', and_one] | ((with_reducible refine isEx3 ?_); refine ⟨(_, _, _), rfl, ?_, ?_⟩)
          all_goals first | omega | exact hnx.symm | exact k1' | exact (hemp _).symm | skip
        · have hf := k3 (by rw [hb, decide_eq_false hx]; simp)
          have ha : l.keptA = [] := by unfold GLog.keptA; rw [hf]; simp
          rw [hf, ha]
          (try (simp -implicitDefEqProofs only [go_sem, logC_eq, hn, hx, recsD_nil])); repeat' first | with_reducible exact True.intro | with_reducible refine And.intro ?_ ?_ | with_reducible intro _ | (((with_reducible refine isCall ?_); first | refine call_b (c2) rfl ?_ ?_ | refine call_d (c2) rfl ?_ | refine call_sb (c2) rfl ?_ ?_ | refine call_s (c2) rfl rfl ?_) <;> try (simp -implicitDefEqProofs only [go_sem, logC_eq, hn, hx, recsD_nil])) | (((with_reducible refine vc_b ?_ ?_) <;> intro _) <;> try (simp -implicitDefEqProofs only [go_sem, logC_eq, hn, hx, recsD_nil])) | simp (disch := omega) only [wrapI, wrapU, shl1, shl1', shl1'', shrN, shrN', and_one] | ((with_reducible refine isEx3 ?_); refine ⟨(_, _, _), rfl, ?_, ?_⟩)
          all_goals first | omega | (simp; done) | rfl | skip
    · have hne : n = na + 1 := by omega
      have hm : (n - nd).toNat = l.many := by unfold GLog.many; omega
      rw [hm] at q3 q5
      have hf : l.full = true := by unfold GLog.full; rw [hT]; exact q5
      have ha : l.keptA = out := by unfold GLog.keptA GLog.kept; rw [hf, q3, hT]; rfl
      rw [hf, ha, ← q4]
      (try (simp -implicitDefEqProofs only [go_sem, logC_eq, hn])); repeat' first | with_reducible exact True.intro | with_reducible refine And.intro ?_ ?_ | with_reducible intro _ | (((with_reducible refine vc_b ?_ ?_) <;> intro _) <;> try (simp -implicitDefEqProofs only [go_sem, logC_eq, hn])) | simp (disch := omega) only [wrapI, wrapU, shl1, shl1', shl1'', shrN, shrN', and_one] | ((with_reducible refine isEx3 ?_); refine ⟨(_, _, _), rfl, ?_, ?_⟩)
end Go.Pw
