/- A part of the proof. -/
import Derived.Test.YtiphmemigdplgaaDoorJournalI
set_option linter.all false
open Go Go.Pw Go.Proofs
namespace Go.Pw
set_option linter.unusedSimpArgs false
set_option linter.unusedVariables false
set_option maxRecDepth 100000
set_option maxHeartbeats 3200000
def sameR (a b : GRec) : Bool := a.num == b.num && a.blk == b.blk && a.val == b.val && a.tail == b.tail && a.bad == b.bad
theorem sameR_iff {a b : GRec} : sameR a b = true ↔ a = b := by
  cases a; cases b; simp [sameR, and_assoc]
theorem recs_ext {a b : List GRec} (hl : a.length = b.length) (h : ∀ j : Nat, j < a.length → a[j]?.getD default = b[j]?.getD default) : a = b := by
  apply List.ext_getElem hl
  intro j h1 h2
  have := h j h1
  rwa [List.getElem?_eq_getElem h1, List.getElem?_eq_getElem h2, Option.getD_some, Option.getD_some] at this
attribute [local congr] cg_pw cg_seqI cg_seqE cg_stepI cg_ev cg_evBin cg_condB cg_condV cg_thenQ cg_blockQ cg_onSome cg_onCells cg_onRow cg_onMap cg_onOpt cg_ghosts cg_ghost cg_evCall cg_part cg_rng cg_guardV cg_frzV cg_frpV cg_ownV cg_owcV cg_occV cg_occX cg_resK cg_res1 cg_yldP cg_rndE cg_onlyN cg_onHist
attribute [local irreducible] IntKind.wrap bitsOp Option.getD and or

theorem law16_sameRecords_ret (na nb : Bool) (a b : List GRec) (s : Bool) (hs : s = true ↔ a = b) : Ret E0 F_law16_sameRecords [.list na (recsD a), .list nb (recsD b)] (.bool s) := by
  refine ret_of_pw dec_law16_sameRecords mixed (by simp) fun hwf => ?_
  simp only [wf_int, wf_bool, wf_ints, wf_list, wf_agg, wf_ptr, wf_fn, wf_tup, wf_all_cons, wf_all_nil, wf_all_map, inK_i64, maxLen_eq, List.length_map, ints_len, true_and, and_true, recsD_len] at hwf
  rw [enter_eq]; unfold pc_law16_sameRecords
  by_cases hl : a.length = b.length
  · have hl2 : (a.length : Int) = b.length := by omega
    (try (simp -implicitDefEqProofs only [go_sem, recsD_len, hl2])); repeat' first | with_reducible exact True.intro | with_reducible refine And.intro ?_ ?_ | with_reducible intro _ | (((with_reducible refine vc_b ?_ ?_) <;> intro _) <;> try (simp -implicitDefEqProofs only [go_sem, recsD_len, hl2])) | simp (disch := omega) only [wrapI, wrapU, shl1, shl1', shl1'', shrN, shrN', and_one] | ((with_reducible refine isEx ?_); refine ⟨_, rfl, ?_, ?_⟩)
    all_goals first | omega | (simp; done) | (simp; omega) | skip
    refine pw_loopS (α := Int) (l0 := ?l1) (m0 := ?m1) (fun x => [(5, .d (.int .i64 x))]) (fun x => []) (fun x => (0 ≤ x ∧ x ≤ a.length) ∧ ∀ j : Nat, j < x.toNat → a[j]?.getD default = b[j]?.getD default) (fun x => (a.length - x).toNat) ?a1_0 ?h01 ?he1 ?he21 ?hI1 ?step1
    case h01 => (simp -implicitDefEqProofs only [go_sem, recsD_len]; rfl)
    case he1 => rfl
    case he21 => rfl
    case' step1 => (rintro i hI; try dsimp only at hI)
    case' hI1 => try dsimp only
    · exact ⟨⟨by omega, by omega⟩, fun j hj => by omega⟩
    · obtain ⟨⟨q1, q2⟩, q3⟩ := hI
      by_cases hi : i < a.length
      · have w1 : IntKind.i64.wrap (i + 1) = i + 1 := wrapI _ (by omega)
        have hib : i < b.length := by omega
        obtain ⟨r, hr⟩ : ∃ r, a[i.toNat]?.getD default = r := ⟨_, rfl⟩
        obtain ⟨t, ht⟩ : ∃ t, b[i.toNat]?.getD default = t := ⟨_, rfl⟩
        by_cases he : r = t
        · have hn : ∀ j : Nat, j < (i + 1).toNat → a[j]?.getD default = b[j]?.getD default := fun j hj => by
            rcases (show j < i.toNat ∨ j = i.toNat by omega) with h1 | h1
            · exact q3 j h1
            · rw [h1, hr, ht, he]
          rw [← he] at ht
          (try (simp -implicitDefEqProofs only [go_sem, recsD_len, onSome_recs, hr, ht, recD_eq, recC_eq, recsD_unif, w1, hi, hib, q1])); repeat' first | with_reducible exact True.intro | with_reducible refine And.intro ?_ ?_ | with_reducible intro _ | (((with_reducible refine vc_b ?_ ?_) <;> intro _) <;> try (simp -implicitDefEqProofs only [go_sem, recsD_len, onSome_recs, hr, ht, recD_eq, recC_eq, recsD_unif, w1, hi, hib, q1])) | simp (disch := omega) only [wrapI, wrapU, shl1, shl1', shl1'', shrN, shrN', and_one] | ((with_reducible refine isEx ?_); refine ⟨_, rfl, ?_, ?_⟩)
          all_goals first | omega | (apply hn; assumption) | (simp; done) | skip
        · have hne : ¬ a = b := fun h => he (by rw [← hr, ← ht, h])
          have hsf : s = false := by
            cases s with
            | false => rfl
            | true => exact absurd (hs.1 rfl) hne
          have hd : ¬ (r.num = t.num ∧ r.blk = t.blk ∧ r.val = t.val ∧ r.tail = t.tail ∧ r.bad = t.bad) := fun h => he (GRec.ext' h.1 h.2.1 h.2.2.1 h.2.2.2.1 h.2.2.2.2)
          rw [hsf]
          (try (simp -implicitDefEqProofs only [go_sem, recsD_len, onSome_recs, hr, ht, recD_eq, recC_eq, recsD_unif, hi, hib, q1, hd])); repeat' first | with_reducible exact True.intro | with_reducible refine And.intro ?_ ?_ | with_reducible intro _ | (((with_reducible refine vc_b ?_ ?_) <;> intro _) <;> try (simp -implicitDefEqProofs only [go_sem, recsD_len, onSome_recs, hr, ht, recD_eq, recC_eq, recsD_unif, hi, hib, q1, hd])) | simp (disch := omega) only [wrapI, wrapU, shl1, shl1', shl1'', shrN, shrN', and_one] | ((with_reducible refine isEx ?_); refine ⟨_, rfl, ?_, ?_⟩)
          all_goals first | omega | (simp; done) | skip
      · have he : a = b := recs_ext hl fun j hj => q3 j (by omega)
        rw [hs.2 he]
        (try (simp -implicitDefEqProofs only [go_sem, recsD_len, hi])); repeat' first | with_reducible exact True.intro | with_reducible refine And.intro ?_ ?_ | with_reducible intro _ | (((with_reducible refine vc_b ?_ ?_) <;> intro _) <;> try (simp -implicitDefEqProofs only [go_sem, recsD_len, hi])) | simp (disch := omega) only [wrapI, wrapU, shl1, shl1', shl1'', shrN, shrN', and_one] | ((with_reducible refine isEx ?_); refine ⟨_, rfl, ?_, ?_⟩)
  · have hl2 : ¬ (a.length : Int) = b.length := by omega
    have hne : ¬ a = b := fun h => hl (by rw [h])
    have hsf : s = false := by
      cases s with
      | false => rfl
      | true => exact absurd (hs.1 rfl) hne
    rw [hsf]
    (try (simp -implicitDefEqProofs only [go_sem, recsD_len, hl2])); repeat' first | with_reducible exact True.intro | with_reducible refine And.intro ?_ ?_ | with_reducible intro _ | (((with_reducible refine vc_b ?_ ?_) <;> intro _) <;> try (simp -implicitDefEqProofs only [go_sem, recsD_len, hl2])) | simp (disch := omega) only [wrapI, wrapU, shl1, shl1', shl1'', shrN, shrN', and_one] | ((with_reducible refine isEx ?_); refine ⟨_, rfl, ?_, ?_⟩)
end Go.Pw
