/- A part of the proof. -/
import Derived.Test.YtgeodifpcminpaaCodesC
import Derived.Test.YtgeodifpcminpaaCodesSpec2
set_option linter.all false
open Go Go.Pw Go.Proofs
namespace Go.Pw
set_option linter.unusedSimpArgs false
set_option linter.unusedVariables false
set_option maxRecDepth 100000
set_option maxHeartbeats 800000
attribute [local congr] cg_pw cg_seqI cg_seqE cg_stepI cg_ev cg_evBin cg_condB cg_condV cg_thenQ cg_blockQ cg_onSome cg_onCells cg_onRow cg_onMap cg_onOpt cg_ghosts cg_ghost cg_evCall cg_part cg_rng cg_guardV cg_frzV cg_frpV cg_ownV cg_owcV cg_occV cg_occX cg_resK cg_res1
attribute [local irreducible] IntKind.wrap bitsOp Option.getD and or

theorem keyEq_pair (p q : Pair) : keyEq (pairD p) (pairD q) = decide (p = q) := by
  obtain ⟨a, b⟩ := p; obtain ⟨x, y⟩ := q
  simp [keyEq, pairD, D.cells, allEq, primEq]

theorem slices_Index_pair_ret (nl : Bool) (l : List Pair) (q : Pair) : ∃ r : Int, (0 ≤ r ↔ q ∈ l) ∧ Ret E0 F_slices_Index_codes_pair_codes_pair [.list nl (pairsD l), pairD q] (.int .i64 r) := by
  refine ⟨match l.findIdx? (fun p => decide (q = p)) with | some i => i | none => -1, ?_, ?_⟩
  · cases hf : l.findIdx? (fun p => decide (q = p)) with
    | none => rw [List.findIdx?_eq_none_iff] at hf; simp; intro h; have := hf q h; simp at this
    | some i => rw [List.findIdx?_eq_some_iff_getElem] at hf; simp; obtain ⟨h1, h2, _⟩ := hf; simp at h2; rw [h2]; exact List.getElem_mem h1
  refine ret_of_pw dec_slices_Index_codes_pair_codes_pair mixed (by simp) fun hwf => ?_
  simp only [wf_int, wf_bool, wf_ints, wf_list, wf_agg, wf_ptr, wf_fn, wf_tup, wf_all_cons, wf_all_nil, wf_all_map, inK_i64, maxLen_eq, List.length_map, ints_len, true_and, and_true, pairsD_len] at hwf
  rw [enter_eq]; unfold pc_slices_Index_codes_pair_codes_pair
  simp -implicitDefEqProofs only [go_sem, pairsD_len, pairD_eq]
  refine pw_loopS (α := Int) (l0 := ?l1) (m0 := ?m1) (fun x => [(8, .d (.int .i64 x))]) (fun x => []) (fun x => 0 ≤ x ∧ x ≤ l.length ∧ ∀ (j : Nat) (hj : j < l.length), (j : Int) < x → q ≠ l[j]) (fun x => (l.length - x).toNat) ?a1_0 ?h01 ?he1 ?he21 ?hI1 ?step1
  case h01 => (simp -implicitDefEqProofs only [go_sem, pairsD_len, pairD_eq]; rfl)
  case he1 => rfl
  case he21 => rfl
  case' step1 => (rintro i hI; try dsimp only at hI)
  case' hI1 => try dsimp only
  · simp; omega
  · (try (simp -implicitDefEqProofs only [go_sem, pairsD_len, onSome_pairs, pairD_eq])); repeat' first | with_reducible exact True.intro | with_reducible refine And.intro ?_ ?_ | with_reducible intro _ | (((with_reducible refine vc_b ?_ ?_) <;> intro _) <;> try (simp -implicitDefEqProofs only [go_sem, pairsD_len, onSome_pairs, pairD_eq])) | simp (disch := omega) only [wrapI, wrapU, shl1, shl1', shl1'', shrN, shrN', and_one] | ((with_reducible refine isEx8 ?_); refine ⟨(_, _, _, _, _, _, _, _), rfl, ?_, ?_⟩) | ((with_reducible refine isEx7 ?_); refine ⟨(_, _, _, _, _, _, _), rfl, ?_, ?_⟩) | ((with_reducible refine isEx6 ?_); refine ⟨(_, _, _, _, _, _), rfl, ?_, ?_⟩) | ((with_reducible refine isEx5 ?_); refine ⟨(_, _, _, _, _), rfl, ?_, ?_⟩) | ((with_reducible refine isEx4 ?_); refine ⟨(_, _, _, _), rfl, ?_, ?_⟩) | ((with_reducible refine isEx3 ?_); refine ⟨(_, _, _), rfl, ?_, ?_⟩) | ((with_reducible refine isEx2 ?_); refine ⟨(_, _), rfl, ?_, ?_⟩) | ((with_reducible refine isEx ?_); refine ⟨_, rfl, ?_, ?_⟩)
    all_goals first | omega | (simp; done) | (simp; omega) | skip
    · have : l.findIdx? (fun p => decide (q = p)) = some i.toNat := by
        rw [List.findIdx?_eq_some_iff_getElem]
        have hx : l[i.toNat]?.getD default = l[i.toNat]'(by omega) := by rw [List.getElem?_eq_getElem (by omega), Option.getD_some]
        rename_i h1 h2
        rw [hx] at h2
        exact ⟨by omega, by simp; exact Prod.ext h2.1 h2.2, fun j hj => by simpa using hI.2.2 j (by omega) (by omega)⟩
      rw [this]; simp; omega
    · rename_i h1 h2 j hj hlt
      by_cases hji : j = i.toNat
      · subst hji
        have hx : l[i.toNat]?.getD default = l[i.toNat]'(by omega) := by rw [List.getElem?_eq_getElem (by omega), Option.getD_some]
        intro h; rw [hx, ← h] at h2; exact h2 ⟨rfl, rfl⟩
      · exact hI.2.2 j hj (by omega)
    · have : l.findIdx? (fun p => decide (q = p)) = none := by
        rw [List.findIdx?_eq_none_iff]; intro x hx; obtain ⟨j, hj, rfl⟩ := List.getElem_of_mem hx
        simpa using hI.2.2 j hj (by omega)
      rw [this]

theorem slices_Contains_pair_ret (nl : Bool) (l : List Pair) (q : Pair) : Ret E0 F_slices_Contains_codes_pair_codes_pair [.list nl (pairsD l), pairD q] (.bool (decide (q ∈ l))) := by
  refine ret_of_pw dec_slices_Contains_codes_pair_codes_pair mixed (by simp) fun hwf => ?_
  obtain ⟨r, hr, hret⟩ := slices_Index_pair_ret nl l q
  rw [enter_eq]; unfold pc_slices_Contains_codes_pair_codes_pair
  (try (simp -implicitDefEqProofs only [go_sem, pairD_eq])); repeat' first | with_reducible exact True.intro | with_reducible refine And.intro ?_ ?_ | with_reducible intro _ | (((with_reducible refine isCall ?_); first | refine call_b (hret) rfl ?_ ?_ | refine call_d (hret) rfl ?_ | refine call_sb (hret) rfl ?_ ?_ | refine call_s (hret) rfl rfl ?_) <;> try (simp -implicitDefEqProofs only [go_sem, pairD_eq])) | (((with_reducible refine vc_b ?_ ?_) <;> intro _) <;> try (simp -implicitDefEqProofs only [go_sem, pairD_eq])) | simp (disch := omega) only [wrapI, wrapU, shl1, shl1', shl1'', shrN, shrN', and_one] | ((with_reducible refine isEx8 ?_); refine ⟨(_, _, _, _, _, _, _, _), rfl, ?_, ?_⟩) | ((with_reducible refine isEx7 ?_); refine ⟨(_, _, _, _, _, _, _), rfl, ?_, ?_⟩) | ((with_reducible refine isEx6 ?_); refine ⟨(_, _, _, _, _, _), rfl, ?_, ?_⟩) | ((with_reducible refine isEx5 ?_); refine ⟨(_, _, _, _, _), rfl, ?_, ?_⟩) | ((with_reducible refine isEx4 ?_); refine ⟨(_, _, _, _), rfl, ?_, ?_⟩) | ((with_reducible refine isEx3 ?_); refine ⟨(_, _, _), rfl, ?_, ?_⟩) | ((with_reducible refine isEx2 ?_); refine ⟨(_, _), rfl, ?_, ?_⟩) | ((with_reducible refine isEx ?_); refine ⟨_, rfl, ?_, ?_⟩)
  all_goals simp_all
end Go.Pw
