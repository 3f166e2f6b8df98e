/- A part of the proof. -/
import Derived.Test.YtlnppoaghpbpoaaServoJ
set_option linter.all false
open Go Go.Pw Go.Proofs
namespace Go.Pw
set_option linter.unusedSimpArgs false
set_option linter.unusedVariables false
set_option maxRecDepth 100000
set_option maxHeartbeats 1600000
attribute [local congr] cg_pw cg_seqI cg_seqE cg_stepI cg_ev cg_evBin cg_condB cg_condV cg_thenQ cg_blockQ cg_onSome cg_onCells cg_onRow cg_onMap cg_onOpt cg_ghosts cg_ghost cg_evCall cg_part cg_rng cg_guardV cg_frzV cg_frpV cg_ownV cg_owcV cg_occV cg_occX cg_resK cg_res1
attribute [local irreducible] IntKind.wrap bitsOp Option.getD and or

def mergeS (out : List Pair) (q : Pair) : List Pair :=
  if 0 < out.length ∧ q.1 - 1 ≤ (lastP out).2 then out.set (out.length - 1) ((lastP out).1, max (lastP out).2 q.2) else out ++ [q]
def widen (M last : Int) (q : Pair) : Pair := (max 0 (q.1 - M), min last (q.2 + M))
def laterOf (M last : Int) (E : List Pair) : List Pair := E.foldl (fun out q => mergeS out (widen M last q)) []
def GServo.laterL (s : GServo) (l : List Pair) (more : Int) : List Pair := laterOf (more * s.move) s.last (s.endsL l)
theorem foldl_takeD {α β : Type} [Inhabited α] {f : β → α → β} {l : List α} {i : Nat} (x : β) (h : i < l.length) : (l.take (i + 1)).foldl f x = f ((l.take i).foldl f x) (l[i]?.getD default) := by
  rw [List.take_add_one, List.getElem?_eq_getElem h, Option.getD_some]
  simp only [Option.toList, List.foldl_append, List.foldl_cons, List.foldl_nil]
theorem mergeS_len (out : List Pair) (q : Pair) : (mergeS out q).length ≤ out.length + 1 := by unfold mergeS; split <;> simp
theorem laterOf_len (M last : Int) (E : List Pair) : ∀ i, i ≤ E.length → (laterOf M last (E.take i)).length ≤ i
  | 0, _ => by simp [laterOf]
  | i + 1, h => by
    have ih := laterOf_len M last E i (by omega)
    unfold laterOf at ih ⊢
    rw [foldl_takeD _ (by omega)]
    have := mergeS_len ((E.take i).foldl (fun out q => mergeS out (widen M last q)) []) (widen M last (E[i]?.getD default))
    omega
theorem more_bound {s : GServo} (h : s.ok = true) {more : Int} (hm : 0 ≤ more ∧ more ≤ 24) : 0 ≤ more * s.move ∧ more * s.move ≤ 1536 := by
  have hd := GServo.ok_head h
  have h1 : more * s.move ≤ 24 * s.move := Int.mul_le_mul_of_nonneg_right hm.2 (by omega)
  have h2 : 0 ≤ more * s.move := Int.mul_nonneg hm.1 (by omega)
  omega

theorem servo_later_ret (s : GServo) (h : s.ok = true) (nl : Bool) (l : List Pair) (hl : l.all wedgeOk = true) (h24 : l.length ≤ 24) (more : Int) (hm : 0 ≤ more ∧ more ≤ 24) :
    Ret E0 F_servo_head_later [.ptr (headC s nl l), .int .i64 more] (.list (s.laterL l more).isEmpty (pairsD (s.laterL l more))) := by
  refine ret_of_pw dec_servo_head_later mixed (by simp) fun hwf => ?_
  have hd := GServo.ok_head h
  have hb := last_bound h
  have hmb := more_bound h hm
  have c1 := servo_ends_ret s h nl l hl h24
  have hz := endL_len h l
  have hEl : (s.endsL l).length ≤ 1009 := by have := spansOf_len (fun p => decide ((s.endL l)[p]?.getD 0 ≤ s.wrong)) (s.endL l).length; unfold GServo.endsL; omega
  have hE := spansOf_hi (fun p => decide ((s.endL l)[p]?.getD 0 ≤ s.wrong)) (s.endL l).length
  change ∀ j, j < (s.endsL l).length → 0 ≤ ((s.endsL l)[j]?.getD default).1 ∧ ((s.endsL l)[j]?.getD default).1 ≤ ((s.endsL l)[j]?.getD default).2 ∧ ((s.endsL l)[j]?.getD default).2 < (s.endL l).length at hE
  unfold GServo.laterL
  have wM : IntKind.i64.wrap (more * s.move) = more * s.move := wrapI _ (by omega)
  generalize s.endsL l = E at *
  obtain ⟨M, hM⟩ : ∃ M, more * s.move = M := ⟨_, rfl⟩
  rw [hM] at hmb wM
  rw [hM]
  rw [enter_eq]; unfold pc_servo_head_later
  (try (simp -implicitDefEqProofs only [go_sem, headC_eq])); repeat' first | with_reducible exact True.intro | with_reducible refine And.intro ?_ ?_ | with_reducible intro _ | (((with_reducible refine isCall ?_); first | refine call_b (c1) rfl ?_ ?_ | refine call_d (c1) rfl ?_ | refine call_sb (c1) rfl ?_ ?_ | refine call_s (c1) rfl rfl ?_) <;> try (simp -implicitDefEqProofs only [go_sem, headC_eq])) | (((with_reducible refine vc_b ?_ ?_) <;> intro _) <;> try (simp -implicitDefEqProofs only [go_sem, headC_eq])) | simp (disch := omega) only [wrapI, wrapU, shl1, shl1', shl1'', shrN, shrN', and_one] | ((with_reducible refine isEx3 ?_); refine ⟨(_, _, _), rfl, ?_, ?_⟩)
  all_goals first | omega | (simp; done) | (simp; omega) | skip
  refine pw_loopS (α := Int × (List Pair) × Bool) (l0 := ?l1) (m0 := ?m1) (fun x => [(12, .d (.int .i64 x.1))]) (fun x => [(74, .row 54 2 x.2.2 (pairsD x.2.1))]) (fun x => 0 ≤ x.1 ∧ x.1 ≤ E.length ∧ x.2.1 = laterOf M s.last (E.take x.1.toNat) ∧ x.2.2 = x.2.1.isEmpty) (fun x => (E.length - x.1).toNat) (?a1_0, [], true) ?h01 ?he1 ?he21 ?hI1 ?step1
  case h01 => (simp -implicitDefEqProofs only [go_sem, headC_eq, pairsD_len]; rfl)
  case he1 => rfl
  case he21 => rfl
  case' step1 => (rintro ⟨i, out, b⟩ hI; try dsimp only at hI)
  case' hI1 => try dsimp only
  · exact ⟨by omega, by omega, rfl, rfl⟩
  · obtain ⟨h1, h2, h3, hb0⟩ := hI
    by_cases hi : i < E.length
    · have hle := laterOf_len M s.last E i.toNat (by omega)
      have hnx : laterOf M s.last (E.take (i + 1).toNat) = mergeS (laterOf M s.last (E.take i.toNat)) (widen M s.last (E[i.toNat]?.getD default)) := by
        rw [show (i + 1).toNat = i.toNat + 1 by omega]; unfold laterOf; rw [foldl_takeD _ (by omega)]
      rw [← h3] at hle hnx
      have hq := hE i.toNat (by omega)
      obtain ⟨⟨x, y⟩, hxy⟩ : ∃ q, E[i.toNat]?.getD default = q := ⟨_, rfl⟩
      rw [hxy] at hnx hq
      change 0 ≤ x ∧ x ≤ y ∧ y < _ at hq
      have w1 : IntKind.i64.wrap (x - M) = x - M := wrapI _ (by omega)
      have w2 : IntKind.i64.wrap (y + M) = y + M := wrapI _ (by omega)
      have w3 : IntKind.i64.wrap (max 0 (x - M) - 1) = max 0 (x - M) - 1 := wrapI _ (by omega)
      have hk : IntKind.i64.wrap ((out.length : Int) - 1) = (out.length : Int) - 1 := wrapI _ (by omega)
      have hk' : ((out.length : Int) - 1).toNat = out.length - 1 := by omega
      have hlp : out[out.length - 1]?.getD default = lastP out := rfl
      rw [mergeS, show (widen M s.last (x, y)).1 = max 0 (x - M) from rfl, show (widen M s.last (x, y)).2 = min s.last (y + M) from rfl, show widen M s.last (x, y) = (max 0 (x - M), min s.last (y + M)) from rfl] at hnx
      by_cases h0 : 0 < out.length
      · have hge : (0 : Int) ≤ (out.length : Int) - 1 := by omega
        by_cases he : max 0 (x - M) - 1 ≤ (lastP out).2
        · rw [if_pos ⟨h0, he⟩] at hnx
          (try (simp -implicitDefEqProofs only [go_sem, headC_eq, hM, wM, w1, w2, w3, hk, hk', hge, pairsD_len, onSome_pairs, pairsD_unif, pairD_eq, hxy, hlp, he, pairsD_set])); repeat' first | with_reducible exact True.intro | with_reducible refine And.intro ?_ ?_ | with_reducible intro _ | (((with_reducible refine vc_b ?_ ?_) <;> intro _) <;> try (simp -implicitDefEqProofs only [go_sem, headC_eq, hM, wM, w1, w2, w3, hk, hk', hge, pairsD_len, onSome_pairs, pairsD_unif, pairD_eq, hxy, hlp, he, pairsD_set])) | simp (disch := omega) only [wrapI, wrapU, shl1, shl1', shl1'', shrN, shrN', and_one] | ((with_reducible refine isEx3 ?_); refine ⟨(_, _, _), rfl, ?_, ?_⟩)
          all_goals first | omega | (simp; done) | (simp; omega) | skip
          all_goals first | exact hnx.symm | (rw [isEmpty_set]; exact hb0) | skip
        · rw [if_neg (by omega)] at hnx
          (try (simp -implicitDefEqProofs only [go_sem, headC_eq, hM, wM, w1, w2, w3, hk, hk', hge, pairsD_len, onSome_pairs, pairsD_unif, pairD_eq, hxy, hlp, he, pairsD_set, pairsD_snoc])); repeat' first | with_reducible exact True.intro | with_reducible refine And.intro ?_ ?_ | with_reducible intro _ | (((with_reducible refine vc_b ?_ ?_) <;> intro _) <;> try (simp -implicitDefEqProofs only [go_sem, headC_eq, hM, wM, w1, w2, w3, hk, hk', hge, pairsD_len, onSome_pairs, pairsD_unif, pairD_eq, hxy, hlp, he, pairsD_set, pairsD_snoc])) | simp (disch := omega) only [wrapI, wrapU, shl1, shl1', shl1'', shrN, shrN', and_one] | ((with_reducible refine isEx3 ?_); refine ⟨(_, _, _), rfl, ?_, ?_⟩)
          all_goals first | omega | (simp; done) | (simp; omega) | skip
          all_goals first | exact hnx.symm | exact (isEmpty_snoc _ _).symm | skip
      · have hge : ¬ (0 : Int) ≤ (out.length : Int) - 1 := by omega
        rw [if_neg (by omega)] at hnx
        (try (simp -implicitDefEqProofs only [go_sem, headC_eq, hM, wM, w1, w2, w3, hk, hk', hge, pairsD_len, onSome_pairs, pairsD_unif, pairD_eq, hxy, hlp, pairsD_snoc])); repeat' first | with_reducible exact True.intro | with_reducible refine And.intro ?_ ?_ | with_reducible intro _ | (((with_reducible refine vc_b ?_ ?_) <;> intro _) <;> try (simp -implicitDefEqProofs only [go_sem, headC_eq, hM, wM, w1, w2, w3, hk, hk', hge, pairsD_len, onSome_pairs, pairsD_unif, pairD_eq, hxy, hlp, pairsD_snoc])) | simp (disch := omega) only [wrapI, wrapU, shl1, shl1', shl1'', shrN, shrN', and_one] | ((with_reducible refine isEx3 ?_); refine ⟨(_, _, _), rfl, ?_, ?_⟩)
        all_goals first | omega | (simp; done) | (simp; omega) | skip
        all_goals first | exact hnx.symm | exact (isEmpty_snoc _ _).symm | skip
    · have : E.take i.toNat = E := List.take_of_length_le (by omega)
      rw [this] at h3
      rw [← h3, ← hb0]
      (try (simp -implicitDefEqProofs only [go_sem])); repeat' first | with_reducible exact True.intro | with_reducible refine And.intro ?_ ?_ | with_reducible intro _ | (((with_reducible refine vc_b ?_ ?_) <;> intro _) <;> try (simp -implicitDefEqProofs only [go_sem])) | simp (disch := omega) only [wrapI, wrapU, shl1, shl1', shl1'', shrN, shrN', and_one] | ((with_reducible refine isEx3 ?_); refine ⟨(_, _, _), rfl, ?_, ?_⟩)
      all_goals first | omega | (simp; done) | (simp; omega) | skip
end Go.Pw
