/- A part of the proof. -/
import Derived.Test.YtlnppoaghpbpoaaServoG
set_option linter.all false
open Go Go.Pw Go.Proofs
namespace Go.Pw
set_option linter.unusedSimpArgs false
set_option linter.unusedVariables false
set_option maxRecDepth 100000
set_option maxHeartbeats 1600000
attribute [local congr] cg_pw cg_seqI cg_seqE cg_stepI cg_ev cg_evBin cg_condB cg_condV cg_thenQ cg_blockQ cg_onSome cg_onCells cg_onRow cg_onMap cg_onOpt cg_ghosts cg_ghost cg_evCall cg_part cg_rng cg_guardV cg_frzV cg_frpV cg_ownV cg_owcV cg_occV cg_occX cg_resK cg_res1
attribute [local irreducible] IntKind.wrap bitsOp Option.getD and or

theorem slices_Clone_ret (l : List Int) (hl : 1 ≤ l.length) (h2 : l.length ≤ 2000) :
    CallM E0 F_slices_Clone_servo_row_int [] [.d (.list false (ints l))] [(7, 1, .row T_int 1 false (ints l))] (.own 7 1) := by
  refine callM_of_pw dec_slices_Clone_servo_row_int mixed (by simp) (by simp [okV0, nodupB, lim]) (by simp [hasN]) fun hwf hwo => ?_
  rw [enterM_eq]; unfold pc_slices_Clone_servo_row_int
  have hne : ints l ≠ [] := by cases l with | nil => simp at hl | cons x l => simp [ints]
  have hne' : l ≠ [] := by cases l with | nil => simp at hl | cons x l => simp
  (try (simp -implicitDefEqProofs only [go_sem, hne, hne'])); repeat' first | with_reducible exact True.intro | with_reducible refine And.intro ?_ ?_ | with_reducible intro _ | (((with_reducible refine vc_b ?_ ?_) <;> intro _) <;> try (simp -implicitDefEqProofs only [go_sem, hne, hne'])) | simp (disch := omega) only [wrapI, wrapU, shl1, shl1', shl1'', shrN, shrN', and_one] 
  all_goals first | omega | (simp; done) | (simp; omega) | skip

/-- The cheapest of the window of p. -/
def nearAt (m : Int) (r : List Int) (p : Nat) : Int := minL ((r.drop (max 0 ((p : Int) - m)).toNat).take ((min (r.length : Int) ((p : Int) + m + 1)).toNat - (max 0 ((p : Int) - m)).toNat))
def nearL (m : Int) (r : List Int) : List Int := (List.range r.length).map (nearAt m r)
theorem nearL_len (m : Int) (r : List Int) : (nearL m r).length = r.length := by simp [nearL]
theorem nearL_of {m : Int} {r acc : List Int} (h : acc.length = r.length) (ha : ∀ j : Nat, j < r.length → acc[j]?.getD 0 = nearAt m r j) : acc = nearL m r := by
  refine List.ext_getElem (by rw [h, nearL_len]) fun j h1 h2 => ?_
  have := ha j (by omega)
  rw [List.getElem?_eq_getElem h1, Option.getD_some] at this
  rw [this]; simp [nearL]

theorem servo_near_ret (s : GServo) (h : s.ok = true) (nl : Bool) (l : List Pair) (r : List Int) (hr : 1 ≤ r.length) (h2 : r.length ≤ 2000) :
    Ret E0 F_servo_head_near [.ptr (headC s nl l), .list false (ints r)] (.list false (ints (nearL s.move r))) := by
  refine ret_of_pw dec_servo_head_near mixed (by simp) fun hwf => ?_
  have hd := GServo.ok_head h
  rw [enter_eq]; unfold pc_servo_head_near
  (try (simp -implicitDefEqProofs only [go_sem])); repeat' first | with_reducible exact True.intro | with_reducible refine And.intro ?_ ?_ | with_reducible intro _ | (((with_reducible refine vc_b ?_ ?_) <;> intro _) <;> try (simp -implicitDefEqProofs only [go_sem])) | simp (disch := omega) only [wrapI, wrapU, shl1, shl1', shl1'', shrN, shrN', and_one] | ((with_reducible refine isEx2 ?_); refine ⟨(_, _), rfl, ?_, ?_⟩)
  all_goals first | omega | (simp; done) | (simp; omega) | skip
  refine pw_loopS (α := Int × (List Int)) (l0 := ?l1) (m0 := ?m1) (fun x => [(12, .d (.int .i64 x.1))]) (fun x => [(9, .row T_int 1 false (ints x.2))]) (fun x => 0 ≤ x.1 ∧ x.1 ≤ r.length ∧ x.2.length = r.length ∧ ∀ j : Nat, (j : Int) < x.1 → x.2[j]?.getD 0 = nearAt s.move r j) (fun x => (r.length - x.1).toNat) (?a1_0, List.replicate r.length 0) ?h01 ?he1 ?he21 ?hI1 ?step1
  case h01 => (simp -implicitDefEqProofs only [go_sem]; rfl)
  case he1 => rfl
  case he21 => rfl
  case' step1 => (rintro ⟨i, acc⟩ hI; try dsimp only at hI)
  case' hI1 => try dsimp only
  · exact ⟨by omega, by omega, by simp, fun j hj => by omega⟩
  · obtain ⟨h1, h3, h4, h5⟩ := hI
    by_cases hi : i < r.length
    · have c1 := fun nl' => slices_Min_ret nl' ((r.drop (max 0 (i - s.move)).toNat).take ((min (r.length : Int) (i + s.move + 1)).toNat - (max 0 (i - s.move)).toNat)) (by simp; omega)
      have e1 : minL ((r.drop (max 0 (i - s.move)).toNat).take ((min (r.length : Int) (i + s.move + 1)).toNat - (max 0 (i - s.move)).toNat)) = nearAt s.move r i.toNat := by
        unfold nearAt; rw [show ((i.toNat : Nat) : Int) = i by omega]
      have hset : ∀ j : Nat, (j : Int) < i + 1 → (acc.set i.toNat (nearAt s.move r i.toNat))[j]?.getD 0 = nearAt s.move r j := fun j hj => by
        rw [List.getElem?_set]
        by_cases hji : i.toNat = j
        · subst hji; simp [show i.toNat < acc.length by omega]
        · rw [if_neg hji]; exact h5 j (by omega)
      have w1 : IntKind.i64.wrap (i - s.move) = i - s.move := wrapI _ (by omega)
      have w2 : IntKind.i64.wrap (i + s.move) = i + s.move := wrapI _ (by omega)
      have w3 : IntKind.i64.wrap (i + s.move + 1) = i + s.move + 1 := wrapI _ (by omega)
      rw [e1] at c1
      (try (simp -implicitDefEqProofs only [go_sem, headC_eq, w1, w2, w3, h4, List.length_replicate])); repeat' first | with_reducible exact True.intro | with_reducible refine And.intro ?_ ?_ | with_reducible intro _ | (((with_reducible refine isCall ?_); first | refine call_b (c1 _) rfl ?_ ?_ | refine call_d (c1 _) rfl ?_ | refine call_sb (c1 _) rfl ?_ ?_ | refine call_s (c1 _) rfl rfl ?_) <;> try (simp -implicitDefEqProofs only [go_sem, headC_eq, w1, w2, w3, h4, List.length_replicate])) | (((with_reducible refine vc_b ?_ ?_) <;> intro _) <;> try (simp -implicitDefEqProofs only [go_sem, headC_eq, w1, w2, w3, h4, List.length_replicate])) | simp (disch := omega) only [wrapI, wrapU, shl1, shl1', shl1'', shrN, shrN', and_one] | ((with_reducible refine isEx2 ?_); refine ⟨(_, _), rfl, ?_, ?_⟩)
      all_goals first | omega | (apply hset; assumption) | (simp; done) | (simp; omega) | skip
    · have hx := nearL_of (m := s.move) h4 fun j hj => h5 j (by omega)
      rw [← hx]
      (try (simp -implicitDefEqProofs only [go_sem, List.length_replicate])); repeat' first | with_reducible exact True.intro | with_reducible refine And.intro ?_ ?_ | with_reducible intro _ | (((with_reducible refine vc_b ?_ ?_) <;> intro _) <;> try (simp -implicitDefEqProofs only [go_sem, List.length_replicate])) | simp (disch := omega) only [wrapI, wrapU, shl1, shl1', shl1'', shrN, shrN', and_one] | ((with_reducible refine isEx2 ?_); refine ⟨(_, _), rfl, ?_, ?_⟩)
      all_goals first | omega | (simp; done) | (simp; omega) | skip
end Go.Pw
