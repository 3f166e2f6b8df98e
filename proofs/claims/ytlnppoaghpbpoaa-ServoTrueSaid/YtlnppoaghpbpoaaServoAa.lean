/- A part of the proof. -/
import Derived.Test.YtlnppoaghpbpoaaServoN
set_option linter.all false
open Go Go.Pw Go.Proofs
namespace Go.Pw
set_option linter.unusedSimpArgs false
set_option linter.unusedVariables false
set_option maxRecDepth 100000
set_option maxHeartbeats 1600000
attribute [local congr] cg_pw cg_seqI cg_seqE cg_stepI cg_ev cg_evBin cg_condB cg_condV cg_thenQ cg_blockQ cg_onSome cg_onCells cg_onRow cg_onMap cg_onOpt cg_ghosts cg_ghost cg_evCall cg_part cg_rng cg_guardV cg_frzV cg_frpV cg_ownV cg_owcV cg_occV cg_occX cg_resK cg_res1
attribute [local irreducible] IntKind.wrap bitsOp Option.getD and or

/-- The row of the paths behind the wedge that has k behind it. -/
def GServo.bk (s : GServo) (l : List Pair) : Nat → List Int
  | 0 => s.zero
  | k + 1 => nearL s.move (s.addC l (l.length - 1 - k) (s.bk l k))
def GServo.backL (s : GServo) (l : List Pair) : List (List Int) := (List.range l.length).map fun i => s.bk l (l.length - 1 - i)
theorem bk_len (s : GServo) (l : List Pair) : ∀ k, (s.bk l k).length = s.zero.length
  | 0 => rfl
  | k + 1 => by rw [GServo.bk, nearL_len, addC_len, bk_len]
theorem zero_get' (s : GServo) {j : Nat} (h : j < s.zero.length) : s.zero[j]?.getD 0 = 0 := by
  simp only [GServo.zero, List.length_replicate] at h ⊢; simp [h]
theorem bk_bound {s : GServo} (h : s.ok = true) (l : List Pair) : ∀ (k j : Nat), j < s.zero.length → 0 ≤ (s.bk l k)[j]?.getD 0 ∧ (s.bk l k)[j]?.getD 0 ≤ k
  | 0, j, hj => by
    have := zero_get' s hj
    simp only [GServo.bk]; omega
  | k + 1, j, hj => by
    rw [GServo.bk, nearL_get (by rw [addC_len, bk_len]; exact hj)]
    obtain ⟨q, h1, _, _, h4⟩ := (nearAt_spec (m := s.move) (r := s.addC l (l.length - 1 - k) (s.bk l k)) (p := j) (by have := GServo.ok_head h; omega) (by rw [addC_len, bk_len]; exact hj)).1
    rw [addC_len, bk_len] at h1
    rw [h4, addC_get _ _ _ _ (by rw [bk_len]; exact h1)]
    have := bk_bound h l k q h1
    have := s.cost01 l ((l.length - 1 - k : Nat) : Int) q
    omega
theorem set_get {α : Type} (L : List α) (i j : Nat) (a : α) (h : i < L.length) : (L.set i a)[j]? = if i = j then some a else L[j]? := by
  rw [List.getElem?_set]; split
  · first | rfl | rw [if_pos h] | simp [h]
  · rfl

theorem servo_back_ret (s : GServo) (h : s.ok = true) (nl : Bool) (l : List Pair) (hl : l.all wedgeOk = true) (h24 : l.length ≤ 24) :
    Ret E0 F_servo_head_back [.ptr (headC s nl l)] (.list false (rwsD (s.backL l))) := by
  refine ret_of_pw dec_servo_head_back mixed (by simp) fun hwf => ?_
  have hd := GServo.ok_head h
  have hb := last_bound h
  have hz := zero_len h
  rw [enter_eq]; unfold pc_servo_head_back
  have w0 : IntKind.i64.wrap (s.last + 1) = s.last + 1 := wrapI _ (by omega)
  have w1 : IntKind.i64.wrap ((l.length : Int) - 1) = (l.length : Int) - 1 := wrapI _ (by omega)
  have hze : List.replicate (s.last + 1).toNat 0 = s.zero := rfl
  (try (simp -implicitDefEqProofs only [go_sem, headC_eq, w0, w1, pairsD_len, List.length_replicate, Int.toNat_natCast])); repeat' first | with_reducible exact True.intro | with_reducible refine And.intro ?_ ?_ | with_reducible intro _ | (((with_reducible refine vc_b ?_ ?_) <;> intro _) <;> try (simp -implicitDefEqProofs only [go_sem, headC_eq, w0, w1, pairsD_len, List.length_replicate, Int.toNat_natCast])) | simp (disch := omega) only [wrapI, wrapU, shl1, shl1', shl1'', shrN, shrN', and_one] | ((with_reducible refine isEx3 ?_); refine ⟨(_, _, _), rfl, ?_, ?_⟩) | ((with_reducible refine isEx2 ?_); refine ⟨(_, _), rfl, ?_, ?_⟩)
  all_goals first | omega | (simp; done) | (simp; omega) | skip
  refine pw_loopS (α := Int × (List Int) × (List D)) (l0 := ?l1) (m0 := ?m1) (fun x => [(5, .d (.int .i64 x.1)), (4, .d (.list false (ints x.2.1)))]) (fun x => [(13, .row 90 1 false x.2.2)]) (fun x => -1 ≤ x.1 ∧ x.1 < l.length ∧ x.2.1 = s.bk l (l.length - 1 - x.1).toNat ∧ x.2.2.length = l.length ∧ (∀ j : Nat, (j : Int) ≤ x.1 → x.2.2[j]? = some (D.list true [])) ∧ ∀ j : Nat, x.1 < (j : Int) → j < l.length → x.2.2[j]? = some (rwD (s.bk l (l.length - 1 - j)))) (fun x => (x.1 + 1).toNat) (?a1_0, s.zero, List.replicate l.length (D.list true [])) ?h01 ?he1 ?he21 ?hI1 ?step1
  case h01 => (simp -implicitDefEqProofs only [go_sem, headC_eq, w0, w1, hze, pairsD_len, List.length_replicate, Int.toNat_natCast]; rfl)
  case he1 => rfl
  case he21 => rfl
  case' step1 => (rintro ⟨i, now, L⟩ hI; try dsimp only at hI)
  case' hI1 => try dsimp only
  · refine ⟨by omega, by omega, by rw [show ((l.length : Int) - 1 - ((l.length : Int) - 1)).toNat = 0 by omega]; rfl, by simp, fun j hj => by rw [List.getElem?_replicate, if_pos (by omega)], fun j h1 h2 => by omega⟩
  · obtain ⟨h1, h2, h3, h4, h5, h6⟩ := hI
    have hbl := bk_len s l (l.length - 1 - i).toNat
    have hbb := bk_bound h l (l.length - 1 - i).toNat
    rw [← h3] at hbl hbb
    by_cases hi : 0 ≤ i
    · have hLi := h5 i.toNat (by omega)
      have cc := fun p hp => servo_costs_ret s h nl l hl h24 i p ⟨hi, h2⟩ hp
      have c2 := slices_Clone_ret now (by omega) (by omega)
      have w2 : IntKind.i64.wrap (i - 1) = i - 1 := wrapI _ (by omega)
      have w3 : IntKind.i64.wrap (i + 1) = i + 1 := wrapI _ (by omega)
      have hnx : s.bk l ((l.length : Int) - 1 - (i - 1)).toNat = nearL s.move (s.addC l i.toNat now) := by
        rw [show ((l.length : Int) - 1 - (i - 1)).toNat = ((l.length : Int) - 1 - i).toNat + 1 by omega, GServo.bk, ← h3, show l.length - 1 - ((l.length : Int) - 1 - i).toNat = i.toNat by omega]
      have hL5 : ∀ j : Nat, (j : Int) ≤ i - 1 → (L.set i.toNat (.list false (ints now)))[j]? = some (D.list true []) := fun j hj => by
        rw [set_get _ _ _ _ (by omega), if_neg (by omega)]; exact h5 j (by omega)
      have hL6 : ∀ j : Nat, i - 1 < (j : Int) → j < l.length → (L.set i.toNat (.list false (ints now)))[j]? = some (rwD (s.bk l (l.length - 1 - j))) := fun j hj1 hj2 => by
        rw [set_get _ _ _ _ (by omega)]
        by_cases hji : i.toNat = j
        · rw [if_pos hji, ← hji, rwD_eq, show l.length - 1 - i.toNat = ((l.length : Int) - 1 - i).toNat by omega, ← h3]
        · rw [if_neg hji]; exact h6 j (by omega) hj2
      (try (simp -implicitDefEqProofs only [go_sem, headC_eq, hi, hLi, h4])); repeat' first | with_reducible exact True.intro | with_reducible refine And.intro ?_ ?_ | with_reducible intro _ | (((with_reducible refine isCall ?_); first | (refine call_m ([]) ([((7, 1), (32, 1))]) (c2) (by repeat' first | exact True.intro | exact rfl | refine And.intro ?_ ?_) (by simp [Handed, Ren.get, AObj.ren, AV.ren, AV.ren.renL, View.get, lookO, callF, newS, View.reach, AV.sites, AV.sites.sitesL, View.osites]) (by simp [namesOk, hasN, nodupB, Ren.get, newS, lim, upd]) (by rfl) (by simp only [backC, Ren.get, AObj.ren, AV.ren, AV.ren.renL, and_self, and_true, true_and, if_true, reduceIte]; rfl) ?_)) <;> try (simp -implicitDefEqProofs only [go_sem, headC_eq, hi, hLi, h4])) | (((with_reducible refine vc_b ?_ ?_) <;> intro _) <;> try (simp -implicitDefEqProofs only [go_sem, headC_eq, hi, hLi, h4])) | simp (disch := omega) only [wrapI, wrapU, shl1, shl1', shl1'', shrN, shrN', and_one] | ((with_reducible refine isEx3 ?_); refine ⟨(_, _, _), rfl, ?_, ?_⟩) | ((with_reducible refine isEx2 ?_); refine ⟨(_, _), rfl, ?_, ?_⟩)
      all_goals first | omega | (simp; done) | (simp; omega) | skip
      refine pw_loopS (α := Int × (List Int)) (l0 := ?l2) (m0 := ?m2) (fun x => [(35, .d (.int .i64 x.1))]) (fun x => [(32, .row T_int 1 false (ints x.2))]) (fun x => 0 ≤ x.1 ∧ x.1 ≤ now.length ∧ x.2.length = now.length ∧ (∀ j : Nat, (j : Int) < x.1 → x.2[j]?.getD 0 = (s.addC l i.toNat now)[j]?.getD 0) ∧ ∀ j : Nat, x.1 ≤ (j : Int) → x.2[j]?.getD 0 = now[j]?.getD 0) (fun x => (now.length - x.1).toNat) (?a2_0, now) ?h02 ?he2 ?he22 ?hI2 ?step2
      case h02 => (simp -implicitDefEqProofs only [go_sem, headC_eq]; rfl)
      case he2 => rfl
      case he22 => rfl
      case' step2 => (rintro ⟨p, cur⟩ hI2; try dsimp only at hI2)
      case' hI2 => try dsimp only
      · exact ⟨by omega, by omega, rfl, fun j hj => by omega, fun j hj => rfl⟩
      · obtain ⟨p1, p2, p3, p4, p5⟩ := hI2
        by_cases hp : p < now.length
        · have hpb := hbb p.toNat (by omega)
          have hco := s.cost01 l i p
          have ccp := cc p (by omega)
          rw [show (if s.agrees (l[i.toNat]?.getD default) i p = true then (0 : Int) else 1) = s.cost l i p from rfl] at ccp
          have e1 := p5 p.toNat (by omega)
          have hadd : (s.addC l i.toNat now)[p.toNat]?.getD 0 = now[p.toNat]?.getD 0 + s.cost l i p := by
            rw [addC_get _ _ _ _ (by omega), show ((i.toNat : Nat) : Int) = i by omega, show ((p.toNat : Nat) : Int) = p by omega]
          have hset1 : ∀ j : Nat, (j : Int) < p + 1 → (cur.set p.toNat (now[p.toNat]?.getD 0 + s.cost l i p))[j]?.getD 0 = (s.addC l i.toNat now)[j]?.getD 0 := fun j hj => by
            rw [List.getElem?_set]
            by_cases hji : p.toNat = j
            · subst hji; rw [if_pos rfl, if_pos (by omega), hadd, Option.getD_some]
            · rw [if_neg hji]; exact p4 j (by omega)
          have hset2 : ∀ j : Nat, p + 1 ≤ (j : Int) → (cur.set p.toNat (now[p.toNat]?.getD 0 + s.cost l i p))[j]?.getD 0 = now[j]?.getD 0 := fun j hj => by
            rw [List.getElem?_set, if_neg (by omega)]; exact p5 j (by omega)
          generalize s.cost l i p = C at *
          have w4 : IntKind.i64.wrap (now[p.toNat]?.getD 0 + C) = now[p.toNat]?.getD 0 + C := wrapI _ (by omega)
          (try (simp -implicitDefEqProofs only [go_sem, headC_eq, e1, w4, p3])); repeat' first | with_reducible exact True.intro | with_reducible refine And.intro ?_ ?_ | with_reducible intro _ | (((with_reducible refine isCall ?_); first | refine call_b (ccp) rfl ?_ ?_ | refine call_d (ccp) rfl ?_ | refine call_sb (ccp) rfl ?_ ?_ | refine call_s (ccp) rfl rfl ?_) <;> try (simp -implicitDefEqProofs only [go_sem, headC_eq, e1, w4, p3])) | (((with_reducible refine vc_b ?_ ?_) <;> intro _) <;> try (simp -implicitDefEqProofs only [go_sem, headC_eq, e1, w4, p3])) | simp (disch := omega) only [wrapI, wrapU, shl1, shl1', shl1'', shrN, shrN', and_one] | ((with_reducible refine isEx3 ?_); refine ⟨(_, _, _), rfl, ?_, ?_⟩) | ((with_reducible refine isEx2 ?_); refine ⟨(_, _), rfl, ?_, ?_⟩)
          all_goals first | omega | (apply hset1; assumption) | (apply hset2; assumption) | (simp; done) | (simp; omega) | skip
        · have hx : cur = s.addC l i.toNat now := ext0 (by rw [addC_len]; exact p3) fun j hj => p4 j (by omega)
          have c3 := servo_near_ret s h nl l cur (by omega) (by omega)
          rw [hx, ← hnx, ← hx] at c3
          rw [headC_eq] at c3
          (try (simp -implicitDefEqProofs only [go_sem, headC_eq, w2])); repeat' first | with_reducible exact True.intro | with_reducible refine And.intro ?_ ?_ | with_reducible intro _ | (((with_reducible refine isCall ?_); first | refine call_b (c3) rfl ?_ ?_ | refine call_d (c3) rfl ?_ | refine call_sb (c3) rfl ?_ ?_ | refine call_s (c3) rfl rfl ?_) <;> try (simp -implicitDefEqProofs only [go_sem, headC_eq, w2])) | (((with_reducible refine vc_b ?_ ?_) <;> intro _) <;> try (simp -implicitDefEqProofs only [go_sem, headC_eq, w2])) | simp (disch := omega) only [wrapI, wrapU, shl1, shl1', shl1'', shrN, shrN', and_one] | ((with_reducible refine isEx3 ?_); refine ⟨(_, _, _), rfl, ?_, ?_⟩) | ((with_reducible refine isEx2 ?_); refine ⟨(_, _), rfl, ?_, ?_⟩)
          all_goals first | omega | (apply hL5; assumption) | (apply hL6 <;> assumption) | (rw [List.length_set]; exact h4) | (simp; done) | skip
    · have hi' : i = -1 := by omega
      have hfin : rwsD (s.backL l) = L := by
        refine List.ext_getElem? fun j => ?_
        by_cases hj : j < l.length
        · rw [h6 j (by omega) hj]; simp [rwsD, GServo.backL, hj]
        · rw [List.getElem?_eq_none (by simp [rwsD, GServo.backL]; omega), List.getElem?_eq_none (by omega)]
      rw [hfin]
      (try (simp -implicitDefEqProofs only [go_sem, headC_eq, hi])); repeat' first | with_reducible exact True.intro | with_reducible refine And.intro ?_ ?_ | with_reducible intro _ | (((with_reducible refine vc_b ?_ ?_) <;> intro _) <;> try (simp -implicitDefEqProofs only [go_sem, headC_eq, hi])) | simp (disch := omega) only [wrapI, wrapU, shl1, shl1', shl1'', shrN, shrN', and_one] | ((with_reducible refine isEx3 ?_); refine ⟨(_, _, _), rfl, ?_, ?_⟩) | ((with_reducible refine isEx2 ?_); refine ⟨(_, _), rfl, ?_, ?_⟩)
      all_goals first | omega | (simp; done) | (simp; omega) | skip
end Go.Pw
