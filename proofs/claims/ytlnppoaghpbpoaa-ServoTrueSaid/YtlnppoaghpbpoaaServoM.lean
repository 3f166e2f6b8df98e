/- A part of the proof. -/
import Derived.Test.YtlnppoaghpbpoaaServoL
set_option linter.all false
open Go Go.Pw Go.Proofs
namespace Go.Pw
set_option linter.unusedSimpArgs false
set_option linter.unusedVariables false
set_option maxRecDepth 100000
set_option maxHeartbeats 1600000
attribute [local congr] cg_pw cg_seqI cg_seqE cg_stepI cg_ev cg_evBin cg_condB cg_condV cg_thenQ cg_blockQ cg_onSome cg_onCells cg_onRow cg_onMap cg_onOpt cg_ghosts cg_ghost cg_evCall cg_part cg_rng cg_guardV cg_frzV cg_frpV cg_ownV cg_owcV cg_occV cg_occX cg_resK cg_res1
attribute [local irreducible] IntKind.wrap bitsOp Option.getD and or

theorem spansOf_pos (is : Nat → Bool) : ∀ k j, j < k → is j = true → 0 < (spansOf is k).length
  | 0, j, h, _ => by omega
  | k + 1, j, h, hj => by
    simp only [spansOf]
    by_cases hjk : j = k
    · subst hjk
      rw [if_pos hj]; unfold addPos; split <;> simp
      omega
    · have ih := spansOf_pos is k j (by omega) hj
      split
      · unfold addPos; split <;> simp
        omega
      · exact ih
theorem laterOf_pos (M last : Int) (E : List Pair) (h : 0 < E.length) : 0 < (laterOf M last E).length := by
  have hm : ∀ (E : List Pair) (out : List Pair), 0 < out.length → 0 < (E.foldl (fun out q => mergeS out (widen M last q)) out).length := by
    intro E
    induction E with
    | nil => intro out h; exact h
    | cons q E ih =>
      intro out h
      simp only [List.foldl_cons]
      refine ih _ ?_
      unfold mergeS; split <;> simp; omega
  cases E with
  | nil => simp at h
  | cons q E =>
    simp only [laterOf, List.foldl_cons]
    refine hm _ _ ?_
    unfold mergeS; rw [if_neg (by simp)]; simp
theorem ends_pos {s : GServo} (h : s.ok = true) {l : List Pair} (hm : ¬ s.wrong < minL (s.endL l)) : 0 < (s.endsL l).length := by
  have hz := endL_len h l
  have hb := last_bound h
  have hw := (minL_spec (l := s.endL l) (by omega)).1
  obtain ⟨j, hj, he⟩ := List.getElem_of_mem hw
  refine spansOf_pos _ _ j hj ?_
  rw [List.getElem?_eq_getElem hj, Option.getD_some, he]
  simp; omega

def firstK (p : Nat → Bool) : Nat → Nat → Nat
  | 0, k => k
  | n + 1, k => if p k then k else firstK p n (k + 1)
def GServo.stop (s : GServo) (l : List Pair) (track limit : Int) (k : Nat) : Bool :=
  decide (((s.laterL l k)[0]?.getD default).1 < s.center track ((l.length : Int) - 1 + k) - limit) || decide (s.center track ((l.length : Int) - 1 + k) + limit < (lastP (s.laterL l k)).2)
def GServo.told2 (s : GServo) (track limit : Int) : Bool := inR track 0 (s.tracks - 1) && inR limit 0 16
def GServo.gate (s : GServo) (l : List Pair) (track limit : Int) : Int × Int :=
  if s.known l (s.told2 track limit) = 0 then (firstK (s.stop l track limit) 24 0, 0) else (0, s.known l (s.told2 track limit))
theorem known_bad (s : GServo) (l : List Pair) (h : s.ok = false) (b : Bool) : s.known l b = 20 ∧ s.check l = 20 := by
  have : s.check l = 20 := by simp [GServo.check, h]
  refine ⟨?_, this⟩
  unfold GServo.known; rw [this]; simp

theorem servo_Gate_ret (s : GServo) (nl : Bool) (l : List Pair) (track limit : Int) :
    Ret E0 F_servo_Gate [servoD s, .list nl (pairsD l), .int .i64 track, .int .i64 limit] (.tup [.int .i64 (s.gate l track limit).1, .int .i64 (s.gate l track limit).2]) := by
  refine ret_of_pw dec_servo_Gate mixed (by simp) fun hwf => ?_
  rw [enter_eq]; unfold pc_servo_Gate
  cases hok : s.ok with
  | false =>
    obtain ⟨hk, _⟩ := known_bad s l hok (s.told2 track limit)
    have hg : s.gate l track limit = (0, 20) := by simp [GServo.gate, hk]
    rw [hg]
    have c1 := fun b => servo_known_bad s nl l b (by rw [(known_bad s l hok b).1]; omega)
    have c2 : ∀ b, Ret E0 F_servo_known [servoD s, .list nl (pairsD l), .bool b] (.tup [.nilptr, .int .i64 20]) := fun b => by
      have := c1 b; rwa [(known_bad s l hok b).1] at this
    rw [servoD_eq, servoC_eq] at c2
    (try (simp -implicitDefEqProofs only [go_sem, servoD_eq, servoC_eq])); repeat' first | with_reducible exact True.intro | with_reducible refine And.intro ?_ ?_ | with_reducible intro _ | (((with_reducible refine isCall ?_); first | refine call_b (servo_within_ret _ _ _) rfl ?_ ?_ | refine call_d (servo_within_ret _ _ _) rfl ?_ | refine call_sb (servo_within_ret _ _ _) rfl ?_ ?_ | refine call_s (servo_within_ret _ _ _) rfl rfl ?_ | refine call_b (c2 _) rfl ?_ ?_ | refine call_d (c2 _) rfl ?_ | refine call_sb (c2 _) rfl ?_ ?_ | refine call_s (c2 _) rfl rfl ?_) <;> try (simp -implicitDefEqProofs only [go_sem, servoD_eq, servoC_eq])) | (((with_reducible refine vc_b ?_ ?_) <;> intro _) <;> try (simp -implicitDefEqProofs only [go_sem, servoD_eq, servoC_eq])) | simp (disch := omega) only [wrapI, wrapU, shl1, shl1', shl1'', shrN, shrN', and_one] | ((with_reducible refine isEx ?_); refine ⟨_, rfl, ?_, ?_⟩)
    all_goals first | omega | (simp; done) | (simp; omega) | skip
  | true =>
    have hd := GServo.ok_head hok
    have w1 : IntKind.i64.wrap (s.tracks - 1) = s.tracks - 1 := wrapI _ (by omega)
    have cw1 := servo_within_ret track 0 (s.tracks - 1)
    have cw2 := servo_within_ret limit 0 16
    by_cases hk : s.known l (s.told2 track limit) = 0
    · obtain ⟨hc, ht, hm⟩ := known_zero hk
      obtain ⟨_, ha, h24⟩ := check_zero hc
      have hg : s.gate l track limit = (((firstK (s.stop l track limit) 24 0 : Nat) : Int), 0) := by simp [GServo.gate, hk]
      rw [hg]
      have c1 := servo_known_ok s nl l _ hk
      rw [ht] at c1
      simp only [GServo.told2, Bool.and_eq_true] at ht
      rw [ht.1] at cw1
      rw [ht.2] at cw2
      have htr : 0 ≤ track ∧ track ≤ s.tracks - 1 := by simpa [inR] using ht.1
      have hli : 0 ≤ limit ∧ limit ≤ 16 := by simpa [inR] using ht.2
      obtain ⟨G, hG⟩ : ∃ G : Nat, firstK (s.stop l track limit) 24 0 = G := ⟨_, rfl⟩
      rw [hG]
      rw [servoD_eq, servoC_eq] at c1
      rw [headC_eq] at c1
      (try (simp -implicitDefEqProofs only [go_sem, servoD_eq, servoC_eq, w1])); repeat' first | with_reducible exact True.intro | with_reducible refine And.intro ?_ ?_ | with_reducible intro _ | (((with_reducible refine isCall ?_); first | refine call_b (cw1) rfl ?_ ?_ | refine call_d (cw1) rfl ?_ | refine call_sb (cw1) rfl ?_ ?_ | refine call_s (cw1) rfl rfl ?_ | refine call_b (cw2) rfl ?_ ?_ | refine call_d (cw2) rfl ?_ | refine call_sb (cw2) rfl ?_ ?_ | refine call_s (cw2) rfl rfl ?_ | refine call_b (c1) rfl ?_ ?_ | refine call_d (c1) rfl ?_ | refine call_sb (c1) rfl ?_ ?_ | refine call_s (c1) rfl rfl ?_) <;> try (simp -implicitDefEqProofs only [go_sem, servoD_eq, servoC_eq, w1])) | (((with_reducible refine vc_b ?_ ?_) <;> intro _) <;> try (simp -implicitDefEqProofs only [go_sem, servoD_eq, servoC_eq, w1])) | simp (disch := omega) only [wrapI, wrapU, shl1, shl1', shl1'', shrN, shrN', and_one] | ((with_reducible refine isEx ?_); refine ⟨_, rfl, ?_, ?_⟩)
      all_goals first | omega | (simp; done) | (simp; omega) | skip
      refine pw_loopS (α := Int) (l0 := ?l1) (m0 := ?m1) (fun x => [(33, .d (.int .i64 x))]) (fun x => []) (fun x => 0 ≤ x ∧ x ≤ 24 ∧ firstK (s.stop l track limit) (24 - x.toNat) x.toNat = G) (fun x => (24 - x).toNat) ?a1_0 ?h01 ?he1 ?he21 ?hI1 ?step1
      case h01 => (simp -implicitDefEqProofs only [go_sem, servoD_eq, servoC_eq]; rfl)
      case he1 => rfl
      case he21 => rfl
      case' step1 => (rintro k hI; try dsimp only at hI)
      case' hI1 => try dsimp only
      · exact ⟨by omega, by omega, hG⟩
      · obtain ⟨h1, h2, h3⟩ := hI
        by_cases hkk : k < 24
        · have hnx : firstK (s.stop l track limit) (24 - k.toNat) k.toNat = if s.stop l track limit k.toNat then k.toNat else firstK (s.stop l track limit) (24 - (k + 1).toNat) (k + 1).toNat := by
            rw [show 24 - k.toNat = (24 - (k + 1).toNat) + 1 by omega, firstK, show k.toNat + 1 = (k + 1).toNat by omega]
          rw [hnx] at h3
          have hst : s.stop l track limit k.toNat = (decide (((s.laterL l k)[0]?.getD default).1 < s.center track ((l.length : Int) - 1 + k) - limit) || decide (s.center track ((l.length : Int) - 1 + k) + limit < (lastP (s.laterL l k)).2)) := by
            unfold GServo.stop; rw [show ((k.toNat : Nat) : Int) = k by omega]
          have w2 : IntKind.i64.wrap ((l.length : Int) - 1) = (l.length : Int) - 1 := wrapI _ (by omega)
          have w3 : IntKind.i64.wrap ((l.length : Int) - 1 + k) = (l.length : Int) - 1 + k := wrapI _ (by omega)
          have c2 := servo_lies_ret s hok nl l track (max 0 ((l.length : Int) - 1 + k)) (by omega) (by omega)
          have hce : s.center track (max 0 ((l.length : Int) - 1 + k)) = s.center track ((l.length : Int) - 1 + k) := by
            unfold GServo.center; rw [show max 0 (max 0 ((l.length : Int) - 1 + k)) = max 0 ((l.length : Int) - 1 + k) by omega]
          rw [hce] at c2
          have hcb := center_bound hok (t := track) (by omega) ((l.length : Int) - 1 + k)
          have c3 := servo_later_ret s hok nl l ha h24 k (by omega)
          have hpos : 0 < (s.laterL l k).length := laterOf_pos _ _ _ (ends_pos hok hm)
          have hlen : (s.laterL l k).length ≤ 1009 := by
            have := laterOf_len (k * s.move) s.last (s.endsL l) (s.endsL l).length (by omega)
            rw [List.take_of_length_le (by omega)] at this
            have h4 := spansOf_len (fun p => decide ((s.endL l)[p]?.getD 0 ≤ s.wrong)) (s.endL l).length
            have := endL_len hok l
            have := last_bound hok
            change (s.endsL l).length ≤ _ at h4
            change (laterOf (k * s.move) s.last (s.endsL l)).length ≤ _
            omega
          rw [headC_eq] at c2 c3
          generalize s.laterL l k = L at *
          generalize s.center track ((l.length : Int) - 1 + k) = C at *
          have w4 : IntKind.i64.wrap (C - limit) = C - limit := wrapI _ (by omega)
          have w5 : IntKind.i64.wrap (C + limit) = C + limit := wrapI _ (by omega)
          have w6 : IntKind.i64.wrap ((L.length : Int) - 1) = (L.length : Int) - 1 := wrapI _ (by omega)
          have hk' : ((L.length : Int) - 1).toNat = L.length - 1 := by omega
          have hlp : L[L.length - 1]?.getD default = lastP L := rfl
          by_cases hA : (L[0]?.getD default).1 < C - limit
          · have : s.stop l track limit k.toNat = true := by rw [hst]; simp [hA]
            rw [this] at h3
            (try (simp -implicitDefEqProofs only [go_sem, pairsD_len, onSome_pairs, pairsD_unif, pairD_eq, w2, w3, w4, w5, w6, hk', hlp, hA])); repeat' first | with_reducible exact True.intro | with_reducible refine And.intro ?_ ?_ | with_reducible intro _ | (((with_reducible refine isCall ?_); first | refine call_b (c2) rfl ?_ ?_ | refine call_d (c2) rfl ?_ | refine call_sb (c2) rfl ?_ ?_ | refine call_s (c2) rfl rfl ?_ | refine call_b (c3) rfl ?_ ?_ | refine call_d (c3) rfl ?_ | refine call_sb (c3) rfl ?_ ?_ | refine call_s (c3) rfl rfl ?_) <;> try (simp -implicitDefEqProofs only [go_sem, pairsD_len, onSome_pairs, pairsD_unif, pairD_eq, w2, w3, w4, w5, w6, hk', hlp, hA])) | (((with_reducible refine vc_b ?_ ?_) <;> intro _) <;> try (simp -implicitDefEqProofs only [go_sem, pairsD_len, onSome_pairs, pairsD_unif, pairD_eq, w2, w3, w4, w5, w6, hk', hlp, hA])) | simp (disch := omega) only [wrapI, wrapU, shl1, shl1', shl1'', shrN, shrN', and_one] | ((with_reducible refine isEx ?_); refine ⟨_, rfl, ?_, ?_⟩)
            all_goals first | omega | (simp; done) | (simp; omega) | skip
            all_goals (rw [← h3, if_pos rfl, show ((k.toNat : Nat) : Int) = k by omega])
          · by_cases hB : C + limit < (lastP L).2
            · have : s.stop l track limit k.toNat = true := by rw [hst]; simp [hB]
              rw [this] at h3
              (try (simp -implicitDefEqProofs only [go_sem, pairsD_len, onSome_pairs, pairsD_unif, pairD_eq, w2, w3, w4, w5, w6, hk', hlp, hA, hB])); repeat' first | with_reducible exact True.intro | with_reducible refine And.intro ?_ ?_ | with_reducible intro _ | (((with_reducible refine isCall ?_); first | refine call_b (c2) rfl ?_ ?_ | refine call_d (c2) rfl ?_ | refine call_sb (c2) rfl ?_ ?_ | refine call_s (c2) rfl rfl ?_ | refine call_b (c3) rfl ?_ ?_ | refine call_d (c3) rfl ?_ | refine call_sb (c3) rfl ?_ ?_ | refine call_s (c3) rfl rfl ?_) <;> try (simp -implicitDefEqProofs only [go_sem, pairsD_len, onSome_pairs, pairsD_unif, pairD_eq, w2, w3, w4, w5, w6, hk', hlp, hA, hB])) | (((with_reducible refine vc_b ?_ ?_) <;> intro _) <;> try (simp -implicitDefEqProofs only [go_sem, pairsD_len, onSome_pairs, pairsD_unif, pairD_eq, w2, w3, w4, w5, w6, hk', hlp, hA, hB])) | simp (disch := omega) only [wrapI, wrapU, shl1, shl1', shl1'', shrN, shrN', and_one] | ((with_reducible refine isEx ?_); refine ⟨_, rfl, ?_, ?_⟩)
              all_goals first | omega | (simp; done) | (simp; omega) | skip
              all_goals (rw [← h3, if_pos rfl, show ((k.toNat : Nat) : Int) = k by omega])
            · have : s.stop l track limit k.toNat = false := by rw [hst]; simp [hA, hB]
              rw [this, if_neg (by simp)] at h3
              (try (simp -implicitDefEqProofs only [go_sem, pairsD_len, onSome_pairs, pairsD_unif, pairD_eq, w2, w3, w4, w5, w6, hk', hlp, hA, hB])); repeat' first | with_reducible exact True.intro | with_reducible refine And.intro ?_ ?_ | with_reducible intro _ | (((with_reducible refine isCall ?_); first | refine call_b (c2) rfl ?_ ?_ | refine call_d (c2) rfl ?_ | refine call_sb (c2) rfl ?_ ?_ | refine call_s (c2) rfl rfl ?_ | refine call_b (c3) rfl ?_ ?_ | refine call_d (c3) rfl ?_ | refine call_sb (c3) rfl ?_ ?_ | refine call_s (c3) rfl rfl ?_) <;> try (simp -implicitDefEqProofs only [go_sem, pairsD_len, onSome_pairs, pairsD_unif, pairD_eq, w2, w3, w4, w5, w6, hk', hlp, hA, hB])) | (((with_reducible refine vc_b ?_ ?_) <;> intro _) <;> try (simp -implicitDefEqProofs only [go_sem, pairsD_len, onSome_pairs, pairsD_unif, pairD_eq, w2, w3, w4, w5, w6, hk', hlp, hA, hB])) | simp (disch := omega) only [wrapI, wrapU, shl1, shl1', shl1'', shrN, shrN', and_one] | ((with_reducible refine isEx ?_); refine ⟨_, rfl, ?_, ?_⟩)
              all_goals first | omega | (simp; done) | (simp; omega) | skip
        · have : k = 24 := by omega
          subst this
          have : G = 24 := h3.symm
          subst this
          (try (simp -implicitDefEqProofs only [go_sem])); repeat' first | with_reducible exact True.intro | with_reducible refine And.intro ?_ ?_ | with_reducible intro _ | (((with_reducible refine vc_b ?_ ?_) <;> intro _) <;> try (simp -implicitDefEqProofs only [go_sem])) | simp (disch := omega) only [wrapI, wrapU, shl1, shl1', shl1'', shrN, shrN', and_one] | ((with_reducible refine isEx ?_); refine ⟨_, rfl, ?_, ?_⟩)
          all_goals first | omega | (simp; done) | (simp; omega) | skip
    · have hg : s.gate l track limit = (0, s.known l (s.told2 track limit)) := by simp [GServo.gate, hk]
      rw [hg]
      have c1 := servo_known_bad s nl l _ hk
      rw [servoD_eq, servoC_eq] at c1
      simp only [GServo.told2] at c1 hk ⊢
      cases b1 : inR track 0 (s.tracks - 1) with
      | false =>
        rw [b1] at cw1 c1 hk
        simp only [Bool.false_and] at c1 hk
        (try (simp -implicitDefEqProofs only [go_sem, servoD_eq, servoC_eq, w1, hk])); repeat' first | with_reducible exact True.intro | with_reducible refine And.intro ?_ ?_ | with_reducible intro _ | (((with_reducible refine isCall ?_); first | refine call_b (cw1) rfl ?_ ?_ | refine call_d (cw1) rfl ?_ | refine call_sb (cw1) rfl ?_ ?_ | refine call_s (cw1) rfl rfl ?_ | refine call_b (cw2) rfl ?_ ?_ | refine call_d (cw2) rfl ?_ | refine call_sb (cw2) rfl ?_ ?_ | refine call_s (cw2) rfl rfl ?_ | refine call_b (c1) rfl ?_ ?_ | refine call_d (c1) rfl ?_ | refine call_sb (c1) rfl ?_ ?_ | refine call_s (c1) rfl rfl ?_) <;> try (simp -implicitDefEqProofs only [go_sem, servoD_eq, servoC_eq, w1, hk])) | (((with_reducible refine vc_b ?_ ?_) <;> intro _) <;> try (simp -implicitDefEqProofs only [go_sem, servoD_eq, servoC_eq, w1, hk])) | simp (disch := omega) only [wrapI, wrapU, shl1, shl1', shl1'', shrN, shrN', and_one] | ((with_reducible refine isEx ?_); refine ⟨_, rfl, ?_, ?_⟩)
        all_goals first | omega | (simp; done) | (simp; omega) | skip
      | true =>
        rw [b1] at cw1 c1 hk
        simp only [Bool.true_and] at c1 hk
        generalize inR limit 0 16 = b2 at *
        cases b2 <;> ((try (simp -implicitDefEqProofs only [go_sem, servoD_eq, servoC_eq, w1, hk])); repeat' first | with_reducible exact True.intro | with_reducible refine And.intro ?_ ?_ | with_reducible intro _ | (((with_reducible refine isCall ?_); first | refine call_b (cw1) rfl ?_ ?_ | refine call_d (cw1) rfl ?_ | refine call_sb (cw1) rfl ?_ ?_ | refine call_s (cw1) rfl rfl ?_ | refine call_b (cw2) rfl ?_ ?_ | refine call_d (cw2) rfl ?_ | refine call_sb (cw2) rfl ?_ ?_ | refine call_s (cw2) rfl rfl ?_ | refine call_b (c1) rfl ?_ ?_ | refine call_d (c1) rfl ?_ | refine call_sb (c1) rfl ?_ ?_ | refine call_s (c1) rfl rfl ?_) <;> try (simp -implicitDefEqProofs only [go_sem, servoD_eq, servoC_eq, w1, hk])) | (((with_reducible refine vc_b ?_ ?_) <;> intro _) <;> try (simp -implicitDefEqProofs only [go_sem, servoD_eq, servoC_eq, w1, hk])) | simp (disch := omega) only [wrapI, wrapU, shl1, shl1', shl1'', shrN, shrN', and_one] | ((with_reducible refine isEx ?_); refine ⟨_, rfl, ?_, ?_⟩))
        all_goals first | omega | (simp; done) | (simp; omega) | skip
end Go.Pw
