/- A part of the proof. -/
import Derived.Test.YtlnppoaghpbpoaaServoAg
set_option linter.all false
open Go Go.Pw Go.Proofs
namespace Go.Pw
set_option linter.unusedSimpArgs false
set_option linter.unusedVariables false
set_option maxRecDepth 100000
set_option maxHeartbeats 1600000
attribute [local congr] cg_pw cg_seqI cg_seqE cg_stepI cg_ev cg_evBin cg_condB cg_condV cg_thenQ cg_blockQ cg_onSome cg_onCells cg_onRow cg_onMap cg_onOpt cg_ghosts cg_ghost cg_evCall cg_part cg_rng cg_guardV cg_frzV cg_frpV cg_ownV cg_owcV cg_occV cg_occX cg_resK cg_res1
attribute [local irreducible] IntKind.wrap bitsOp Option.getD and or

def SomeLow (FR : List Int) (n : Nat) (w : Int) : Prop := ∃ q : Nat, q < n ∧ FR[q]?.getD 0 ≤ w
theorem ref02_Copy_ret (s : GServo) (h40 : s.runout.length ≤ 40) : Ret E0 F_ref02_Copy [servoD s] (servoD { s with nr := false }) := by
  refine ret_of_pw dec_ref02_Copy mixed (by simp) fun hwf => ?_
  rw [enter_eq]; unfold pc_ref02_Copy
  by_cases h0 : s.runout = []
  · (try (simp -implicitDefEqProofs only [go_sem, servoD_eq, servoC_eq, h0])); repeat' first | with_reducible exact True.intro | with_reducible refine And.intro ?_ ?_ | with_reducible intro _ | (((with_reducible refine vc_b ?_ ?_) <;> intro _) <;> try (simp -implicitDefEqProofs only [go_sem, servoD_eq, servoC_eq, h0])) | simp (disch := omega) only [wrapI, wrapU, shl1, shl1', shl1'', shrN, shrN', and_one] 
    all_goals first | omega | (simp [h0]; done) | skip
  · have hne : ¬ (ints s.runout = []) := fun hp => h0 (by cases hh : s.runout with | nil => rfl | cons _ _ => rw [hh] at hp; cases hp)
    (try (simp -implicitDefEqProofs only [go_sem, servoD_eq, servoC_eq, h0, hne])); repeat' first | with_reducible exact True.intro | with_reducible refine And.intro ?_ ?_ | with_reducible intro _ | (((with_reducible refine vc_b ?_ ?_) <;> intro _) <;> try (simp -implicitDefEqProofs only [go_sem, servoD_eq, servoC_eq, h0, hne])) | simp (disch := omega) only [wrapI, wrapU, shl1, shl1', shl1'', shrN, shrN', and_one] 
    all_goals first | omega | (simp; done) | skip

theorem ref02_Gate_ret (s : GServo) (nl : Bool) (l : List Pair) (track limit : Int) :
    Ret E0 F_ref02_Gate [servoD s, .list nl (pairsD l), .int .i64 track, .int .i64 limit] (.tup [.int .i64 (s.gate l track limit).1, .int .i64 (s.gate l track limit).2]) := by
  refine ret_of_pw dec_ref02_Gate mixed (by simp) fun hwf => ?_
  rw [enter_eq]; unfold pc_ref02_Gate
  cases hok : s.ok with
  | false =>
    obtain ⟨hk, _⟩ := known_bad s l hok (s.told2 track limit)
    have hg : s.gate l track limit = (0, 20) := by simp [GServo.gate, hk]
    rw [hg]
    have c1 := fun b => ref02_known_bad s nl l b (by rw [(known_bad s l hok b).1]; omega)
    have c2 : ∀ b, Ret E0 F_ref02_known [servoD s, .list nl (pairsD l), .bool b] (.tup [.list true [], .int .i64 20]) := fun b => by
      have := c1 b; rwa [(known_bad s l hok b).1] at this
    rw [servoD_eq, servoC_eq] at c2
    (try (simp -implicitDefEqProofs only [go_sem, servoD_eq, servoC_eq])); repeat' first | with_reducible exact True.intro | with_reducible refine And.intro ?_ ?_ | with_reducible intro _ | (((with_reducible refine isCall ?_); first | refine call_b (ref02_within_ret _ _ _) rfl ?_ ?_ | refine call_d (ref02_within_ret _ _ _) rfl ?_ | refine call_sb (ref02_within_ret _ _ _) rfl ?_ ?_ | refine call_s (ref02_within_ret _ _ _) rfl rfl ?_ | refine call_b (c2 _) rfl ?_ ?_ | refine call_d (c2 _) rfl ?_ | refine call_sb (c2 _) rfl ?_ ?_ | refine call_s (c2 _) rfl rfl ?_) <;> try (simp -implicitDefEqProofs only [go_sem, servoD_eq, servoC_eq])) | (((with_reducible refine vc_b ?_ ?_) <;> intro _) <;> try (simp -implicitDefEqProofs only [go_sem, servoD_eq, servoC_eq])) | simp (disch := omega) only [wrapI, wrapU, shl1, shl1', shl1'', shrN, shrN', and_one] | ((with_reducible refine isEx2 ?_); refine ⟨(_, _), rfl, ?_, ?_⟩) | ((with_reducible refine isEx ?_); refine ⟨_, rfl, ?_, ?_⟩)
    all_goals first | omega | (simp; done) | (simp; omega) | skip
  | true =>
    have hd := GServo.ok_head hok
    have hlb := last_bound hok
    have w1 : IntKind.i64.wrap (s.tracks - 1) = s.tracks - 1 := wrapI _ (by omega)
    have cw1 := ref02_within_ret track 0 (s.tracks - 1)
    have cw2 := ref02_within_ret limit 0 16
    by_cases hk : s.known l (s.told2 track limit) = 0
    · obtain ⟨hc, ht, hm⟩ := known_zero hk
      obtain ⟨_, ha, h24⟩ := check_zero hc
      have hz := endL_len hok l
      have hg : s.gate l track limit = (((firstK (s.stop l track limit) 24 0 : Nat) : Int), 0) := by simp [GServo.gate, hk]
      rw [hg]
      have c1 := ref02_known_ok s nl l _ hk
      rw [ht] at c1
      simp only [GServo.told2, Bool.and_eq_true] at ht
      rw [ht.1] at cw1
      rw [ht.2] at cw2
      have htr : 0 ≤ track ∧ track ≤ s.tracks - 1 := by simpa [inR] using ht.1
      have hli : 0 ≤ limit ∧ limit ≤ 16 := by simpa [inR] using ht.2
      obtain ⟨G, hG⟩ : ∃ G : Nat, firstK (s.stop l track limit) 24 0 = G := ⟨_, rfl⟩
      rw [hG]
      have hbl : (s.endsB l).length = (s.endL l).length := by simp [GServo.endsB]
      have hnl := laterN_len s.move (s.endsB l)
      have hsi := stop_iff hok hm track limit
      rw [servoD_eq, servoC_eq] at c1
      generalize s.endsB l = EB at *
      (try (simp -implicitDefEqProofs only [go_sem, servoD_eq, servoC_eq, w1])); repeat' first | with_reducible exact True.intro | with_reducible refine And.intro ?_ ?_ | with_reducible intro _ | (((with_reducible refine isCall ?_); first | refine call_b (cw1) rfl ?_ ?_ | refine call_d (cw1) rfl ?_ | refine call_sb (cw1) rfl ?_ ?_ | refine call_s (cw1) rfl rfl ?_ | refine call_b (cw2) rfl ?_ ?_ | refine call_d (cw2) rfl ?_ | refine call_sb (cw2) rfl ?_ ?_ | refine call_s (cw2) rfl rfl ?_ | refine call_b (c1) rfl ?_ ?_ | refine call_d (c1) rfl ?_ | refine call_sb (c1) rfl ?_ ?_ | refine call_s (c1) rfl rfl ?_) <;> try (simp -implicitDefEqProofs only [go_sem, servoD_eq, servoC_eq, w1])) | (((with_reducible refine vc_b ?_ ?_) <;> intro _) <;> try (simp -implicitDefEqProofs only [go_sem, servoD_eq, servoC_eq, w1])) | simp (disch := omega) only [wrapI, wrapU, shl1, shl1', shl1'', shrN, shrN', and_one] | ((with_reducible refine isEx2 ?_); refine ⟨(_, _), rfl, ?_, ?_⟩) | ((with_reducible refine isEx ?_); refine ⟨_, rfl, ?_, ?_⟩)
      all_goals first | omega | (simp; done) | (simp; omega) | skip
      refine pw_loopS (α := Int × (List Bool)) (l0 := ?l1) (m0 := ?m1) (fun x => [(12, .d (.int .i64 x.1)), (10, .d (.list false (bls x.2)))]) (fun x => []) (fun x => 0 ≤ x.1 ∧ x.1 ≤ 24 ∧ firstK (s.stop l track limit) (24 - x.1.toNat) x.1.toNat = G ∧ x.2 = laterN s.move EB x.1.toNat) (fun x => (24 - x.1).toNat) (?a1_0, EB) ?h01 ?he1 ?he21 ?hI1 ?step1
      case h01 => (simp -implicitDefEqProofs only [go_sem, servoD_eq, servoC_eq, w1]; rfl)
      case he1 => rfl
      case he21 => rfl
      case' step1 => (rintro ⟨k, B⟩ hI; try dsimp only at hI)
      case' hI1 => try dsimp only
      · exact ⟨by omega, by omega, hG, rfl⟩
      · obtain ⟨h1, h2, h3, h4⟩ := hI
        have hBl := hnl k.toNat
        rw [← h4] at hBl
        by_cases hkk : k < 24
        · have hnx : firstK (s.stop l track limit) (24 - k.toNat) k.toNat = if s.stop l track limit k.toNat then k.toNat else firstK (s.stop l track limit) (24 - (k + 1).toNat) (k + 1).toNat := by
            rw [show 24 - k.toNat = (24 - (k + 1).toNat) + 1 by omega, firstK, show k.toNat + 1 = (k + 1).toNat by omega]
          rw [hnx] at h3
          have hsk := hsi k.toNat
          rw [← h4, show ((k.toNat : Nat) : Int) = k by omega] at hsk
          have w2 : IntKind.i64.wrap ((l.length : Int) - 1) = (l.length : Int) - 1 := wrapI _ (by omega)
          have w3 : IntKind.i64.wrap ((l.length : Int) - 1 + k) = (l.length : Int) - 1 + k := wrapI _ (by omega)
          have c2 := ref02_Center_ret s hok track ((l.length : Int) - 1 + k) (by omega) (by omega)
          rw [servoD_eq, servoC_eq] at c2
          have hcb := center_bound hok (t := track) (by omega) ((l.length : Int) - 1 + k)
          have cl := ref02_later_ret s hok B (by omega) (by omega)
          rw [servoD_eq, servoC_eq] at cl
          have hB1 : laterB s.move B = laterN s.move EB (k + 1).toNat := by rw [show (k + 1).toNat = k.toNat + 1 by omega, laterN, ← h4]
          generalize s.center track ((l.length : Int) - 1 + k) = C at *
          (try (simp -implicitDefEqProofs only [go_sem, servoD_eq, servoC_eq, w1])); repeat' first | with_reducible exact True.intro | with_reducible refine And.intro ?_ ?_ | with_reducible intro _ | (((with_reducible refine vc_b ?_ ?_) <;> intro _) <;> try (simp -implicitDefEqProofs only [go_sem, servoD_eq, servoC_eq, w1])) | simp (disch := omega) only [wrapI, wrapU, shl1, shl1', shl1'', shrN, shrN', and_one] | ((with_reducible refine isEx2 ?_); refine ⟨(_, _), rfl, ?_, ?_⟩) | ((with_reducible refine isEx ?_); refine ⟨_, rfl, ?_, ?_⟩)
          all_goals first | omega | (simp; done) | (simp; omega) | skip
          refine pw_loopS (α := Int) (l0 := ?l2) (m0 := ?m2) (fun x => [(13, .d (.int .i64 x))]) (fun x => []) (fun x => 0 ≤ x ∧ x ≤ B.length ∧ ∀ q : Nat, (q : Int) < x → ¬ (B[q]?.getD false = true ∧ limit < max ((q : Int) - C) (-((q : Int) - C)))) (fun x => (B.length - x).toNat) ?a2_0 ?h02 ?he2 ?he22 ?hI2 ?step2
          case h02 => (simp -implicitDefEqProofs only [go_sem, servoD_eq, servoC_eq, w1]; rfl)
          case he2 => rfl
          case he22 => rfl
          case' step2 => (rintro p hI2; try dsimp only at hI2)
          case' hI2 => try dsimp only
          · exact ⟨by omega, by omega, fun q hq => by omega⟩
          · obtain ⟨p1, p2, p3⟩ := hI2
            by_cases hp : p < B.length
            · have w4 : IntKind.i64.wrap (p - C) = p - C := wrapI _ (by omega)
              have cab := ref02_abs_ret (p - C) (by omega)
              have hs3 : ¬ (B[p.toNat]?.getD false = true ∧ limit < max (p - C) (-(p - C))) → ∀ q : Nat, (q : Int) < p + 1 → ¬ (B[q]?.getD false = true ∧ limit < max ((q : Int) - C) (-((q : Int) - C))) := fun hgo q hq => by
                rcases (show (q : Int) < p ∨ q = p.toNat by omega) with h | h
                · exact p3 q h
                · rw [h, show ((p.toNat : Nat) : Int) = p by omega]; exact hgo
              cases hb : B[p.toNat]?.getD false with
              | false =>
                have hs4 := hs3 (by rw [hb]; simp)
                clear hs3 p3 hsk
                (try (simp -implicitDefEqProofs only [go_sem, servoD_eq, servoC_eq, bls_len, onSome_bls, bls_unif, hb])); repeat' first | with_reducible exact True.intro | with_reducible refine And.intro ?_ ?_ | with_reducible intro _ | (((with_reducible refine vc_b ?_ ?_) <;> intro _) <;> try (simp -implicitDefEqProofs only [go_sem, servoD_eq, servoC_eq, bls_len, onSome_bls, bls_unif, hb])) | simp (disch := omega) only [wrapI, wrapU, shl1, shl1', shl1'', shrN, shrN', and_one] | ((with_reducible refine isEx2 ?_); refine ⟨(_, _), rfl, ?_, ?_⟩) | ((with_reducible refine isEx ?_); refine ⟨_, rfl, ?_, ?_⟩)
                all_goals first | omega | (apply hs4; assumption) | (intro hx; exact absurd hx (hs4 _ (by assumption))) | skip
              | true =>
                by_cases hv : limit < max (p - C) (-(p - C))
                · have hst : s.stop l track limit k.toNat = true := hsk.2 ⟨p.toNat, by omega, hb, by rw [show ((p.toNat : Nat) : Int) = p by omega]; exact hv⟩
                  rw [hst, if_pos rfl] at h3
                  clear hs3 p3 hsk
                  (try (simp -implicitDefEqProofs only [go_sem, servoD_eq, servoC_eq, bls_len, onSome_bls, bls_unif, hb, pairsD_len, w2, w3, w4, hv])); repeat' first | with_reducible exact True.intro | with_reducible refine And.intro ?_ ?_ | with_reducible intro _ | (((with_reducible refine isCall ?_); first | refine call_b (c2) rfl ?_ ?_ | refine call_d (c2) rfl ?_ | refine call_sb (c2) rfl ?_ ?_ | refine call_s (c2) rfl rfl ?_ | refine call_b (cab) rfl ?_ ?_ | refine call_d (cab) rfl ?_ | refine call_sb (cab) rfl ?_ ?_ | refine call_s (cab) rfl rfl ?_) <;> try (simp -implicitDefEqProofs only [go_sem, servoD_eq, servoC_eq, bls_len, onSome_bls, bls_unif, hb, pairsD_len, w2, w3, w4, hv])) | (((with_reducible refine vc_b ?_ ?_) <;> intro _) <;> try (simp -implicitDefEqProofs only [go_sem, servoD_eq, servoC_eq, bls_len, onSome_bls, bls_unif, hb, pairsD_len, w2, w3, w4, hv])) | simp (disch := omega) only [wrapI, wrapU, shl1, shl1', shl1'', shrN, shrN', and_one] | ((with_reducible refine isEx2 ?_); refine ⟨(_, _), rfl, ?_, ?_⟩) | ((with_reducible refine isEx ?_); refine ⟨_, rfl, ?_, ?_⟩)
                  all_goals first | omega | (rw [← h3, show ((k.toNat : Nat) : Int) = k by omega]) | skip
                · have hs4 := hs3 (by rintro ⟨_, h⟩; exact hv h)
                  clear hs3 p3 hsk
                  (try (simp -implicitDefEqProofs only [go_sem, servoD_eq, servoC_eq, bls_len, onSome_bls, bls_unif, hb, pairsD_len, w2, w3, w4, hv])); repeat' first | with_reducible exact True.intro | with_reducible refine And.intro ?_ ?_ | with_reducible intro _ | (((with_reducible refine isCall ?_); first | refine call_b (c2) rfl ?_ ?_ | refine call_d (c2) rfl ?_ | refine call_sb (c2) rfl ?_ ?_ | refine call_s (c2) rfl rfl ?_ | refine call_b (cab) rfl ?_ ?_ | refine call_d (cab) rfl ?_ | refine call_sb (cab) rfl ?_ ?_ | refine call_s (cab) rfl rfl ?_) <;> try (simp -implicitDefEqProofs only [go_sem, servoD_eq, servoC_eq, bls_len, onSome_bls, bls_unif, hb, pairsD_len, w2, w3, w4, hv])) | (((with_reducible refine vc_b ?_ ?_) <;> intro _) <;> try (simp -implicitDefEqProofs only [go_sem, servoD_eq, servoC_eq, bls_len, onSome_bls, bls_unif, hb, pairsD_len, w2, w3, w4, hv])) | simp (disch := omega) only [wrapI, wrapU, shl1, shl1', shl1'', shrN, shrN', and_one] | ((with_reducible refine isEx2 ?_); refine ⟨(_, _), rfl, ?_, ?_⟩) | ((with_reducible refine isEx ?_); refine ⟨_, rfl, ?_, ?_⟩)
                  all_goals first | omega | (apply hs4; assumption) | skip
            · have hst : s.stop l track limit k.toNat = false := by
                cases hh : s.stop l track limit k.toNat with
                | false => rfl
                | true =>
                  obtain ⟨q, q1, q2, q3⟩ := hsk.1 hh
                  exact absurd ⟨q2, q3⟩ (p3 q (by omega))
              rw [hst, if_neg (by simp)] at h3
              clear p3 hsk
              (try (simp -implicitDefEqProofs only [go_sem, servoD_eq, servoC_eq, bls_len, w1])); repeat' first | with_reducible exact True.intro | with_reducible refine And.intro ?_ ?_ | with_reducible intro _ | (((with_reducible refine isCall ?_); first | refine call_b (cl) rfl ?_ ?_ | refine call_d (cl) rfl ?_ | refine call_sb (cl) rfl ?_ ?_ | refine call_s (cl) rfl rfl ?_) <;> try (simp -implicitDefEqProofs only [go_sem, servoD_eq, servoC_eq, bls_len, w1])) | (((with_reducible refine vc_b ?_ ?_) <;> intro _) <;> try (simp -implicitDefEqProofs only [go_sem, servoD_eq, servoC_eq, bls_len, w1])) | simp (disch := omega) only [wrapI, wrapU, shl1, shl1', shl1'', shrN, shrN', and_one] | ((with_reducible refine isEx2 ?_); refine ⟨(_, _), rfl, ?_, ?_⟩) | ((with_reducible refine isEx ?_); refine ⟨_, rfl, ?_, ?_⟩)
              all_goals first | omega | exact h3 | exact hB1 | skip
        · have : k = 24 := by omega
          subst this
          have : G = 24 := h3.symm
          subst this
          (try (simp -implicitDefEqProofs only [go_sem, servoD_eq, servoC_eq])); repeat' first | with_reducible exact True.intro | with_reducible refine And.intro ?_ ?_ | with_reducible intro _ | (((with_reducible refine vc_b ?_ ?_) <;> intro _) <;> try (simp -implicitDefEqProofs only [go_sem, servoD_eq, servoC_eq])) | simp (disch := omega) only [wrapI, wrapU, shl1, shl1', shl1'', shrN, shrN', and_one] | ((with_reducible refine isEx2 ?_); refine ⟨(_, _), rfl, ?_, ?_⟩) | ((with_reducible refine isEx ?_); refine ⟨_, rfl, ?_, ?_⟩)
          all_goals first | omega | (simp; done) | (simp; omega) | skip
    · have hg : s.gate l track limit = (0, s.known l (s.told2 track limit)) := by simp [GServo.gate, hk]
      rw [hg]
      have c1 := ref02_known_bad s nl l _ hk
      rw [servoD_eq, servoC_eq] at c1
      simp only [GServo.told2] at c1 hk ⊢
      cases b1 : inR track 0 (s.tracks - 1) with
      | false =>
        rw [b1] at cw1 c1 hk
        simp only [Bool.false_and] at c1 hk
        (try (simp -implicitDefEqProofs only [go_sem, servoD_eq, servoC_eq, w1, hk])); repeat' first | with_reducible exact True.intro | with_reducible refine And.intro ?_ ?_ | with_reducible intro _ | (((with_reducible refine isCall ?_); first | refine call_b (cw1) rfl ?_ ?_ | refine call_d (cw1) rfl ?_ | refine call_sb (cw1) rfl ?_ ?_ | refine call_s (cw1) rfl rfl ?_ | refine call_b (cw2) rfl ?_ ?_ | refine call_d (cw2) rfl ?_ | refine call_sb (cw2) rfl ?_ ?_ | refine call_s (cw2) rfl rfl ?_ | refine call_b (c1) rfl ?_ ?_ | refine call_d (c1) rfl ?_ | refine call_sb (c1) rfl ?_ ?_ | refine call_s (c1) rfl rfl ?_) <;> try (simp -implicitDefEqProofs only [go_sem, servoD_eq, servoC_eq, w1, hk])) | (((with_reducible refine vc_b ?_ ?_) <;> intro _) <;> try (simp -implicitDefEqProofs only [go_sem, servoD_eq, servoC_eq, w1, hk])) | simp (disch := omega) only [wrapI, wrapU, shl1, shl1', shl1'', shrN, shrN', and_one] | ((with_reducible refine isEx2 ?_); refine ⟨(_, _), rfl, ?_, ?_⟩) | ((with_reducible refine isEx ?_); refine ⟨_, rfl, ?_, ?_⟩)
        all_goals first | omega | (simp; done) | (simp; omega) | skip
      | true =>
        rw [b1] at cw1 c1 hk
        simp only [Bool.true_and] at c1 hk
        generalize inR limit 0 16 = b2 at *
        cases b2 <;> ((try (simp -implicitDefEqProofs only [go_sem, servoD_eq, servoC_eq, w1, hk])); repeat' first | with_reducible exact True.intro | with_reducible refine And.intro ?_ ?_ | with_reducible intro _ | (((with_reducible refine isCall ?_); first | refine call_b (cw1) rfl ?_ ?_ | refine call_d (cw1) rfl ?_ | refine call_sb (cw1) rfl ?_ ?_ | refine call_s (cw1) rfl rfl ?_ | refine call_b (cw2) rfl ?_ ?_ | refine call_d (cw2) rfl ?_ | refine call_sb (cw2) rfl ?_ ?_ | refine call_s (cw2) rfl rfl ?_ | refine call_b (c1) rfl ?_ ?_ | refine call_d (c1) rfl ?_ | refine call_sb (c1) rfl ?_ ?_ | refine call_s (c1) rfl rfl ?_) <;> try (simp -implicitDefEqProofs only [go_sem, servoD_eq, servoC_eq, w1, hk])) | (((with_reducible refine vc_b ?_ ?_) <;> intro _) <;> try (simp -implicitDefEqProofs only [go_sem, servoD_eq, servoC_eq, w1, hk])) | simp (disch := omega) only [wrapI, wrapU, shl1, shl1', shl1'', shrN, shrN', and_one] | ((with_reducible refine isEx2 ?_); refine ⟨(_, _), rfl, ?_, ?_⟩) | ((with_reducible refine isEx ?_); refine ⟨_, rfl, ?_, ?_⟩))
        all_goals first | omega | (simp; done) | (simp; omega) | skip

theorem ref02_CheckTrace_ret (s : GServo) (nl : Bool) (l : List Pair) (pos : Int) :
    Ret E0 F_ref02_CheckTrace [servoD s, .list nl (pairsD l), .int .i64 pos] (.int .i64 (s.trace l pos).2) := by
  refine ret_of_pw dec_ref02_CheckTrace mixed (by simp) fun hwf => ?_
  rw [enter_eq]; unfold pc_ref02_CheckTrace
  cases hok : s.ok with
  | false =>
    obtain ⟨hk, _⟩ := known_bad s l hok (s.told3 l pos)
    have hg : s.trace l pos = ([], 20) := by simp [GServo.trace, hk]
    rw [hg]
    have c1 := fun b => ref02_known_bad s nl l b (by rw [(known_bad s l hok b).1]; omega)
    have c2 : ∀ b, Ret E0 F_ref02_known [servoD s, .list nl (pairsD l), .bool b] (.tup [.list true [], .int .i64 20]) := fun b => by
      have := c1 b; rwa [(known_bad s l hok b).1] at this
    have c3 := ref02_Last_any s
    rw [servoD_eq, servoC_eq] at c2 c3
    (try (simp -implicitDefEqProofs only [go_sem, servoD_eq, servoC_eq, pairsD_len])); repeat' first | with_reducible exact True.intro | with_reducible refine And.intro ?_ ?_ | with_reducible intro _ | (((with_reducible refine isCall ?_); first | refine call_b (c3) rfl ?_ ?_ | refine call_d (c3) rfl ?_ | refine call_sb (c3) rfl ?_ ?_ | refine call_s (c3) rfl rfl ?_ | refine call_b (ref02_within_ret _ _ _) rfl ?_ ?_ | refine call_d (ref02_within_ret _ _ _) rfl ?_ | refine call_sb (ref02_within_ret _ _ _) rfl ?_ ?_ | refine call_s (ref02_within_ret _ _ _) rfl rfl ?_ | refine call_b (c2 _) rfl ?_ ?_ | refine call_d (c2 _) rfl ?_ | refine call_sb (c2 _) rfl ?_ ?_ | refine call_s (c2 _) rfl rfl ?_) <;> try (simp -implicitDefEqProofs only [go_sem, servoD_eq, servoC_eq, pairsD_len])) | (((with_reducible refine vc_b ?_ ?_) <;> intro _) <;> try (simp -implicitDefEqProofs only [go_sem, servoD_eq, servoC_eq, pairsD_len])) | simp (disch := omega) only [wrapI, wrapU, shl1, shl1', shl1'', shrN, shrN', and_one] 
    all_goals first | omega | (simp; done) | (simp; omega) | skip
  | true =>
    have hd := GServo.ok_head hok
    have hlb := last_bound hok
    have hz := endL_len hok l
    have c3 := ref02_Last_ret s hok
    rw [servoD_eq, servoC_eq] at c3
    have cw1 := ref02_within_ret pos 0 s.last
    have hbl : (s.endsB l).length = (s.endL l).length := by simp [GServo.endsB]
    by_cases hk : s.known l (s.told3 l pos) = 0
    · obtain ⟨hc, ht, hm⟩ := known_zero hk
      have c1 := ref02_known_ok s nl l _ hk
      rw [ht] at c1
      simp only [GServo.told3, Bool.and_eq_true, decide_eq_true_eq] at ht
      rw [ht.1] at cw1
      have hpos : 0 ≤ pos ∧ pos ≤ s.last := by simpa [inR] using ht.1
      have hl0 : (0 : Int) < l.length := by omega
      have hbg := endsB_get s l (p := pos.toNat) (by omega)
      rw [servoD_eq, servoC_eq] at c1
      by_cases hw : s.wrong < (s.endL l)[pos.toNat]?.getD 0
      · have hg : (s.trace l pos).2 = 3 := by simp [GServo.trace, hk, hw]
        rw [hg]
        rw [show decide ((s.endL l)[pos.toNat]?.getD 0 ≤ s.wrong) = false from decide_eq_false (by omega)] at hbg
        generalize s.endsB l = EB at *
        (try (simp -implicitDefEqProofs only [go_sem, servoD_eq, servoC_eq, pairsD_len, bls_len, onSome_bls, bls_unif, hl0, hbg])); repeat' first | with_reducible exact True.intro | with_reducible refine And.intro ?_ ?_ | with_reducible intro _ | (((with_reducible refine isCall ?_); first | refine call_b (c3) rfl ?_ ?_ | refine call_d (c3) rfl ?_ | refine call_sb (c3) rfl ?_ ?_ | refine call_s (c3) rfl rfl ?_ | refine call_b (cw1) rfl ?_ ?_ | refine call_d (cw1) rfl ?_ | refine call_sb (cw1) rfl ?_ ?_ | refine call_s (cw1) rfl rfl ?_ | refine call_b (c1) rfl ?_ ?_ | refine call_d (c1) rfl ?_ | refine call_sb (c1) rfl ?_ ?_ | refine call_s (c1) rfl rfl ?_) <;> try (simp -implicitDefEqProofs only [go_sem, servoD_eq, servoC_eq, pairsD_len, bls_len, onSome_bls, bls_unif, hl0, hbg])) | (((with_reducible refine vc_b ?_ ?_) <;> intro _) <;> try (simp -implicitDefEqProofs only [go_sem, servoD_eq, servoC_eq, pairsD_len, bls_len, onSome_bls, bls_unif, hl0, hbg])) | simp (disch := omega) only [wrapI, wrapU, shl1, shl1', shl1'', shrN, shrN', and_one] 
        all_goals first | omega | (simp; done) | (simp; omega) | skip
      · have hg : (s.trace l pos).2 = 0 := by simp [GServo.trace, hk, hw]
        rw [hg]
        rw [show decide ((s.endL l)[pos.toNat]?.getD 0 ≤ s.wrong) = true from decide_eq_true (by omega)] at hbg
        generalize s.endsB l = EB at *
        (try (simp -implicitDefEqProofs only [go_sem, servoD_eq, servoC_eq, pairsD_len, bls_len, onSome_bls, bls_unif, hl0, hbg])); repeat' first | with_reducible exact True.intro | with_reducible refine And.intro ?_ ?_ | with_reducible intro _ | (((with_reducible refine isCall ?_); first | refine call_b (c3) rfl ?_ ?_ | refine call_d (c3) rfl ?_ | refine call_sb (c3) rfl ?_ ?_ | refine call_s (c3) rfl rfl ?_ | refine call_b (cw1) rfl ?_ ?_ | refine call_d (cw1) rfl ?_ | refine call_sb (cw1) rfl ?_ ?_ | refine call_s (cw1) rfl rfl ?_ | refine call_b (c1) rfl ?_ ?_ | refine call_d (c1) rfl ?_ | refine call_sb (c1) rfl ?_ ?_ | refine call_s (c1) rfl rfl ?_) <;> try (simp -implicitDefEqProofs only [go_sem, servoD_eq, servoC_eq, pairsD_len, bls_len, onSome_bls, bls_unif, hl0, hbg])) | (((with_reducible refine vc_b ?_ ?_) <;> intro _) <;> try (simp -implicitDefEqProofs only [go_sem, servoD_eq, servoC_eq, pairsD_len, bls_len, onSome_bls, bls_unif, hl0, hbg])) | simp (disch := omega) only [wrapI, wrapU, shl1, shl1', shl1'', shrN, shrN', and_one] 
        all_goals first | omega | (simp; done) | (simp; omega) | skip
    · have hg : (s.trace l pos).2 = s.known l (s.told3 l pos) := by simp [GServo.trace, hk]
      rw [hg]
      have c1 := ref02_known_bad s nl l _ hk
      rw [servoD_eq, servoC_eq] at c1
      simp only [GServo.told3] at c1 hk ⊢
      cases b1 : inR pos 0 s.last with
      | false =>
        rw [b1] at cw1 c1 hk
        simp only [Bool.false_and] at c1 hk
        (try (simp -implicitDefEqProofs only [go_sem, servoD_eq, servoC_eq, hk])); repeat' first | with_reducible exact True.intro | with_reducible refine And.intro ?_ ?_ | with_reducible intro _ | (((with_reducible refine isCall ?_); first | refine call_b (c3) rfl ?_ ?_ | refine call_d (c3) rfl ?_ | refine call_sb (c3) rfl ?_ ?_ | refine call_s (c3) rfl rfl ?_ | refine call_b (cw1) rfl ?_ ?_ | refine call_d (cw1) rfl ?_ | refine call_sb (cw1) rfl ?_ ?_ | refine call_s (cw1) rfl rfl ?_ | refine call_b (c1) rfl ?_ ?_ | refine call_d (c1) rfl ?_ | refine call_sb (c1) rfl ?_ ?_ | refine call_s (c1) rfl rfl ?_) <;> try (simp -implicitDefEqProofs only [go_sem, servoD_eq, servoC_eq, hk])) | (((with_reducible refine vc_b ?_ ?_) <;> intro _) <;> try (simp -implicitDefEqProofs only [go_sem, servoD_eq, servoC_eq, hk])) | simp (disch := omega) only [wrapI, wrapU, shl1, shl1', shl1'', shrN, shrN', and_one] 
        all_goals first | omega | (simp; done) | (simp; omega) | skip
      | true =>
        rw [b1] at cw1 c1 hk
        simp only [Bool.true_and] at c1 hk
        by_cases hl0 : 0 < l.length
        · have hl1 : (0 : Int) < l.length := by omega
          simp only [hl0, decide_true] at c1 hk
          (try (simp -implicitDefEqProofs only [go_sem, servoD_eq, servoC_eq, hk, pairsD_len, hl1])); repeat' first | with_reducible exact True.intro | with_reducible refine And.intro ?_ ?_ | with_reducible intro _ | (((with_reducible refine isCall ?_); first | refine call_b (c3) rfl ?_ ?_ | refine call_d (c3) rfl ?_ | refine call_sb (c3) rfl ?_ ?_ | refine call_s (c3) rfl rfl ?_ | refine call_b (cw1) rfl ?_ ?_ | refine call_d (cw1) rfl ?_ | refine call_sb (cw1) rfl ?_ ?_ | refine call_s (cw1) rfl rfl ?_ | refine call_b (c1) rfl ?_ ?_ | refine call_d (c1) rfl ?_ | refine call_sb (c1) rfl ?_ ?_ | refine call_s (c1) rfl rfl ?_) <;> try (simp -implicitDefEqProofs only [go_sem, servoD_eq, servoC_eq, hk, pairsD_len, hl1])) | (((with_reducible refine vc_b ?_ ?_) <;> intro _) <;> try (simp -implicitDefEqProofs only [go_sem, servoD_eq, servoC_eq, hk, pairsD_len, hl1])) | simp (disch := omega) only [wrapI, wrapU, shl1, shl1', shl1'', shrN, shrN', and_one] 
          all_goals first | omega | (simp [hl0]; done) | skip
        · have hl1 : ¬ (0 : Int) < l.length := by omega
          simp only [hl0, decide_false] at c1 hk
          (try (simp -implicitDefEqProofs only [go_sem, servoD_eq, servoC_eq, hk, pairsD_len, hl1])); repeat' first | with_reducible exact True.intro | with_reducible refine And.intro ?_ ?_ | with_reducible intro _ | (((with_reducible refine isCall ?_); first | refine call_b (c3) rfl ?_ ?_ | refine call_d (c3) rfl ?_ | refine call_sb (c3) rfl ?_ ?_ | refine call_s (c3) rfl rfl ?_ | refine call_b (cw1) rfl ?_ ?_ | refine call_d (cw1) rfl ?_ | refine call_sb (cw1) rfl ?_ ?_ | refine call_s (cw1) rfl rfl ?_ | refine call_b (c1) rfl ?_ ?_ | refine call_d (c1) rfl ?_ | refine call_sb (c1) rfl ?_ ?_ | refine call_s (c1) rfl rfl ?_) <;> try (simp -implicitDefEqProofs only [go_sem, servoD_eq, servoC_eq, hk, pairsD_len, hl1])) | (((with_reducible refine vc_b ?_ ?_) <;> intro _) <;> try (simp -implicitDefEqProofs only [go_sem, servoD_eq, servoC_eq, hk, pairsD_len, hl1])) | simp (disch := omega) only [wrapI, wrapU, shl1, shl1', shl1'', shrN, shrN', and_one] 
          all_goals first | omega | (simp [hl0]; done) | skip

theorem ref02_Blame_ret (s : GServo) (nl : Bool) (l : List Pair) :
    Ret E0 F_ref02_Blame [servoD s, .list nl (pairsD l)] (.tup [.list (s.blame l).1.isEmpty (ints (s.blame l).1), .int .i64 (s.blame l).2]) := by
  refine ret_of_pw dec_ref02_Blame mixed (by simp) fun hwf => ?_
  rw [enter_eq]; unfold pc_ref02_Blame
  by_cases hk : s.known l true = 0
  · obtain ⟨hc, ht, hm⟩ := known_zero hk
    obtain ⟨hok, ha, h24⟩ := check_zero hc
    have hd := GServo.ok_head hok
    have hlb := last_bound hok
    have hz := zero_len hok
    have hg : s.blame l = (s.blameK l l.length, 0) := by simp [GServo.blame, hk]
    rw [hg]
    have c1 := ref02_known_ok s nl l _ hk
    rw [servoD_eq, servoC_eq] at c1
    (try (simp -implicitDefEqProofs only [go_sem, servoD_eq, servoC_eq])); repeat' first | with_reducible exact True.intro | with_reducible refine And.intro ?_ ?_ | with_reducible intro _ | (((with_reducible refine isCall ?_); first | refine call_b (c1) rfl ?_ ?_ | refine call_d (c1) rfl ?_ | refine call_sb (c1) rfl ?_ ?_ | refine call_s (c1) rfl rfl ?_) <;> try (simp -implicitDefEqProofs only [go_sem, servoD_eq, servoC_eq])) | (((with_reducible refine vc_b ?_ ?_) <;> intro _) <;> try (simp -implicitDefEqProofs only [go_sem, servoD_eq, servoC_eq])) | simp (disch := omega) only [wrapI, wrapU, shl1, shl1', shl1'', shrN, shrN', and_one] | ((with_reducible refine isEx3 ?_); refine ⟨(_, _, _), rfl, ?_, ?_⟩) | ((with_reducible refine isEx2 ?_); refine ⟨(_, _), rfl, ?_, ?_⟩)
    all_goals first | omega | (simp; done) | (simp; omega) | skip
    refine pw_loopS (α := Int × (List Int) × Bool) (l0 := ?l3) (m0 := ?m3) (fun x => [(9, .d (.int .i64 x.1))]) (fun x => [(53, .row T_int 1 x.2.2 (ints x.2.1))]) (fun x => 0 ≤ x.1 ∧ x.1 ≤ l.length ∧ x.2.1 = s.blameK l x.1.toNat ∧ x.2.2 = x.2.1.isEmpty) (fun x => (l.length - x.1).toNat) (?a3_0, [], true) ?h03 ?he3 ?he23 ?hI3 ?step3
    case h03 => (simp -implicitDefEqProofs only [go_sem, servoD_eq, servoC_eq, pairsD_len]; rfl)
    case he3 => rfl
    case he23 => rfl
    case' step3 => (rintro ⟨i, out, b⟩ hI; try dsimp only at hI)
    case' hI3 => try dsimp only
    · exact ⟨by omega, by omega, rfl, rfl⟩
    · obtain ⟨h1, h2, h3, h4⟩ := hI
      by_cases hi : i < l.length
      · have hlen := blameK_len s l i.toNat
        rw [← h3] at hlen
        have hnx := blameK_succ s l i.toNat
        rw [← h3, show i.toNat + 1 = (i + 1).toNat by omega, show ((i.toNat : Nat) : Int) = i by omega] at hnx
        have hfg : s.good l i.toNat = true ↔ SomeLow (s.frow l (i.toNat : Nat) l.length) s.zero.length s.wrong := frow_good hok (l := l) (i := i.toNat) (by omega)
        rw [show ((i.toNat : Nat) : Int) = i by omega] at hfg
        have cf := ref02_fewest_ret s hok nl l ha h24 i
        rw [servoD_eq, servoC_eq] at cf
        have hfl := frow_len s l i l.length
        obtain ⟨FR, hFR⟩ : ∃ FR, s.frow l i l.length = FR := ⟨_, rfl⟩
        rw [hFR] at hfg cf hfl
        (try (simp -implicitDefEqProofs only [go_sem, servoD_eq, servoC_eq, pairsD_len])); repeat' first | with_reducible exact True.intro | with_reducible refine And.intro ?_ ?_ | with_reducible intro _ | (((with_reducible refine isCall ?_); first | refine call_b (cf) rfl ?_ ?_ | refine call_d (cf) rfl ?_ | refine call_sb (cf) rfl ?_ ?_ | refine call_s (cf) rfl rfl ?_) <;> try (simp -implicitDefEqProofs only [go_sem, servoD_eq, servoC_eq, pairsD_len])) | (((with_reducible refine vc_b ?_ ?_) <;> intro _) <;> try (simp -implicitDefEqProofs only [go_sem, servoD_eq, servoC_eq, pairsD_len])) | simp (disch := omega) only [wrapI, wrapU, shl1, shl1', shl1'', shrN, shrN', and_one] | ((with_reducible refine isEx3 ?_); refine ⟨(_, _, _), rfl, ?_, ?_⟩) | ((with_reducible refine isEx2 ?_); refine ⟨(_, _), rfl, ?_, ?_⟩)
        all_goals first | omega | (simp; done) | (simp; omega) | skip
        refine pw_loopS (α := Int × Bool) (l0 := ?l4) (m0 := ?m4) (fun x => [(12, .d (.int .i64 x.1)), (11, .d (.bool x.2))]) (fun x => []) (fun x => 0 ≤ x.1 ∧ x.1 ≤ FR.length ∧ (x.2 = true → SomeLow FR s.zero.length s.wrong) ∧ (x.2 = false → ∀ q : Nat, (q : Int) < x.1 → ¬ FR[q]?.getD 0 ≤ s.wrong)) (fun x => (FR.length - x.1).toNat) (?a4_0, false) ?h04 ?he4 ?he24 ?hI4 ?step4
        case h04 => (simp -implicitDefEqProofs only [go_sem, servoD_eq, servoC_eq, pairsD_len]; rfl)
        case he4 => rfl
        case he24 => rfl
        case' step4 => (rintro ⟨p, ag⟩ hI2; try dsimp only at hI2)
        case' hI4 => try dsimp only
        · exact ⟨by omega, by omega, fun h => Bool.noConfusion h, fun _ q hq => by omega⟩
        · obtain ⟨p1, p2, p3, p4⟩ := hI2
          by_cases hp : p < FR.length
          · cases ag with
            | true =>
              have hg1 := p3 rfl
              clear p3 p4 hfg
              (try (simp -implicitDefEqProofs only [go_sem, servoD_eq, servoC_eq])); repeat' first | with_reducible exact True.intro | with_reducible refine And.intro ?_ ?_ | with_reducible intro _ | (((with_reducible refine vc_b ?_ ?_) <;> intro _) <;> try (simp -implicitDefEqProofs only [go_sem, servoD_eq, servoC_eq])) | simp (disch := omega) only [wrapI, wrapU, shl1, shl1', shl1'', shrN, shrN', and_one] | ((with_reducible refine isEx3 ?_); refine ⟨(_, _, _), rfl, ?_, ?_⟩) | ((with_reducible refine isEx2 ?_); refine ⟨(_, _), rfl, ?_, ?_⟩)
              all_goals first | omega | (intro _; exact hg1) | exact hg1 | (simp; done) | (rename_i hx _ _; exact Bool.noConfusion hx) | (rename_i hx _; exact Bool.noConfusion hx) | (rename_i hx; exact Bool.noConfusion hx) | skip
            | false =>
              have hg0 := p4 rfl
              by_cases hv : FR[p.toNat]?.getD 0 ≤ s.wrong
              · have hg1 : SomeLow FR s.zero.length s.wrong := ⟨p.toNat, by omega, hv⟩
                clear p3 p4 hfg hg0
                (try (simp -implicitDefEqProofs only [go_sem, servoD_eq, servoC_eq, hv, decide_true])); repeat' first | with_reducible exact True.intro | with_reducible refine And.intro ?_ ?_ | with_reducible intro _ | (((with_reducible refine vc_b ?_ ?_) <;> intro _) <;> try (simp -implicitDefEqProofs only [go_sem, servoD_eq, servoC_eq, hv, decide_true])) | simp (disch := omega) only [wrapI, wrapU, shl1, shl1', shl1'', shrN, shrN', and_one] | ((with_reducible refine isEx3 ?_); refine ⟨(_, _, _), rfl, ?_, ?_⟩) | ((with_reducible refine isEx2 ?_); refine ⟨(_, _), rfl, ?_, ?_⟩)
                all_goals first | omega | (intro _; exact hg1) | exact hg1 | (simp; done) | (rename_i hx _ _; exact Bool.noConfusion hx) | (rename_i hx _; exact Bool.noConfusion hx) | (rename_i hx; exact Bool.noConfusion hx) | skip
              · have hg1 : ∀ q : Nat, (q : Int) < p + 1 → ¬ FR[q]?.getD 0 ≤ s.wrong := fun q hq => by
                  rcases (show (q : Int) < p ∨ q = p.toNat by omega) with h | h
                  · exact hg0 q h
                  · rw [h]; exact hv
                clear p3 p4 hfg hg0
                (try (simp -implicitDefEqProofs only [go_sem, servoD_eq, servoC_eq, hv, decide_false])); repeat' first | with_reducible exact True.intro | with_reducible refine And.intro ?_ ?_ | with_reducible intro _ | (((with_reducible refine vc_b ?_ ?_) <;> intro _) <;> try (simp -implicitDefEqProofs only [go_sem, servoD_eq, servoC_eq, hv, decide_false])) | simp (disch := omega) only [wrapI, wrapU, shl1, shl1', shl1'', shrN, shrN', and_one] | ((with_reducible refine isEx3 ?_); refine ⟨(_, _, _), rfl, ?_, ?_⟩) | ((with_reducible refine isEx2 ?_); refine ⟨(_, _), rfl, ?_, ?_⟩)
                all_goals first | omega | (apply hg1; assumption) | (intro _ q hq; exact hg1 q hq) | (simp; done) | (rename_i hx _ _; exact Bool.noConfusion hx) | (rename_i hx _; exact Bool.noConfusion hx) | (rename_i hx; exact Bool.noConfusion hx) | skip
          · cases ag with
            | true =>
              rw [hfg.2 (p3 rfl), if_pos rfl] at hnx
              clear p3 p4 hfg
              (try (simp -implicitDefEqProofs only [go_sem, servoD_eq, servoC_eq, pairsD_len])); repeat' first | with_reducible exact True.intro | with_reducible refine And.intro ?_ ?_ | with_reducible intro _ | (((with_reducible refine vc_b ?_ ?_) <;> intro _) <;> try (simp -implicitDefEqProofs only [go_sem, servoD_eq, servoC_eq, pairsD_len])) | simp (disch := omega) only [wrapI, wrapU, shl1, shl1', shl1'', shrN, shrN', and_one] | ((with_reducible refine isEx3 ?_); refine ⟨(_, _, _), rfl, ?_, ?_⟩) | ((with_reducible refine isEx2 ?_); refine ⟨(_, _), rfl, ?_, ?_⟩)
              all_goals first | omega | exact hnx.symm | exact h4 | skip
            | false =>
              have hgf : s.good l i.toNat = false := by
                cases hh : s.good l i.toNat with
                | false => rfl
                | true =>
                  obtain ⟨q, q1, q2⟩ := hfg.1 hh
                  exact absurd q2 (p4 rfl q (by omega))
              rw [hgf, if_neg (by simp)] at hnx
              clear p3 p4 hfg
              (try (simp -implicitDefEqProofs only [go_sem, servoD_eq, servoC_eq, pairsD_len])); repeat' first | with_reducible exact True.intro | with_reducible refine And.intro ?_ ?_ | with_reducible intro _ | (((with_reducible refine vc_b ?_ ?_) <;> intro _) <;> try (simp -implicitDefEqProofs only [go_sem, servoD_eq, servoC_eq, pairsD_len])) | simp (disch := omega) only [wrapI, wrapU, shl1, shl1', shl1'', shrN, shrN', and_one] | ((with_reducible refine isEx3 ?_); refine ⟨(_, _, _), rfl, ?_, ?_⟩) | ((with_reducible refine isEx2 ?_); refine ⟨(_, _), rfl, ?_, ?_⟩)
              all_goals first | omega | exact hnx.symm | exact (isEmpty_snoc _ _).symm | skip
      · have : i.toNat = l.length := by omega
        rw [this] at h3
        rw [← h3, ← h4]
        (try (simp -implicitDefEqProofs only [go_sem, servoD_eq, servoC_eq, pairsD_len])); repeat' first | with_reducible exact True.intro | with_reducible refine And.intro ?_ ?_ | with_reducible intro _ | (((with_reducible refine vc_b ?_ ?_) <;> intro _) <;> try (simp -implicitDefEqProofs only [go_sem, servoD_eq, servoC_eq, pairsD_len])) | simp (disch := omega) only [wrapI, wrapU, shl1, shl1', shl1'', shrN, shrN', and_one] | ((with_reducible refine isEx3 ?_); refine ⟨(_, _, _), rfl, ?_, ?_⟩) | ((with_reducible refine isEx2 ?_); refine ⟨(_, _), rfl, ?_, ?_⟩)
        all_goals first | omega | (simp; done) | (simp; omega) | skip
  · have hg : s.blame l = ([], s.known l true) := by simp [GServo.blame, hk]
    rw [hg]
    have c1 := ref02_known_bad s nl l _ hk
    rw [servoD_eq, servoC_eq] at c1
    (try (simp -implicitDefEqProofs only [go_sem, servoD_eq, servoC_eq, hk])); repeat' first | with_reducible exact True.intro | with_reducible refine And.intro ?_ ?_ | with_reducible intro _ | (((with_reducible refine isCall ?_); first | refine call_b (c1) rfl ?_ ?_ | refine call_d (c1) rfl ?_ | refine call_sb (c1) rfl ?_ ?_ | refine call_s (c1) rfl rfl ?_) <;> try (simp -implicitDefEqProofs only [go_sem, servoD_eq, servoC_eq, hk])) | (((with_reducible refine vc_b ?_ ?_) <;> intro _) <;> try (simp -implicitDefEqProofs only [go_sem, servoD_eq, servoC_eq, hk])) | simp (disch := omega) only [wrapI, wrapU, shl1, shl1', shl1'', shrN, shrN', and_one] | ((with_reducible refine isEx3 ?_); refine ⟨(_, _, _), rfl, ?_, ?_⟩) | ((with_reducible refine isEx2 ?_); refine ⟨(_, _), rfl, ?_, ?_⟩)
    all_goals first | omega | (simp; done) | (simp; omega) | skip
end Go.Pw
