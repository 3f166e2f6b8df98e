/- A part of the proof. -/
import Derived.Test.YtlnppoaghpbpoaaServoV
set_option linter.all false
open Go Go.Pw Go.Proofs
namespace Go.Pw
set_option linter.unusedSimpArgs false
set_option linter.unusedVariables false
set_option maxRecDepth 100000
set_option maxHeartbeats 1600000

/-- While the gate is open the head is within the limit. -/
theorem sure_law {s : GServo} {l : List Pair} (hc : s.check l = 0) {p q : List Int} (h : s.PossP l p q) {t u : Int} {k : Nat} (hk : k ≤ q.length) (hst : s.stop l t u k = false) :
    s.at p q k - s.center t ((l.length : Int) - 1 + k) ≤ u ∧ -(s.at p q k - s.center t ((l.length : Int) - 1 + k)) ≤ u := by
  have hm := norm_ends (later_spec (check_zero hc).1 l (more := k) (by omega)).1 (poss_mem hc h hk)
  simp only [GServo.stop, Bool.or_eq_false_iff, decide_eq_false_iff_not] at hst
  omega

attribute [local congr] cg_pw cg_seqI cg_seqE cg_stepI cg_ev cg_evBin cg_condB cg_condV cg_thenQ cg_blockQ cg_onSome cg_onCells cg_onRow cg_onMap cg_onOpt cg_ghosts cg_ghost cg_evCall cg_part cg_rng cg_guardV cg_frzV cg_frpV cg_ownV cg_owcV cg_occV cg_occX cg_resK cg_res1
attribute [local irreducible] IntKind.wrap bitsOp Option.getD and or
theorem ServoSure_ret (s : GServo) (nl : Bool) (l : List Pair) (np : Bool) (p : List Int) (nq : Bool) (q : List Int) (t u : Int) :
    Ret E0 F_law02_ServoSure [servoD s, .list nl (pairsD l), .agg [.list np (ints p), .list nq (ints q), .int .i64 t, .int .i64 u]] (.bool true) := by
  refine ret_of_pw dec_law02_ServoSure mixed (by simp) fun hwf => ?_
  simp only [wf_int, wf_bool, wf_ints, wf_list, wf_agg, wf_ptr, wf_fn, wf_tup, wf_all_cons, wf_all_nil, wf_all_map, inK_i64, maxLen_eq, List.length_map, ints_len, true_and, and_true, pairsD_len, servoD_eq, servoC_eq] at hwf
  rw [enter_eq]; unfold pc_law02_ServoSure
  have cv := law02_valid_ret s nl l
  have cw := law02_works_ret
  rw [servoD_eq, servoC_eq] at cv
  cases hv : s.valid l with
  | false =>
    rw [hv] at cv
    (try (simp -implicitDefEqProofs only [go_sem, servoD_eq, servoC_eq])); repeat' first | with_reducible exact True.intro | with_reducible refine And.intro ?_ ?_ | with_reducible intro _ | (((with_reducible refine isCall ?_); first | refine call_b (cv) rfl ?_ ?_ | refine call_d (cv) rfl ?_ | refine call_sb (cv) rfl ?_ ?_ | refine call_s (cv) rfl rfl ?_ | refine call_b (cw) rfl ?_ ?_ | refine call_d (cw) rfl ?_ | refine call_sb (cw) rfl ?_ ?_ | refine call_s (cw) rfl rfl ?_) <;> try (simp -implicitDefEqProofs only [go_sem, servoD_eq, servoC_eq])) | (((with_reducible refine vc_b ?_ ?_) <;> intro _) <;> try (simp -implicitDefEqProofs only [go_sem, servoD_eq, servoC_eq])) | simp (disch := omega) only [wrapI, wrapU, shl1, shl1', shl1'', shrN, shrN', and_one] | ((with_reducible refine isEx8 ?_); refine ⟨(_, _, _, _, _, _, _, _), rfl, ?_, ?_⟩) | ((with_reducible refine isEx7 ?_); refine ⟨(_, _, _, _, _, _, _), rfl, ?_, ?_⟩) | ((with_reducible refine isEx6 ?_); refine ⟨(_, _, _, _, _, _), rfl, ?_, ?_⟩) | ((with_reducible refine isEx5 ?_); refine ⟨(_, _, _, _, _), rfl, ?_, ?_⟩) | ((with_reducible refine isEx4 ?_); refine ⟨(_, _, _, _), rfl, ?_, ?_⟩) | ((with_reducible refine isEx3 ?_); refine ⟨(_, _, _), rfl, ?_, ?_⟩) | ((with_reducible refine isEx2 ?_); refine ⟨(_, _), rfl, ?_, ?_⟩) | ((with_reducible refine isEx ?_); refine ⟨_, rfl, ?_, ?_⟩)
    all_goals first | omega | (simp; done) | (simp; omega) | skip
  | true =>
    rw [hv] at cv
    obtain ⟨hc, h8⟩ := valid_zero hv
    obtain ⟨hok, hall, h24⟩ := check_zero hc
    have hd := GServo.ok_head hok
    have hlb := last_bound hok
    by_cases g1 : s.PossP l p q
    · have cp := law02_possible_ret s nl l hc np nq p q true ⟨fun _ => g1, fun _ => rfl⟩
      rw [servoD_eq, servoC_eq] at cp
      by_cases k1 : t < 0
      · (try (simp -implicitDefEqProofs only [go_sem, servoD_eq, servoC_eq, k1])); repeat' first | with_reducible exact True.intro | with_reducible refine And.intro ?_ ?_ | with_reducible intro _ | (((with_reducible refine isCall ?_); first | refine call_b (cv) rfl ?_ ?_ | refine call_d (cv) rfl ?_ | refine call_sb (cv) rfl ?_ ?_ | refine call_s (cv) rfl rfl ?_ | refine call_b (cp) rfl ?_ ?_ | refine call_d (cp) rfl ?_ | refine call_sb (cp) rfl ?_ ?_ | refine call_s (cp) rfl rfl ?_ | refine call_b (cw) rfl ?_ ?_ | refine call_d (cw) rfl ?_ | refine call_sb (cw) rfl ?_ ?_ | refine call_s (cw) rfl rfl ?_) <;> try (simp -implicitDefEqProofs only [go_sem, servoD_eq, servoC_eq, k1])) | (((with_reducible refine vc_b ?_ ?_) <;> intro _) <;> try (simp -implicitDefEqProofs only [go_sem, servoD_eq, servoC_eq, k1])) | simp (disch := omega) only [wrapI, wrapU, shl1, shl1', shl1'', shrN, shrN', and_one] | ((with_reducible refine isEx8 ?_); refine ⟨(_, _, _, _, _, _, _, _), rfl, ?_, ?_⟩) | ((with_reducible refine isEx7 ?_); refine ⟨(_, _, _, _, _, _, _), rfl, ?_, ?_⟩) | ((with_reducible refine isEx6 ?_); refine ⟨(_, _, _, _, _, _), rfl, ?_, ?_⟩) | ((with_reducible refine isEx5 ?_); refine ⟨(_, _, _, _, _), rfl, ?_, ?_⟩) | ((with_reducible refine isEx4 ?_); refine ⟨(_, _, _, _), rfl, ?_, ?_⟩) | ((with_reducible refine isEx3 ?_); refine ⟨(_, _, _), rfl, ?_, ?_⟩) | ((with_reducible refine isEx2 ?_); refine ⟨(_, _), rfl, ?_, ?_⟩) | ((with_reducible refine isEx ?_); refine ⟨_, rfl, ?_, ?_⟩)
        all_goals first | omega | (simp; done) | (simp; omega) | skip
      by_cases k2 : s.tracks ≤ t
      · (try (simp -implicitDefEqProofs only [go_sem, servoD_eq, servoC_eq, k1, k2])); repeat' first | with_reducible exact True.intro | with_reducible refine And.intro ?_ ?_ | with_reducible intro _ | (((with_reducible refine isCall ?_); first | refine call_b (cv) rfl ?_ ?_ | refine call_d (cv) rfl ?_ | refine call_sb (cv) rfl ?_ ?_ | refine call_s (cv) rfl rfl ?_ | refine call_b (cp) rfl ?_ ?_ | refine call_d (cp) rfl ?_ | refine call_sb (cp) rfl ?_ ?_ | refine call_s (cp) rfl rfl ?_ | refine call_b (cw) rfl ?_ ?_ | refine call_d (cw) rfl ?_ | refine call_sb (cw) rfl ?_ ?_ | refine call_s (cw) rfl rfl ?_) <;> try (simp -implicitDefEqProofs only [go_sem, servoD_eq, servoC_eq, k1, k2])) | (((with_reducible refine vc_b ?_ ?_) <;> intro _) <;> try (simp -implicitDefEqProofs only [go_sem, servoD_eq, servoC_eq, k1, k2])) | simp (disch := omega) only [wrapI, wrapU, shl1, shl1', shl1'', shrN, shrN', and_one] | ((with_reducible refine isEx8 ?_); refine ⟨(_, _, _, _, _, _, _, _), rfl, ?_, ?_⟩) | ((with_reducible refine isEx7 ?_); refine ⟨(_, _, _, _, _, _, _), rfl, ?_, ?_⟩) | ((with_reducible refine isEx6 ?_); refine ⟨(_, _, _, _, _, _), rfl, ?_, ?_⟩) | ((with_reducible refine isEx5 ?_); refine ⟨(_, _, _, _, _), rfl, ?_, ?_⟩) | ((with_reducible refine isEx4 ?_); refine ⟨(_, _, _, _), rfl, ?_, ?_⟩) | ((with_reducible refine isEx3 ?_); refine ⟨(_, _, _), rfl, ?_, ?_⟩) | ((with_reducible refine isEx2 ?_); refine ⟨(_, _), rfl, ?_, ?_⟩) | ((with_reducible refine isEx ?_); refine ⟨_, rfl, ?_, ?_⟩)
        all_goals first | omega | (simp; done) | (simp; omega) | skip
      by_cases k3 : u < 0
      · (try (simp -implicitDefEqProofs only [go_sem, servoD_eq, servoC_eq, k1, k2, k3])); repeat' first | with_reducible exact True.intro | with_reducible refine And.intro ?_ ?_ | with_reducible intro _ | (((with_reducible refine isCall ?_); first | refine call_b (cv) rfl ?_ ?_ | refine call_d (cv) rfl ?_ | refine call_sb (cv) rfl ?_ ?_ | refine call_s (cv) rfl rfl ?_ | refine call_b (cp) rfl ?_ ?_ | refine call_d (cp) rfl ?_ | refine call_sb (cp) rfl ?_ ?_ | refine call_s (cp) rfl rfl ?_ | refine call_b (cw) rfl ?_ ?_ | refine call_d (cw) rfl ?_ | refine call_sb (cw) rfl ?_ ?_ | refine call_s (cw) rfl rfl ?_) <;> try (simp -implicitDefEqProofs only [go_sem, servoD_eq, servoC_eq, k1, k2, k3])) | (((with_reducible refine vc_b ?_ ?_) <;> intro _) <;> try (simp -implicitDefEqProofs only [go_sem, servoD_eq, servoC_eq, k1, k2, k3])) | simp (disch := omega) only [wrapI, wrapU, shl1, shl1', shl1'', shrN, shrN', and_one] | ((with_reducible refine isEx8 ?_); refine ⟨(_, _, _, _, _, _, _, _), rfl, ?_, ?_⟩) | ((with_reducible refine isEx7 ?_); refine ⟨(_, _, _, _, _, _, _), rfl, ?_, ?_⟩) | ((with_reducible refine isEx6 ?_); refine ⟨(_, _, _, _, _, _), rfl, ?_, ?_⟩) | ((with_reducible refine isEx5 ?_); refine ⟨(_, _, _, _, _), rfl, ?_, ?_⟩) | ((with_reducible refine isEx4 ?_); refine ⟨(_, _, _, _), rfl, ?_, ?_⟩) | ((with_reducible refine isEx3 ?_); refine ⟨(_, _, _), rfl, ?_, ?_⟩) | ((with_reducible refine isEx2 ?_); refine ⟨(_, _), rfl, ?_, ?_⟩) | ((with_reducible refine isEx ?_); refine ⟨_, rfl, ?_, ?_⟩)
        all_goals first | omega | (simp; done) | (simp; omega) | skip
      by_cases k4 : 16 < u
      · (try (simp -implicitDefEqProofs only [go_sem, servoD_eq, servoC_eq, k1, k2, k3, k4])); repeat' first | with_reducible exact True.intro | with_reducible refine And.intro ?_ ?_ | with_reducible intro _ | (((with_reducible refine isCall ?_); first | refine call_b (cv) rfl ?_ ?_ | refine call_d (cv) rfl ?_ | refine call_sb (cv) rfl ?_ ?_ | refine call_s (cv) rfl rfl ?_ | refine call_b (cp) rfl ?_ ?_ | refine call_d (cp) rfl ?_ | refine call_sb (cp) rfl ?_ ?_ | refine call_s (cp) rfl rfl ?_ | refine call_b (cw) rfl ?_ ?_ | refine call_d (cw) rfl ?_ | refine call_sb (cw) rfl ?_ ?_ | refine call_s (cw) rfl rfl ?_) <;> try (simp -implicitDefEqProofs only [go_sem, servoD_eq, servoC_eq, k1, k2, k3, k4])) | (((with_reducible refine vc_b ?_ ?_) <;> intro _) <;> try (simp -implicitDefEqProofs only [go_sem, servoD_eq, servoC_eq, k1, k2, k3, k4])) | simp (disch := omega) only [wrapI, wrapU, shl1, shl1', shl1'', shrN, shrN', and_one] | ((with_reducible refine isEx8 ?_); refine ⟨(_, _, _, _, _, _, _, _), rfl, ?_, ?_⟩) | ((with_reducible refine isEx7 ?_); refine ⟨(_, _, _, _, _, _, _), rfl, ?_, ?_⟩) | ((with_reducible refine isEx6 ?_); refine ⟨(_, _, _, _, _, _), rfl, ?_, ?_⟩) | ((with_reducible refine isEx5 ?_); refine ⟨(_, _, _, _, _), rfl, ?_, ?_⟩) | ((with_reducible refine isEx4 ?_); refine ⟨(_, _, _, _), rfl, ?_, ?_⟩) | ((with_reducible refine isEx3 ?_); refine ⟨(_, _, _), rfl, ?_, ?_⟩) | ((with_reducible refine isEx2 ?_); refine ⟨(_, _), rfl, ?_, ?_⟩) | ((with_reducible refine isEx ?_); refine ⟨_, rfl, ?_, ?_⟩)
        all_goals first | omega | (simp; done) | (simp; omega) | skip
      have cg := servo_Gate_ret s nl l t u
      rw [servoD_eq, servoC_eq] at cg
      obtain ⟨e1, e2⟩ := poss_end hc g1
      have hkn : s.known l (s.told2 t u) = 0 := by
        have : s.told2 t u = true := by simp [GServo.told2, inR]; omega
        rw [this]; exact known_ok hc e1 e2
      have hg : s.gate l t u = (((firstK (s.stop l t u) 24 0 : Nat) : Int), 0) := by simp [GServo.gate, hkn]
      rw [hg] at cg
      obtain ⟨f1, f2, f3⟩ := firstK_spec (s.stop l t u) 24 0
      have hlaw := fun (k : Nat) (hk : k ≤ q.length) (hkg : k < firstK (s.stop l t u) 24 0) => sure_law hc g1 (t := t) (u := u) hk (f3 k (by omega) hkg)
      have hat := fun (k : Nat) (hk : k ≤ q.length) => (poss_at hc g1 k hk).1
      generalize firstK (s.stop l t u) 24 0 = G at *
      have hG0 : ¬ (G : Int) < 0 := by omega
      have hG1 : ¬ (24 : Int) < G := by omega
      have hq12 := g1.2.1
      have hp40 := g1.1
      have hp0 := g1.2.2.2.2.1
      have w1 : IntKind.i64.wrap ((p.length : Int) - 1) = (p.length : Int) - 1 := wrapI _ (by omega)
      have e3 : ((p.length : Int) - 1).toNat = p.length - 1 := by omega
      dsimp only at cg
      (try (simp -implicitDefEqProofs only [go_sem, servoD_eq, servoC_eq, k1, k2, k3, k4, hG0, hG1, w1, e3])); repeat' first | with_reducible exact True.intro | with_reducible refine And.intro ?_ ?_ | with_reducible intro _ | (((with_reducible refine isCall ?_); first | refine call_b (cv) rfl ?_ ?_ | refine call_d (cv) rfl ?_ | refine call_sb (cv) rfl ?_ ?_ | refine call_s (cv) rfl rfl ?_ | refine call_b (cp) rfl ?_ ?_ | refine call_d (cp) rfl ?_ | refine call_sb (cp) rfl ?_ ?_ | refine call_s (cp) rfl rfl ?_ | refine call_b (cw) rfl ?_ ?_ | refine call_d (cw) rfl ?_ | refine call_sb (cw) rfl ?_ ?_ | refine call_s (cw) rfl rfl ?_ | refine call_b (cg) rfl ?_ ?_ | refine call_d (cg) rfl ?_ | refine call_sb (cg) rfl ?_ ?_ | refine call_s (cg) rfl rfl ?_) <;> try (simp -implicitDefEqProofs only [go_sem, servoD_eq, servoC_eq, k1, k2, k3, k4, hG0, hG1, w1, e3])) | (((with_reducible refine vc_b ?_ ?_) <;> intro _) <;> try (simp -implicitDefEqProofs only [go_sem, servoD_eq, servoC_eq, k1, k2, k3, k4, hG0, hG1, w1, e3])) | simp (disch := omega) only [wrapI, wrapU, shl1, shl1', shl1'', shrN, shrN', and_one] | ((with_reducible refine isEx8 ?_); refine ⟨(_, _, _, _, _, _, _, _), rfl, ?_, ?_⟩) | ((with_reducible refine isEx7 ?_); refine ⟨(_, _, _, _, _, _, _), rfl, ?_, ?_⟩) | ((with_reducible refine isEx6 ?_); refine ⟨(_, _, _, _, _, _), rfl, ?_, ?_⟩) | ((with_reducible refine isEx5 ?_); refine ⟨(_, _, _, _, _), rfl, ?_, ?_⟩) | ((with_reducible refine isEx4 ?_); refine ⟨(_, _, _, _), rfl, ?_, ?_⟩) | ((with_reducible refine isEx3 ?_); refine ⟨(_, _, _), rfl, ?_, ?_⟩) | ((with_reducible refine isEx2 ?_); refine ⟨(_, _), rfl, ?_, ?_⟩) | ((with_reducible refine isEx ?_); refine ⟨_, rfl, ?_, ?_⟩)
      all_goals first | omega | (simp; done) | (simp; omega) | skip
      refine pw_loopS (α := Int × Int) (l0 := ?l1) (m0 := ?m1) (fun x => [(10, .d (.int .i64 x.1)), (9, .d (.int .i64 x.2))]) (fun x => []) (fun x => 0 ≤ x.1 ∧ x.1 ≤ G ∧ x.1 ≤ (q.length : Int) + 1 ∧ x.2 = s.at p q (x.1.toNat - 1)) (fun x => (G - x.1).toNat) (?a1_0, ?a1_1) ?h01 ?he1 ?he21 ?hI1 ?step1
      case h01 => (simp -implicitDefEqProofs only [go_sem, servoD_eq, servoC_eq, w1, e3]; rfl)
      case he1 => rfl
      case he21 => rfl
      case' step1 => (rintro ⟨k, a⟩ hI; try dsimp only at hI)
      case' hI1 => try dsimp only
      · exact ⟨by omega, by omega, by omega, rfl⟩
      · obtain ⟨h1, h2, h3, h4⟩ := hI
        by_cases hi : k < G
        · by_cases hi2 : k ≤ (q.length : Int)
          · have hl2 := hlaw k.toNat (by omega) (by omega)
            rw [show ((k.toNat : Nat) : Int) = k by omega] at hl2
            have hat2 := hat k.toNat (by omega)
            have w2 : IntKind.i64.wrap ((l.length : Int) - 1) = (l.length : Int) - 1 := wrapI _ (by omega)
            have w3 : IntKind.i64.wrap ((l.length : Int) - 1 + k) = (l.length : Int) - 1 + k := wrapI _ (by omega)
            have cC := ref02_Center_ret s hok t ((l.length : Int) - 1 + k) (by omega) (by omega)
            rw [servoD_eq, servoC_eq] at cC
            have hcb := center_bound hok (t := t) (by omega) ((l.length : Int) - 1 + k)
            generalize s.center t ((l.length : Int) - 1 + k) = C at *
            have hnx : s.at p q ((k + 1).toNat - 1) = s.at p q k.toNat := by rw [show (k + 1).toNat - 1 = k.toNat by omega]
            by_cases hk0 : 0 < k
            · have w4 : IntKind.i64.wrap (k - 1) = k - 1 := wrapI _ (by omega)
              have e4 : (k - 1).toNat = k.toNat - 1 := by omega
              have hae : q[k.toNat - 1]?.getD 0 = s.at p q k.toNat := by unfold GServo.at; rw [if_neg (by omega)]
              generalize s.at p q k.toNat = A at *
              have w5 : IntKind.i64.wrap (A - C) = A - C := wrapI _ (by omega)
              have w6 : IntKind.i64.wrap (0 - (A - C)) = -(A - C) := by rw [wrapI (0 - (A - C)) (by omega)]; omega
              have n1 : ¬ u < A - C := by omega
              have n2 : ¬ u < -(A - C) := by omega
              (try (simp -implicitDefEqProofs only [go_sem, servoD_eq, servoC_eq, hi, hi2, hk0, w2, w3, w4, e4, hae, w5, w6, n1, n2, pairsD_len])); repeat' first | with_reducible exact True.intro | with_reducible refine And.intro ?_ ?_ | with_reducible intro _ | (((with_reducible refine isCall ?_); first | refine call_b (cC) rfl ?_ ?_ | refine call_d (cC) rfl ?_ | refine call_sb (cC) rfl ?_ ?_ | refine call_s (cC) rfl rfl ?_ | refine call_b (cw) rfl ?_ ?_ | refine call_d (cw) rfl ?_ | refine call_sb (cw) rfl ?_ ?_ | refine call_s (cw) rfl rfl ?_) <;> try (simp -implicitDefEqProofs only [go_sem, servoD_eq, servoC_eq, hi, hi2, hk0, w2, w3, w4, e4, hae, w5, w6, n1, n2, pairsD_len])) | (((with_reducible refine vc_b ?_ ?_) <;> intro _) <;> try (simp -implicitDefEqProofs only [go_sem, servoD_eq, servoC_eq, hi, hi2, hk0, w2, w3, w4, e4, hae, w5, w6, n1, n2, pairsD_len])) | simp (disch := omega) only [wrapI, wrapU, shl1, shl1', shl1'', shrN, shrN', and_one] | ((with_reducible refine isEx8 ?_); refine ⟨(_, _, _, _, _, _, _, _), rfl, ?_, ?_⟩) | ((with_reducible refine isEx7 ?_); refine ⟨(_, _, _, _, _, _, _), rfl, ?_, ?_⟩) | ((with_reducible refine isEx6 ?_); refine ⟨(_, _, _, _, _, _), rfl, ?_, ?_⟩) | ((with_reducible refine isEx5 ?_); refine ⟨(_, _, _, _, _), rfl, ?_, ?_⟩) | ((with_reducible refine isEx4 ?_); refine ⟨(_, _, _, _), rfl, ?_, ?_⟩) | ((with_reducible refine isEx3 ?_); refine ⟨(_, _, _), rfl, ?_, ?_⟩) | ((with_reducible refine isEx2 ?_); refine ⟨(_, _), rfl, ?_, ?_⟩) | ((with_reducible refine isEx ?_); refine ⟨_, rfl, ?_, ?_⟩)
              all_goals first | omega | exact hnx.symm | skip
            · have hk00 : k.toNat = 0 := by omega
              have hae : a = s.at p q k.toNat := by rw [h4, hk00]
              rw [← hae] at hl2 hat2 hnx
              have w5 : IntKind.i64.wrap (a - C) = a - C := wrapI _ (by omega)
              have w6 : IntKind.i64.wrap (0 - (a - C)) = -(a - C) := by rw [wrapI (0 - (a - C)) (by omega)]; omega
              have n1 : ¬ u < a - C := by omega
              have n2 : ¬ u < -(a - C) := by omega
              (try (simp -implicitDefEqProofs only [go_sem, servoD_eq, servoC_eq, hi, hi2, hk0, w2, w3, w5, w6, n1, n2, pairsD_len])); repeat' first | with_reducible exact True.intro | with_reducible refine And.intro ?_ ?_ | with_reducible intro _ | (((with_reducible refine isCall ?_); first | refine call_b (cC) rfl ?_ ?_ | refine call_d (cC) rfl ?_ | refine call_sb (cC) rfl ?_ ?_ | refine call_s (cC) rfl rfl ?_ | refine call_b (cw) rfl ?_ ?_ | refine call_d (cw) rfl ?_ | refine call_sb (cw) rfl ?_ ?_ | refine call_s (cw) rfl rfl ?_) <;> try (simp -implicitDefEqProofs only [go_sem, servoD_eq, servoC_eq, hi, hi2, hk0, w2, w3, w5, w6, n1, n2, pairsD_len])) | (((with_reducible refine vc_b ?_ ?_) <;> intro _) <;> try (simp -implicitDefEqProofs only [go_sem, servoD_eq, servoC_eq, hi, hi2, hk0, w2, w3, w5, w6, n1, n2, pairsD_len])) | simp (disch := omega) only [wrapI, wrapU, shl1, shl1', shl1'', shrN, shrN', and_one] | ((with_reducible refine isEx8 ?_); refine ⟨(_, _, _, _, _, _, _, _), rfl, ?_, ?_⟩) | ((with_reducible refine isEx7 ?_); refine ⟨(_, _, _, _, _, _, _), rfl, ?_, ?_⟩) | ((with_reducible refine isEx6 ?_); refine ⟨(_, _, _, _, _, _), rfl, ?_, ?_⟩) | ((with_reducible refine isEx5 ?_); refine ⟨(_, _, _, _, _), rfl, ?_, ?_⟩) | ((with_reducible refine isEx4 ?_); refine ⟨(_, _, _, _), rfl, ?_, ?_⟩) | ((with_reducible refine isEx3 ?_); refine ⟨(_, _, _), rfl, ?_, ?_⟩) | ((with_reducible refine isEx2 ?_); refine ⟨(_, _), rfl, ?_, ?_⟩) | ((with_reducible refine isEx ?_); refine ⟨_, rfl, ?_, ?_⟩)
              all_goals first | omega | exact hnx.symm | skip
          · (try (simp -implicitDefEqProofs only [go_sem, servoD_eq, servoC_eq, hi, hi2])); repeat' first | with_reducible exact True.intro | with_reducible refine And.intro ?_ ?_ | with_reducible intro _ | (((with_reducible refine isCall ?_); first | refine call_b (cw) rfl ?_ ?_ | refine call_d (cw) rfl ?_ | refine call_sb (cw) rfl ?_ ?_ | refine call_s (cw) rfl rfl ?_) <;> try (simp -implicitDefEqProofs only [go_sem, servoD_eq, servoC_eq, hi, hi2])) | (((with_reducible refine vc_b ?_ ?_) <;> intro _) <;> try (simp -implicitDefEqProofs only [go_sem, servoD_eq, servoC_eq, hi, hi2])) | simp (disch := omega) only [wrapI, wrapU, shl1, shl1', shl1'', shrN, shrN', and_one] | ((with_reducible refine isEx8 ?_); refine ⟨(_, _, _, _, _, _, _, _), rfl, ?_, ?_⟩) | ((with_reducible refine isEx7 ?_); refine ⟨(_, _, _, _, _, _, _), rfl, ?_, ?_⟩) | ((with_reducible refine isEx6 ?_); refine ⟨(_, _, _, _, _, _), rfl, ?_, ?_⟩) | ((with_reducible refine isEx5 ?_); refine ⟨(_, _, _, _, _), rfl, ?_, ?_⟩) | ((with_reducible refine isEx4 ?_); refine ⟨(_, _, _, _), rfl, ?_, ?_⟩) | ((with_reducible refine isEx3 ?_); refine ⟨(_, _, _), rfl, ?_, ?_⟩) | ((with_reducible refine isEx2 ?_); refine ⟨(_, _), rfl, ?_, ?_⟩) | ((with_reducible refine isEx ?_); refine ⟨_, rfl, ?_, ?_⟩)
            all_goals first | omega | (simp; done) | (simp; omega) | skip
        · (try (simp -implicitDefEqProofs only [go_sem, servoD_eq, servoC_eq, hi])); repeat' first | with_reducible exact True.intro | with_reducible refine And.intro ?_ ?_ | with_reducible intro _ | (((with_reducible refine isCall ?_); first | refine call_b (cw) rfl ?_ ?_ | refine call_d (cw) rfl ?_ | refine call_sb (cw) rfl ?_ ?_ | refine call_s (cw) rfl rfl ?_) <;> try (simp -implicitDefEqProofs only [go_sem, servoD_eq, servoC_eq, hi])) | (((with_reducible refine vc_b ?_ ?_) <;> intro _) <;> try (simp -implicitDefEqProofs only [go_sem, servoD_eq, servoC_eq, hi])) | simp (disch := omega) only [wrapI, wrapU, shl1, shl1', shl1'', shrN, shrN', and_one] | ((with_reducible refine isEx8 ?_); refine ⟨(_, _, _, _, _, _, _, _), rfl, ?_, ?_⟩) | ((with_reducible refine isEx7 ?_); refine ⟨(_, _, _, _, _, _, _), rfl, ?_, ?_⟩) | ((with_reducible refine isEx6 ?_); refine ⟨(_, _, _, _, _, _), rfl, ?_, ?_⟩) | ((with_reducible refine isEx5 ?_); refine ⟨(_, _, _, _, _), rfl, ?_, ?_⟩) | ((with_reducible refine isEx4 ?_); refine ⟨(_, _, _, _), rfl, ?_, ?_⟩) | ((with_reducible refine isEx3 ?_); refine ⟨(_, _, _), rfl, ?_, ?_⟩) | ((with_reducible refine isEx2 ?_); refine ⟨(_, _), rfl, ?_, ?_⟩) | ((with_reducible refine isEx ?_); refine ⟨_, rfl, ?_, ?_⟩)
          all_goals first | omega | (simp; done) | (simp; omega) | skip
    · have cp := law02_possible_ret s nl l hc np nq p q false ⟨fun h => Bool.noConfusion h, fun h => absurd h g1⟩
      rw [servoD_eq, servoC_eq] at cp
      (try (simp -implicitDefEqProofs only [go_sem, servoD_eq, servoC_eq])); repeat' first | with_reducible exact True.intro | with_reducible refine And.intro ?_ ?_ | with_reducible intro _ | (((with_reducible refine isCall ?_); first | refine call_b (cv) rfl ?_ ?_ | refine call_d (cv) rfl ?_ | refine call_sb (cv) rfl ?_ ?_ | refine call_s (cv) rfl rfl ?_ | refine call_b (cp) rfl ?_ ?_ | refine call_d (cp) rfl ?_ | refine call_sb (cp) rfl ?_ ?_ | refine call_s (cp) rfl rfl ?_ | refine call_b (cw) rfl ?_ ?_ | refine call_d (cw) rfl ?_ | refine call_sb (cw) rfl ?_ ?_ | refine call_s (cw) rfl rfl ?_) <;> try (simp -implicitDefEqProofs only [go_sem, servoD_eq, servoC_eq])) | (((with_reducible refine vc_b ?_ ?_) <;> intro _) <;> try (simp -implicitDefEqProofs only [go_sem, servoD_eq, servoC_eq])) | simp (disch := omega) only [wrapI, wrapU, shl1, shl1', shl1'', shrN, shrN', and_one] | ((with_reducible refine isEx8 ?_); refine ⟨(_, _, _, _, _, _, _, _), rfl, ?_, ?_⟩) | ((with_reducible refine isEx7 ?_); refine ⟨(_, _, _, _, _, _, _), rfl, ?_, ?_⟩) | ((with_reducible refine isEx6 ?_); refine ⟨(_, _, _, _, _, _), rfl, ?_, ?_⟩) | ((with_reducible refine isEx5 ?_); refine ⟨(_, _, _, _, _), rfl, ?_, ?_⟩) | ((with_reducible refine isEx4 ?_); refine ⟨(_, _, _, _), rfl, ?_, ?_⟩) | ((with_reducible refine isEx3 ?_); refine ⟨(_, _, _), rfl, ?_, ?_⟩) | ((with_reducible refine isEx2 ?_); refine ⟨(_, _), rfl, ?_, ?_⟩) | ((with_reducible refine isEx ?_); refine ⟨_, rfl, ?_, ?_⟩)
      all_goals first | omega | (simp; done) | (simp; omega) | skip
end Go.Pw
