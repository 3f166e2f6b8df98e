/- A part of the proof. -/
import Derived.Test.YtlnppoaghpbpoaaServoS
import Derived.Test.YtlnppoaghpbpoaaServoQ
import Derived.Test.YtlnppoaghpbpoaaServoR
set_option linter.all false
open Go Go.Pw Go.Proofs
namespace Go.Pw
set_option linter.unusedSimpArgs false
set_option linter.unusedVariables false
set_option maxRecDepth 100000
set_option maxHeartbeats 1600000
attribute [local congr] cg_pw cg_seqI cg_seqE cg_stepI cg_ev cg_evBin cg_condB cg_condV cg_thenQ cg_blockQ cg_onSome cg_onCells cg_onRow cg_onMap cg_onOpt cg_ghosts cg_ghost cg_evCall cg_part cg_rng cg_guardV cg_frzV cg_frpV cg_ownV cg_owcV cg_occV cg_occX cg_resK cg_res1
attribute [local irreducible] IntKind.wrap bitsOp Option.getD and or

def pathF (p : List Int) : Nat → Int := fun j => p[j]?.getD 0
theorem pathF_eq (p : List Int) (j : Nat) : pathF p j = p[j]?.getD 0 := rfl
theorem pathP_ok {s : GServo} {n : Nat} {p : List Int} (h : s.PathP n p) : s.okP (pathF p) n := by
  obtain ⟨h1, h2, h3⟩ := h
  rw [← h1]; exact ⟨h2, h3⟩
def GServo.misread (s : GServo) (l : List Pair) (p : List Int) : Int := s.cst l (pathF p) p.length

theorem ref02_Misread_ret (s : GServo) (nl : Bool) (l : List Pair) (h : s.check l = 0) (np : Bool) (p : List Int) (hp : s.PathP l.length p) :
    Ret E0 F_ref02_Misread [servoD s, .list nl (pairsD l), .list np (ints p)] (.int .i64 (s.misread l p)) := by
  refine ret_of_pw dec_ref02_Misread mixed (by simp) fun hwf => ?_
  obtain ⟨hok, ha, h24⟩ := check_zero h
  have hd := GServo.ok_head hok
  have hlb := last_bound hok
  rw [enter_eq]; unfold pc_ref02_Misread
  have hpl := hp.1
  (try (simp -implicitDefEqProofs only [go_sem, servoD_eq, servoC_eq])); repeat' first | with_reducible exact True.intro | with_reducible refine And.intro ?_ ?_ | with_reducible intro _ | (((with_reducible refine vc_b ?_ ?_) <;> intro _) <;> try (simp -implicitDefEqProofs only [go_sem, servoD_eq, servoC_eq])) | simp (disch := omega) only [wrapI, wrapU, shl1, shl1', shl1'', shrN, shrN', and_one] | ((with_reducible refine isEx2 ?_); refine ⟨(_, _), rfl, ?_, ?_⟩)
  refine pw_loopS (α := Int × Int) (l0 := ?l1) (m0 := ?m1) (fun x => [(8, .d (.int .i64 x.1)), (7, .d (.int .i64 x.2))]) (fun x => []) (fun x => 0 ≤ x.1 ∧ x.1 ≤ p.length ∧ x.2 = s.cst l (pathF p) x.1.toNat ∧ 0 ≤ x.2 ∧ x.2 ≤ x.1) (fun x => (p.length - x.1).toNat) (?a1_0, ?a1_1) ?h01 ?he1 ?he21 ?hI1 ?step1
  case h01 => (simp -implicitDefEqProofs only [go_sem, servoD_eq, servoC_eq]; rfl)
  case he1 => rfl
  case he21 => rfl
  case' step1 => (rintro ⟨i, n⟩ hI; try dsimp only at hI)
  case' hI1 => try dsimp only
  · exact ⟨by omega, by omega, rfl, by omega, by omega⟩
  · obtain ⟨h1, h2, h3, h4, h5⟩ := hI
    by_cases hi : i < p.length
    · have hpi := hp.2.1 i.toNat (by omega)
      have hwo := allD_iff.1 ha i.toNat (by omega)
      have cA := ref02_Agrees_ret s hok (l[i.toNat]?.getD default) hwo i (p[i.toNat]?.getD 0) (by omega) (by omega)
      have hst : s.cst l (pathF p) (i + 1).toNat = n + s.cost l i (p[i.toNat]?.getD 0) := by
        rw [show (i + 1).toNat = i.toNat + 1 by omega, GServo.cst, ← h3, show ((i.toNat : Nat) : Int) = i by omega, pathF_eq]
      rw [servoD_eq, servoC_eq, pairD_eq] at cA
      have wn : IntKind.i64.wrap (n + 1) = n + 1 := wrapI _ (by omega)
      unfold GServo.cost at hst
      cases hb : s.agrees (l[i.toNat]?.getD default) i (p[i.toNat]?.getD 0) with
      | true =>
        rw [hb] at cA
        rw [hb, if_pos rfl] at hst
        (try (simp -implicitDefEqProofs only [go_sem, servoD_eq, servoC_eq, pairsD_len, onSome_pairs, pairsD_unif, pairD_eq])); repeat' first | with_reducible exact True.intro | with_reducible refine And.intro ?_ ?_ | with_reducible intro _ | (((with_reducible refine isCall ?_); first | refine call_b (cA) rfl ?_ ?_ | refine call_d (cA) rfl ?_ | refine call_sb (cA) rfl ?_ ?_ | refine call_s (cA) rfl rfl ?_) <;> try (simp -implicitDefEqProofs only [go_sem, servoD_eq, servoC_eq, pairsD_len, onSome_pairs, pairsD_unif, pairD_eq])) | (((with_reducible refine vc_b ?_ ?_) <;> intro _) <;> try (simp -implicitDefEqProofs only [go_sem, servoD_eq, servoC_eq, pairsD_len, onSome_pairs, pairsD_unif, pairD_eq])) | simp (disch := omega) only [wrapI, wrapU, shl1, shl1', shl1'', shrN, shrN', and_one] | ((with_reducible refine isEx2 ?_); refine ⟨(_, _), rfl, ?_, ?_⟩)
        all_goals first | omega | (simp; done) | (simp; omega) | skip
      | false =>
        rw [hb] at cA
        rw [hb, if_neg (by simp)] at hst
        (try (simp -implicitDefEqProofs only [go_sem, servoD_eq, servoC_eq, pairsD_len, onSome_pairs, pairsD_unif, pairD_eq, wn])); repeat' first | with_reducible exact True.intro | with_reducible refine And.intro ?_ ?_ | with_reducible intro _ | (((with_reducible refine isCall ?_); first | refine call_b (cA) rfl ?_ ?_ | refine call_d (cA) rfl ?_ | refine call_sb (cA) rfl ?_ ?_ | refine call_s (cA) rfl rfl ?_) <;> try (simp -implicitDefEqProofs only [go_sem, servoD_eq, servoC_eq, pairsD_len, onSome_pairs, pairsD_unif, pairD_eq, wn])) | (((with_reducible refine vc_b ?_ ?_) <;> intro _) <;> try (simp -implicitDefEqProofs only [go_sem, servoD_eq, servoC_eq, pairsD_len, onSome_pairs, pairsD_unif, pairD_eq, wn])) | simp (disch := omega) only [wrapI, wrapU, shl1, shl1', shl1'', shrN, shrN', and_one] | ((with_reducible refine isEx2 ?_); refine ⟨(_, _), rfl, ?_, ?_⟩)
        all_goals first | omega | (simp; done) | (simp; omega) | skip
    · have : i.toNat = p.length := by omega
      rw [this] at h3
      change n = s.misread l p at h3
      rw [← h3]
      (try (simp -implicitDefEqProofs only [go_sem])); repeat' first | with_reducible exact True.intro | with_reducible refine And.intro ?_ ?_ | with_reducible intro _ | (((with_reducible refine vc_b ?_ ?_) <;> intro _) <;> try (simp -implicitDefEqProofs only [go_sem])) | simp (disch := omega) only [wrapI, wrapU, shl1, shl1', shl1'', shrN, shrN', and_one] | ((with_reducible refine isEx2 ?_); refine ⟨(_, _), rfl, ?_, ?_⟩)
      all_goals first | omega | (simp; done) | (simp; omega) | skip

/-- A walk: a possible path, and how it goes on. -/
def GServo.at (s : GServo) (p q : List Int) (i : Nat) : Int := if i = 0 then p[p.length - 1]?.getD 0 else q[i - 1]?.getD 0
def GServo.PossP (s : GServo) (l : List Pair) (p q : List Int) : Prop := p.length ≤ 40 ∧ q.length ≤ 12 ∧ s.PathP l.length p ∧ s.misread l p ≤ s.wrong ∧ 0 < p.length ∧
  ∀ i : Nat, i < q.length → 0 ≤ q[i]?.getD 0 ∧ q[i]?.getD 0 ≤ s.last ∧ q[i]?.getD 0 - s.at p q i ≤ s.move ∧ s.at p q i - q[i]?.getD 0 ≤ s.move
theorem law02_possible_ret (s : GServo) (nl : Bool) (l : List Pair) (h : s.check l = 0) (np nq : Bool) (p q : List Int) (b : Bool) (hb : b = true ↔ s.PossP l p q) :
    Ret E0 F_law02_possible [servoD s, .list nl (pairsD l), .agg [.list np (ints p), .list nq (ints q)]] (.bool b) := by
  refine ret_of_pw dec_law02_possible mixed (by simp) fun hwf => ?_
  simp only [wf_int, wf_bool, wf_ints, wf_list, wf_agg, wf_ptr, wf_fn, wf_tup, wf_all_cons, wf_all_nil, wf_all_map, inK_i64, maxLen_eq, List.length_map, ints_len, true_and, and_true, pairsD_len, servoD_eq, servoC_eq] at hwf
  obtain ⟨hok, ha, h24⟩ := check_zero h
  have hd := GServo.ok_head hok
  have hlb := last_bound hok
  have hbad : ¬ s.PossP l p q → b = false := fun hn => by
    cases hbb : b with
    | false => rfl
    | true => exact absurd (hb.1 hbb) hn
  have c1 := ref02_Last_ret s hok
  rw [servoD_eq, servoC_eq] at c1
  rw [enter_eq]; unfold pc_law02_possible
  by_cases g1 : p.length ≤ 40
  · have g1' : ¬ (40 : Int) < p.length := by omega
    by_cases g2 : q.length ≤ 12
    · have g2' : ¬ (12 : Int) < q.length := by omega
      by_cases g3 : s.PathP l.length p
      · have c2 := ref02_IsPath_ret s hok nl l np p true ⟨fun _ => g3, fun _ => rfl⟩
        have c3 := ref02_Misread_ret s nl l h np p g3
        rw [servoD_eq, servoC_eq] at c2 c3
        by_cases g4 : s.misread l p ≤ s.wrong
        · have g4' : ¬ s.wrong < s.misread l p := by omega
          by_cases g5 : 0 < p.length
          · have g5' : ¬ (p.length : Int) = 0 := by omega
            have w1 : IntKind.i64.wrap ((p.length : Int) - 1) = (p.length : Int) - 1 := wrapI _ (by omega)
            have e1 : ((p.length : Int) - 1).toNat = p.length - 1 := by omega
            have hlst := g3.2.1 (p.length - 1) (by omega)
            obtain ⟨MR, hMR⟩ : ∃ MR, s.misread l p = MR := ⟨_, rfl⟩
            rw [hMR] at c3 g4'
            (try (simp -implicitDefEqProofs only [go_sem, servoD_eq, servoC_eq, g1', g2', g4', g5', w1, e1])); repeat' first | with_reducible exact True.intro | with_reducible refine And.intro ?_ ?_ | with_reducible intro _ | (((with_reducible refine isCall ?_); first | refine call_b (c2) rfl ?_ ?_ | refine call_d (c2) rfl ?_ | refine call_sb (c2) rfl ?_ ?_ | refine call_s (c2) rfl rfl ?_ | refine call_b (c3) rfl ?_ ?_ | refine call_d (c3) rfl ?_ | refine call_sb (c3) rfl ?_ ?_ | refine call_s (c3) rfl rfl ?_) <;> try (simp -implicitDefEqProofs only [go_sem, servoD_eq, servoC_eq, g1', g2', g4', g5', w1, e1])) | (((with_reducible refine vc_b ?_ ?_) <;> intro _) <;> try (simp -implicitDefEqProofs only [go_sem, servoD_eq, servoC_eq, g1', g2', g4', g5', w1, e1])) | simp (disch := omega) only [wrapI, wrapU, shl1, shl1', shl1'', shrN, shrN', and_one] | ((with_reducible refine isEx2 ?_); refine ⟨(_, _), rfl, ?_, ?_⟩)
            all_goals first | omega | (simp; done) | (simp; omega) | skip
            refine pw_loopS (α := Int × Int) (l0 := ?l2) (m0 := ?m2) (fun x => [(8, .d (.int .i64 x.1)), (7, .d (.int .i64 x.2))]) (fun x => []) (fun x => 0 ≤ x.1 ∧ x.1 ≤ q.length ∧ x.2 = s.at p q x.1.toNat ∧ (0 ≤ x.2 ∧ x.2 ≤ s.last) ∧ ∀ j : Nat, (j : Int) < x.1 → 0 ≤ q[j]?.getD 0 ∧ q[j]?.getD 0 ≤ s.last ∧ q[j]?.getD 0 - s.at p q j ≤ s.move ∧ s.at p q j - q[j]?.getD 0 ≤ s.move) (fun x => (q.length - x.1).toNat) (?a2_0, ?a2_1) ?h02 ?he2 ?he22 ?hI2 ?step2
            case h02 => (simp -implicitDefEqProofs only [go_sem, servoD_eq, servoC_eq, w1, e1]; rfl)
            case he2 => rfl
            case he22 => rfl
            case' step2 => (rintro ⟨i, at'⟩ hI; try dsimp only at hI)
            case' hI2 => try dsimp only
            · exact ⟨by omega, by omega, rfl, hlst, fun j hj => by omega⟩
            · obtain ⟨h1, h2, h3, h4, h5⟩ := hI
              by_cases hi : i < q.length
              · have hbi : ¬ (0 ≤ q[i.toNat]?.getD 0 ∧ q[i.toNat]?.getD 0 ≤ s.last ∧ q[i.toNat]?.getD 0 - s.at p q i.toNat ≤ s.move ∧ s.at p q i.toNat - q[i.toNat]?.getD 0 ≤ s.move) → b = false :=
                  fun hn => hbad fun hp => hn (hp.2.2.2.2.2 i.toNat (by omega))
                rw [← h3] at hbi
                have hnx : s.at p q (i + 1).toNat = q[i.toNat]?.getD 0 := by
                  unfold GServo.at; rw [if_neg (by omega), show (i + 1).toNat - 1 = i.toNat by omega]
                have hs5 : (0 ≤ q[i.toNat]?.getD 0 ∧ q[i.toNat]?.getD 0 ≤ s.last ∧ q[i.toNat]?.getD 0 - at' ≤ s.move ∧ at' - q[i.toNat]?.getD 0 ≤ s.move) → ∀ j : Nat, (j : Int) < i + 1 → 0 ≤ q[j]?.getD 0 ∧ q[j]?.getD 0 ≤ s.last ∧ q[j]?.getD 0 - s.at p q j ≤ s.move ∧ s.at p q j - q[j]?.getD 0 ≤ s.move := fun hgo j hj => by
                  rcases (show (j : Int) < i ∨ j = i.toNat by omega) with h | h
                  · exact h5 j h
                  · rw [h, ← h3]; exact hgo
                obtain ⟨Q, hQ⟩ : ∃ Q, q[i.toNat]?.getD 0 = Q := ⟨_, rfl⟩
                rw [hQ] at hbi hnx hs5
                by_cases k1 : Q < 0
                · rw [hbi (by omega)]
                  (try (simp -implicitDefEqProofs only [go_sem, servoD_eq, servoC_eq, hQ, k1])); repeat' first | with_reducible exact True.intro | with_reducible refine And.intro ?_ ?_ | with_reducible intro _ | (((with_reducible refine isCall ?_); first | refine call_b (c1) rfl ?_ ?_ | refine call_d (c1) rfl ?_ | refine call_sb (c1) rfl ?_ ?_ | refine call_s (c1) rfl rfl ?_) <;> try (simp -implicitDefEqProofs only [go_sem, servoD_eq, servoC_eq, hQ, k1])) | (((with_reducible refine vc_b ?_ ?_) <;> intro _) <;> try (simp -implicitDefEqProofs only [go_sem, servoD_eq, servoC_eq, hQ, k1])) | simp (disch := omega) only [wrapI, wrapU, shl1, shl1', shl1'', shrN, shrN', and_one] | ((with_reducible refine isEx2 ?_); refine ⟨(_, _), rfl, ?_, ?_⟩)
                  all_goals first | omega | (simp; done) | (simp; omega) | skip
                · by_cases k2 : s.last < Q
                  · rw [hbi (by omega)]
                    (try (simp -implicitDefEqProofs only [go_sem, servoD_eq, servoC_eq, hQ, k1, k2])); repeat' first | with_reducible exact True.intro | with_reducible refine And.intro ?_ ?_ | with_reducible intro _ | (((with_reducible refine isCall ?_); first | refine call_b (c1) rfl ?_ ?_ | refine call_d (c1) rfl ?_ | refine call_sb (c1) rfl ?_ ?_ | refine call_s (c1) rfl rfl ?_) <;> try (simp -implicitDefEqProofs only [go_sem, servoD_eq, servoC_eq, hQ, k1, k2])) | (((with_reducible refine vc_b ?_ ?_) <;> intro _) <;> try (simp -implicitDefEqProofs only [go_sem, servoD_eq, servoC_eq, hQ, k1, k2])) | simp (disch := omega) only [wrapI, wrapU, shl1, shl1', shl1'', shrN, shrN', and_one] | ((with_reducible refine isEx2 ?_); refine ⟨(_, _), rfl, ?_, ?_⟩)
                    all_goals first | omega | (simp; done) | (simp; omega) | skip
                  · have w2 : IntKind.i64.wrap (Q - at') = Q - at' := wrapI _ (by omega)
                    have w3 : IntKind.i64.wrap (at' - Q) = at' - Q := wrapI _ (by omega)
                    by_cases k3 : s.move < Q - at'
                    · rw [hbi (by omega)]
                      (try (simp -implicitDefEqProofs only [go_sem, servoD_eq, servoC_eq, hQ, k1, k2, w2, k3])); repeat' first | with_reducible exact True.intro | with_reducible refine And.intro ?_ ?_ | with_reducible intro _ | (((with_reducible refine isCall ?_); first | refine call_b (c1) rfl ?_ ?_ | refine call_d (c1) rfl ?_ | refine call_sb (c1) rfl ?_ ?_ | refine call_s (c1) rfl rfl ?_) <;> try (simp -implicitDefEqProofs only [go_sem, servoD_eq, servoC_eq, hQ, k1, k2, w2, k3])) | (((with_reducible refine vc_b ?_ ?_) <;> intro _) <;> try (simp -implicitDefEqProofs only [go_sem, servoD_eq, servoC_eq, hQ, k1, k2, w2, k3])) | simp (disch := omega) only [wrapI, wrapU, shl1, shl1', shl1'', shrN, shrN', and_one] | ((with_reducible refine isEx2 ?_); refine ⟨(_, _), rfl, ?_, ?_⟩)
                      all_goals first | omega | (simp; done) | (simp; omega) | skip
                    · by_cases k4 : s.move < at' - Q
                      · rw [hbi (by omega)]
                        (try (simp -implicitDefEqProofs only [go_sem, servoD_eq, servoC_eq, hQ, k1, k2, w2, w3, k3, k4])); repeat' first | with_reducible exact True.intro | with_reducible refine And.intro ?_ ?_ | with_reducible intro _ | (((with_reducible refine isCall ?_); first | refine call_b (c1) rfl ?_ ?_ | refine call_d (c1) rfl ?_ | refine call_sb (c1) rfl ?_ ?_ | refine call_s (c1) rfl rfl ?_) <;> try (simp -implicitDefEqProofs only [go_sem, servoD_eq, servoC_eq, hQ, k1, k2, w2, w3, k3, k4])) | (((with_reducible refine vc_b ?_ ?_) <;> intro _) <;> try (simp -implicitDefEqProofs only [go_sem, servoD_eq, servoC_eq, hQ, k1, k2, w2, w3, k3, k4])) | simp (disch := omega) only [wrapI, wrapU, shl1, shl1', shl1'', shrN, shrN', and_one] | ((with_reducible refine isEx2 ?_); refine ⟨(_, _), rfl, ?_, ?_⟩)
                        all_goals first | omega | (simp; done) | (simp; omega) | skip
                      · have hs6 := hs5 (by omega)
                        (try (simp -implicitDefEqProofs only [go_sem, servoD_eq, servoC_eq, hQ, k1, k2, w2, w3, k3, k4])); repeat' first | with_reducible exact True.intro | with_reducible refine And.intro ?_ ?_ | with_reducible intro _ | (((with_reducible refine isCall ?_); first | refine call_b (c1) rfl ?_ ?_ | refine call_d (c1) rfl ?_ | refine call_sb (c1) rfl ?_ ?_ | refine call_s (c1) rfl rfl ?_) <;> try (simp -implicitDefEqProofs only [go_sem, servoD_eq, servoC_eq, hQ, k1, k2, w2, w3, k3, k4])) | (((with_reducible refine vc_b ?_ ?_) <;> intro _) <;> try (simp -implicitDefEqProofs only [go_sem, servoD_eq, servoC_eq, hQ, k1, k2, w2, w3, k3, k4])) | simp (disch := omega) only [wrapI, wrapU, shl1, shl1', shl1'', shrN, shrN', and_one] | ((with_reducible refine isEx2 ?_); refine ⟨(_, _), rfl, ?_, ?_⟩)
                        all_goals first | omega | exact hnx.symm | exact (hs6 _ (by assumption)).1 | (refine (hs6 _ ?_).1; assumption) | (refine (hs6 _ ?_).2.1; assumption) | (refine (hs6 _ ?_).2.2.1; assumption) | (refine (hs6 _ ?_).2.2.2; assumption) | skip
              · have hbt : b = true := hb.2 ⟨g1, g2, g3, by omega, g5, fun j hj => h5 j (by omega)⟩
                rw [hbt]
                (try (simp -implicitDefEqProofs only [go_sem, servoD_eq, servoC_eq])); repeat' first | with_reducible exact True.intro | with_reducible refine And.intro ?_ ?_ | with_reducible intro _ | (((with_reducible refine vc_b ?_ ?_) <;> intro _) <;> try (simp -implicitDefEqProofs only [go_sem, servoD_eq, servoC_eq])) | simp (disch := omega) only [wrapI, wrapU, shl1, shl1', shl1'', shrN, shrN', and_one] | ((with_reducible refine isEx2 ?_); refine ⟨(_, _), rfl, ?_, ?_⟩)
                all_goals first | omega | (simp; done) | (simp; omega) | skip
          · have g5' : (p.length : Int) = 0 := by omega
            rw [hbad fun hp => g5 hp.2.2.2.2.1]
            (try (simp -implicitDefEqProofs only [go_sem, servoD_eq, servoC_eq, g1', g2', g4', g5'])); repeat' first | with_reducible exact True.intro | with_reducible refine And.intro ?_ ?_ | with_reducible intro _ | (((with_reducible refine isCall ?_); first | refine call_b (c2) rfl ?_ ?_ | refine call_d (c2) rfl ?_ | refine call_sb (c2) rfl ?_ ?_ | refine call_s (c2) rfl rfl ?_ | refine call_b (c3) rfl ?_ ?_ | refine call_d (c3) rfl ?_ | refine call_sb (c3) rfl ?_ ?_ | refine call_s (c3) rfl rfl ?_) <;> try (simp -implicitDefEqProofs only [go_sem, servoD_eq, servoC_eq, g1', g2', g4', g5'])) | (((with_reducible refine vc_b ?_ ?_) <;> intro _) <;> try (simp -implicitDefEqProofs only [go_sem, servoD_eq, servoC_eq, g1', g2', g4', g5'])) | simp (disch := omega) only [wrapI, wrapU, shl1, shl1', shl1'', shrN, shrN', and_one] | ((with_reducible refine isEx2 ?_); refine ⟨(_, _), rfl, ?_, ?_⟩)
            all_goals first | omega | (simp; done) | (simp; omega) | skip
        · have g4' : s.wrong < s.misread l p := by omega
          rw [hbad fun hp => g4 hp.2.2.2.1]
          (try (simp -implicitDefEqProofs only [go_sem, servoD_eq, servoC_eq, g1', g2', g4'])); repeat' first | with_reducible exact True.intro | with_reducible refine And.intro ?_ ?_ | with_reducible intro _ | (((with_reducible refine isCall ?_); first | refine call_b (c2) rfl ?_ ?_ | refine call_d (c2) rfl ?_ | refine call_sb (c2) rfl ?_ ?_ | refine call_s (c2) rfl rfl ?_ | refine call_b (c3) rfl ?_ ?_ | refine call_d (c3) rfl ?_ | refine call_sb (c3) rfl ?_ ?_ | refine call_s (c3) rfl rfl ?_) <;> try (simp -implicitDefEqProofs only [go_sem, servoD_eq, servoC_eq, g1', g2', g4'])) | (((with_reducible refine vc_b ?_ ?_) <;> intro _) <;> try (simp -implicitDefEqProofs only [go_sem, servoD_eq, servoC_eq, g1', g2', g4'])) | simp (disch := omega) only [wrapI, wrapU, shl1, shl1', shl1'', shrN, shrN', and_one] | ((with_reducible refine isEx2 ?_); refine ⟨(_, _), rfl, ?_, ?_⟩)
          all_goals first | omega | (simp; done) | (simp; omega) | skip
      · have c2 := ref02_IsPath_ret s hok nl l np p false ⟨fun h => Bool.noConfusion h, fun h => absurd h g3⟩
        rw [servoD_eq, servoC_eq] at c2
        rw [hbad fun hp => g3 hp.2.2.1]
        (try (simp -implicitDefEqProofs only [go_sem, servoD_eq, servoC_eq, g1', g2'])); repeat' first | with_reducible exact True.intro | with_reducible refine And.intro ?_ ?_ | with_reducible intro _ | (((with_reducible refine isCall ?_); first | refine call_b (c2) rfl ?_ ?_ | refine call_d (c2) rfl ?_ | refine call_sb (c2) rfl ?_ ?_ | refine call_s (c2) rfl rfl ?_) <;> try (simp -implicitDefEqProofs only [go_sem, servoD_eq, servoC_eq, g1', g2'])) | (((with_reducible refine vc_b ?_ ?_) <;> intro _) <;> try (simp -implicitDefEqProofs only [go_sem, servoD_eq, servoC_eq, g1', g2'])) | simp (disch := omega) only [wrapI, wrapU, shl1, shl1', shl1'', shrN, shrN', and_one] | ((with_reducible refine isEx2 ?_); refine ⟨(_, _), rfl, ?_, ?_⟩)
        all_goals first | omega | (simp; done) | (simp; omega) | skip
    · have g2' : (12 : Int) < q.length := by omega
      rw [hbad fun hp => g2 hp.2.1]
      (try (simp -implicitDefEqProofs only [go_sem, servoD_eq, servoC_eq, g1', g2'])); repeat' first | with_reducible exact True.intro | with_reducible refine And.intro ?_ ?_ | with_reducible intro _ | (((with_reducible refine vc_b ?_ ?_) <;> intro _) <;> try (simp -implicitDefEqProofs only [go_sem, servoD_eq, servoC_eq, g1', g2'])) | simp (disch := omega) only [wrapI, wrapU, shl1, shl1', shl1'', shrN, shrN', and_one] | ((with_reducible refine isEx2 ?_); refine ⟨(_, _), rfl, ?_, ?_⟩)
      all_goals first | omega | (simp; done) | (simp; omega) | skip
  · have g1' : (40 : Int) < p.length := by omega
    rw [hbad fun hp => g1 hp.1]
    (try (simp -implicitDefEqProofs only [go_sem, servoD_eq, servoC_eq, g1'])); repeat' first | with_reducible exact True.intro | with_reducible refine And.intro ?_ ?_ | with_reducible intro _ | (((with_reducible refine vc_b ?_ ?_) <;> intro _) <;> try (simp -implicitDefEqProofs only [go_sem, servoD_eq, servoC_eq, g1'])) | simp (disch := omega) only [wrapI, wrapU, shl1, shl1', shl1'', shrN, shrN', and_one] | ((with_reducible refine isEx2 ?_); refine ⟨(_, _), rfl, ?_, ?_⟩)
    all_goals first | omega | (simp; done) | (simp; omega) | skip
end Go.Pw
