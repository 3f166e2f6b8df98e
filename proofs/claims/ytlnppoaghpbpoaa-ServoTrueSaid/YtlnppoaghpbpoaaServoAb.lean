/- A part of the proof. -/
import Derived.Test.YtlnppoaghpbpoaaServoAa
set_option linter.all false
open Go Go.Pw Go.Proofs
namespace Go.Pw
set_option linter.unusedSimpArgs false
set_option linter.unusedVariables false
set_option maxRecDepth 100000
set_option maxHeartbeats 1600000
attribute [local congr] cg_pw cg_seqI cg_seqE cg_stepI cg_ev cg_evBin cg_condB cg_condV cg_thenQ cg_blockQ cg_onSome cg_onCells cg_onRow cg_onMap cg_onOpt cg_ghosts cg_ghost cg_evCall cg_part cg_rng cg_guardV cg_frzV cg_frpV cg_ownV cg_owcV cg_occV cg_occX cg_resK cg_res1
attribute [local irreducible] IntKind.wrap bitsOp Option.getD and or

/-- Some possible path agrees with wedge i at p. -/
def GServo.goodAt (s : GServo) (l : List Pair) (i p : Nat) : Bool := decide (s.cost l i p = 0) && decide ((s.pre l (i + 1))[p]?.getD 0 + (s.bk l (l.length - 1 - i))[p]?.getD 0 ≤ s.wrong)
def GServo.good (s : GServo) (l : List Pair) (i : Nat) : Bool := (List.range s.zero.length).any (s.goodAt l i)
def GServo.blameK (s : GServo) (l : List Pair) (k : Nat) : List Int := ((List.range k).filter fun i => !s.good l i).map fun i : Nat => (i : Int)
def GServo.blame (s : GServo) (l : List Pair) : List Int × Int := if s.known l true = 0 then (s.blameK l l.length, 0) else ([], s.known l true)
theorem blameK_succ (s : GServo) (l : List Pair) (k : Nat) : s.blameK l (k + 1) = if s.good l k then s.blameK l k else s.blameK l k ++ [(k : Int)] := by
  unfold GServo.blameK
  rw [List.range_succ, List.filter_append, List.map_append]
  cases h : s.good l k <;> simp [h]
theorem blameK_len (s : GServo) (l : List Pair) (k : Nat) : (s.blameK l k).length ≤ k := by
  unfold GServo.blameK
  rw [List.length_map]
  have := List.length_filter_le (fun i => !s.good l i) (List.range k)
  simpa using this
theorem good_of {s : GServo} {l : List Pair} {i p : Nat} (hp : p < s.zero.length) (h : s.goodAt l i p = true) : s.good l i = true := by
  unfold GServo.good; rw [List.any_eq_true]; exact ⟨p, by simpa using hp, h⟩
theorem good_not {s : GServo} {l : List Pair} {i : Nat} (h : ∀ p : Nat, p < s.zero.length → s.goodAt l i p = false) : s.good l i = false := by
  unfold GServo.good; rw [List.any_eq_false]; intro p hp; rw [h p (by simpa using hp)]; simp
theorem backL_get (s : GServo) (l : List Pair) {i : Nat} (h : i < l.length) : (s.backL l)[i]?.getD default = s.bk l (l.length - 1 - i) := by simp [GServo.backL, h]
theorem backL_len (s : GServo) (l : List Pair) : (s.backL l).length = l.length := by simp [GServo.backL]

theorem servo_Blame_ret (s : GServo) (nl : Bool) (l : List Pair) :
    Ret E0 F_servo_Blame [servoD s, .list nl (pairsD l)] (.tup [.list (s.blame l).1.isEmpty (ints (s.blame l).1), .int .i64 (s.blame l).2]) := by
  refine ret_of_pw dec_servo_Blame mixed (by simp) fun hwf => ?_
  rw [enter_eq]; unfold pc_servo_Blame
  by_cases hk : s.known l true = 0
  · obtain ⟨hc, ht, hm⟩ := known_zero hk
    obtain ⟨hok, ha, h24⟩ := check_zero hc
    have hd := GServo.ok_head hok
    have hlb := last_bound hok
    have hz := zero_len hok
    have hg : s.blame l = (s.blameK l l.length, 0) := by simp [GServo.blame, hk]
    rw [hg]
    have c1 := servo_known_ok s nl l _ hk
    rw [servoD_eq, servoC_eq] at c1
    have c2 := servo_forth_ret s hok nl l ha h24
    have c3 := servo_back_ret s hok nl l ha h24
    have cc := servo_costs_ret s hok nl l ha h24
    have hfl := forthL_len s l l.length
    have hbl := backL_len s l
    have hfg := fun i h => forthL_get s l (k := l.length) (i := i) h
    have hbg := fun i h => backL_get s l (i := i) h
    have hpl := pre_len s l
    have hbkl := bk_len s l
    have hpb := pre_bound hok l
    have hbb := bk_bound hok l
    generalize s.forthL l l.length = FO at *
    generalize s.backL l = BA at *
    (try (simp -implicitDefEqProofs only [go_sem, servoD_eq, servoC_eq, pairsD_len])); repeat' first | with_reducible exact True.intro | with_reducible refine And.intro ?_ ?_ | with_reducible intro _ | (((with_reducible refine isCall ?_); first | refine call_b (c1) rfl ?_ ?_ | refine call_d (c1) rfl ?_ | refine call_sb (c1) rfl ?_ ?_ | refine call_s (c1) rfl rfl ?_ | refine call_b (c2) rfl ?_ ?_ | refine call_d (c2) rfl ?_ | refine call_sb (c2) rfl ?_ ?_ | refine call_s (c2) rfl rfl ?_ | refine call_b (c3) rfl ?_ ?_ | refine call_d (c3) rfl ?_ | refine call_sb (c3) rfl ?_ ?_ | refine call_s (c3) rfl rfl ?_) <;> try (simp -implicitDefEqProofs only [go_sem, servoD_eq, servoC_eq, pairsD_len])) | (((with_reducible refine vc_b ?_ ?_) <;> intro _) <;> try (simp -implicitDefEqProofs only [go_sem, servoD_eq, servoC_eq, pairsD_len])) | simp (disch := omega) only [wrapI, wrapU, shl1, shl1', shl1'', shrN, shrN', and_one] | ((with_reducible refine isEx3 ?_); refine ⟨(_, _, _), rfl, ?_, ?_⟩) | ((with_reducible refine isEx ?_); refine ⟨_, rfl, ?_, ?_⟩)
    all_goals first | omega | (simp; done) | (simp; omega) | skip
    refine pw_loopS (α := Int × (List Int) × Bool) (l0 := ?l1) (m0 := ?m1) (fun x => [(29, .d (.int .i64 x.1))]) (fun x => [(68, .row T_int 1 x.2.2 (ints x.2.1))]) (fun x => 0 ≤ x.1 ∧ x.1 ≤ l.length ∧ x.2.1 = s.blameK l x.1.toNat ∧ x.2.2 = x.2.1.isEmpty) (fun x => (l.length - x.1).toNat) (?a1_0, [], true) ?h01 ?he1 ?he21 ?hI1 ?step1
    case h01 => (simp -implicitDefEqProofs only [go_sem, servoD_eq, servoC_eq, pairsD_len]; rfl)
    case he1 => rfl
    case he21 => rfl
    case' step1 => (rintro ⟨i, out, b⟩ hI; try dsimp only at hI)
    case' hI1 => try dsimp only
    · exact ⟨by omega, by omega, rfl, rfl⟩
    · obtain ⟨h1, h2, h3, h4⟩ := hI
      by_cases hi : i < l.length
      · have hlen := blameK_len s l i.toNat
        rw [← h3] at hlen
        have hnx := blameK_succ s l i.toNat
        rw [← h3, show i.toNat + 1 = (i + 1).toNat by omega, show ((i.toNat : Nat) : Int) = i by omega] at hnx
        have fg := hfg i.toNat (by omega)
        have bg := hbg i.toNat (by omega)
        have pl := hpl (i.toNat + 1)
        have bkl := hbkl (l.length - 1 - i.toNat)
        have pb := hpb (i.toNat + 1)
        have bb := hbb (l.length - 1 - i.toNat)
        have hga : ∀ p : Nat, s.goodAt l i.toNat p = (decide (s.cost l i p = 0) && decide ((s.pre l (i.toNat + 1))[p]?.getD 0 + (s.bk l (l.length - 1 - i.toNat))[p]?.getD 0 ≤ s.wrong)) := fun p => by
          unfold GServo.goodAt; rw [show ((i.toNat : Nat) : Int) = i by omega]
        generalize s.pre l (i.toNat + 1) = FR at *
        generalize s.bk l (l.length - 1 - i.toNat) = BR at *
        (try (simp -implicitDefEqProofs only [go_sem, servoD_eq, servoC_eq, pairsD_len, rwsD_len, rwsD_unif, onSome_rws, fg, bg, rwD_eq, hfl, hbl])); repeat' first | with_reducible exact True.intro | with_reducible refine And.intro ?_ ?_ | with_reducible intro _ | (((with_reducible refine vc_b ?_ ?_) <;> intro _) <;> try (simp -implicitDefEqProofs only [go_sem, servoD_eq, servoC_eq, pairsD_len, rwsD_len, rwsD_unif, onSome_rws, fg, bg, rwD_eq, hfl, hbl])) | simp (disch := omega) only [wrapI, wrapU, shl1, shl1', shl1'', shrN, shrN', and_one] | ((with_reducible refine isEx3 ?_); refine ⟨(_, _, _), rfl, ?_, ?_⟩) | ((with_reducible refine isEx ?_); refine ⟨_, rfl, ?_, ?_⟩)
        all_goals first | omega | (simp; done) | (simp; omega) | skip
        refine pw_loopS (α := Int) (l0 := ?l2) (m0 := ?m2) (fun x => [(37, .d (.int .i64 x))]) (fun x => []) (fun x => 0 ≤ x ∧ x ≤ FR.length ∧ ∀ j : Nat, (j : Int) < x → s.goodAt l i.toNat j = false) (fun x => (FR.length - x).toNat) ?a2_0 ?h02 ?he2 ?he22 ?hI2 ?step2
        case h02 => (simp -implicitDefEqProofs only [go_sem, servoD_eq, servoC_eq, pairsD_len, rwsD_len, rwsD_unif, onSome_rws, fg, bg, rwD_eq, hfl, hbl]; rfl)
        case he2 => rfl
        case he22 => rfl
        case' step2 => (rintro p hI2; try dsimp only at hI2)
        case' hI2 => try dsimp only
        · exact ⟨by omega, by omega, fun j hj => by omega⟩
        · obtain ⟨p1, p2, p3⟩ := hI2
          by_cases hp : p < FR.length
          · have ccp := cc i p ⟨h1, hi⟩ (by omega)
            rw [show (if s.agrees (l[i.toNat]?.getD default) i p = true then (0 : Int) else 1) = s.cost l i p from rfl] at ccp
            have hgp := hga p.toNat
            rw [show ((p.toNat : Nat) : Int) = p by omega] at hgp
            have b1 := pb p.toNat (by omega)
            have b2 := bb p.toNat (by omega)
            have hs3 : s.goodAt l i.toNat p.toNat = false → ∀ j : Nat, (j : Int) < p + 1 → s.goodAt l i.toNat j = false := fun hgo j hj => by
              rcases (show (j : Int) < p ∨ j = p.toNat by omega) with h | h
              · exact p3 j h
              · rw [h]; exact hgo
            have hgood : s.goodAt l i.toNat p.toNat = true → s.good l i.toNat = true := fun h => good_of (p := p.toNat) (by omega) h
            rw [headC_eq] at ccp
            generalize s.cost l i p = C at *
            by_cases k1 : C = 0
            · subst k1
              have w1 : IntKind.i64.wrap (FR[p.toNat]?.getD 0 + BR[p.toNat]?.getD 0) = FR[p.toNat]?.getD 0 + BR[p.toNat]?.getD 0 := wrapI _ (by omega)
              by_cases k2 : FR[p.toNat]?.getD 0 + BR[p.toNat]?.getD 0 ≤ s.wrong
              · have hgt := hgood (by rw [hgp]; simp [k2])
                rw [hgt, if_pos rfl] at hnx
                (try (simp -implicitDefEqProofs only [go_sem, headC_eq, servoD_eq, servoC_eq, pairsD_len, rwsD_len, rwsD_unif, onSome_rws, bg, rwD_eq, hbl, w1, k2, bkl, pl])); repeat' first | with_reducible exact True.intro | with_reducible refine And.intro ?_ ?_ | with_reducible intro _ | (((with_reducible refine isCall ?_); first | refine call_b (ccp) rfl ?_ ?_ | refine call_d (ccp) rfl ?_ | refine call_sb (ccp) rfl ?_ ?_ | refine call_s (ccp) rfl rfl ?_) <;> try (simp -implicitDefEqProofs only [go_sem, headC_eq, servoD_eq, servoC_eq, pairsD_len, rwsD_len, rwsD_unif, onSome_rws, bg, rwD_eq, hbl, w1, k2, bkl, pl])) | (((with_reducible refine vc_b ?_ ?_) <;> intro _) <;> try (simp -implicitDefEqProofs only [go_sem, headC_eq, servoD_eq, servoC_eq, pairsD_len, rwsD_len, rwsD_unif, onSome_rws, bg, rwD_eq, hbl, w1, k2, bkl, pl])) | simp (disch := omega) only [wrapI, wrapU, shl1, shl1', shl1'', shrN, shrN', and_one] | ((with_reducible refine isEx3 ?_); refine ⟨(_, _, _), rfl, ?_, ?_⟩) | ((with_reducible refine isEx ?_); refine ⟨_, rfl, ?_, ?_⟩)
                all_goals first | omega | exact hnx.symm | exact h4 | skip
              · have hs4 := hs3 (by rw [hgp]; simp [k2])
                (try (simp -implicitDefEqProofs only [go_sem, headC_eq, servoD_eq, servoC_eq, pairsD_len, rwsD_len, rwsD_unif, onSome_rws, bg, rwD_eq, hbl, w1, k2, bkl, pl])); repeat' first | with_reducible exact True.intro | with_reducible refine And.intro ?_ ?_ | with_reducible intro _ | (((with_reducible refine isCall ?_); first | refine call_b (ccp) rfl ?_ ?_ | refine call_d (ccp) rfl ?_ | refine call_sb (ccp) rfl ?_ ?_ | refine call_s (ccp) rfl rfl ?_) <;> try (simp -implicitDefEqProofs only [go_sem, headC_eq, servoD_eq, servoC_eq, pairsD_len, rwsD_len, rwsD_unif, onSome_rws, bg, rwD_eq, hbl, w1, k2, bkl, pl])) | (((with_reducible refine vc_b ?_ ?_) <;> intro _) <;> try (simp -implicitDefEqProofs only [go_sem, headC_eq, servoD_eq, servoC_eq, pairsD_len, rwsD_len, rwsD_unif, onSome_rws, bg, rwD_eq, hbl, w1, k2, bkl, pl])) | simp (disch := omega) only [wrapI, wrapU, shl1, shl1', shl1'', shrN, shrN', and_one] | ((with_reducible refine isEx3 ?_); refine ⟨(_, _, _), rfl, ?_, ?_⟩) | ((with_reducible refine isEx ?_); refine ⟨_, rfl, ?_, ?_⟩)
                all_goals first | omega | (apply hs4; assumption) | skip
            · have hs4 := hs3 (by rw [hgp]; simp [k1])
              (try (simp -implicitDefEqProofs only [go_sem, headC_eq, servoD_eq, servoC_eq, pairsD_len, rwsD_len, rwsD_unif, onSome_rws, bg, rwD_eq, hbl, k1, bkl, pl])); repeat' first | with_reducible exact True.intro | with_reducible refine And.intro ?_ ?_ | with_reducible intro _ | (((with_reducible refine isCall ?_); first | refine call_b (ccp) rfl ?_ ?_ | refine call_d (ccp) rfl ?_ | refine call_sb (ccp) rfl ?_ ?_ | refine call_s (ccp) rfl rfl ?_) <;> try (simp -implicitDefEqProofs only [go_sem, headC_eq, servoD_eq, servoC_eq, pairsD_len, rwsD_len, rwsD_unif, onSome_rws, bg, rwD_eq, hbl, k1, bkl, pl])) | (((with_reducible refine vc_b ?_ ?_) <;> intro _) <;> try (simp -implicitDefEqProofs only [go_sem, headC_eq, servoD_eq, servoC_eq, pairsD_len, rwsD_len, rwsD_unif, onSome_rws, bg, rwD_eq, hbl, k1, bkl, pl])) | simp (disch := omega) only [wrapI, wrapU, shl1, shl1', shl1'', shrN, shrN', and_one] | ((with_reducible refine isEx3 ?_); refine ⟨(_, _, _), rfl, ?_, ?_⟩) | ((with_reducible refine isEx ?_); refine ⟨_, rfl, ?_, ?_⟩)
              all_goals first | omega | (apply hs4; assumption) | skip
          · have hgf : s.good l i.toNat = false := good_not fun j hj => p3 j (by omega)
            rw [hgf, if_neg (by simp)] at hnx
            (try (simp -implicitDefEqProofs only [go_sem, servoD_eq, servoC_eq, pairsD_len])); repeat' first | with_reducible exact True.intro | with_reducible refine And.intro ?_ ?_ | with_reducible intro _ | (((with_reducible refine vc_b ?_ ?_) <;> intro _) <;> try (simp -implicitDefEqProofs only [go_sem, servoD_eq, servoC_eq, pairsD_len])) | simp (disch := omega) only [wrapI, wrapU, shl1, shl1', shl1'', shrN, shrN', and_one] | ((with_reducible refine isEx3 ?_); refine ⟨(_, _, _), rfl, ?_, ?_⟩) | ((with_reducible refine isEx ?_); refine ⟨_, rfl, ?_, ?_⟩)
            all_goals first | omega | exact hnx.symm | exact (isEmpty_snoc _ _).symm | skip
      · have : i.toNat = l.length := by omega
        rw [this] at h3
        rw [← h3, ← h4]
        (try (simp -implicitDefEqProofs only [go_sem, servoD_eq, servoC_eq, pairsD_len])); repeat' first | with_reducible exact True.intro | with_reducible refine And.intro ?_ ?_ | with_reducible intro _ | (((with_reducible refine vc_b ?_ ?_) <;> intro _) <;> try (simp -implicitDefEqProofs only [go_sem, servoD_eq, servoC_eq, pairsD_len])) | simp (disch := omega) only [wrapI, wrapU, shl1, shl1', shl1'', shrN, shrN', and_one] | ((with_reducible refine isEx3 ?_); refine ⟨(_, _, _), rfl, ?_, ?_⟩) | ((with_reducible refine isEx ?_); refine ⟨_, rfl, ?_, ?_⟩)
        all_goals first | omega | (simp; done) | (simp; omega) | skip
  · have hg : s.blame l = ([], s.known l true) := by simp [GServo.blame, hk]
    rw [hg]
    have c1 := servo_known_bad s nl l _ hk
    rw [servoD_eq, servoC_eq] at c1
    (try (simp -implicitDefEqProofs only [go_sem, servoD_eq, servoC_eq, hk])); repeat' first | with_reducible exact True.intro | with_reducible refine And.intro ?_ ?_ | with_reducible intro _ | (((with_reducible refine isCall ?_); first | refine call_b (c1) rfl ?_ ?_ | refine call_d (c1) rfl ?_ | refine call_sb (c1) rfl ?_ ?_ | refine call_s (c1) rfl rfl ?_) <;> try (simp -implicitDefEqProofs only [go_sem, servoD_eq, servoC_eq, hk])) | (((with_reducible refine vc_b ?_ ?_) <;> intro _) <;> try (simp -implicitDefEqProofs only [go_sem, servoD_eq, servoC_eq, hk])) | simp (disch := omega) only [wrapI, wrapU, shl1, shl1', shl1'', shrN, shrN', and_one] | ((with_reducible refine isEx3 ?_); refine ⟨(_, _, _), rfl, ?_, ?_⟩) | ((with_reducible refine isEx ?_); refine ⟨_, rfl, ?_, ?_⟩)
    all_goals first | omega | (simp; done) | (simp; omega) | skip
end Go.Pw
