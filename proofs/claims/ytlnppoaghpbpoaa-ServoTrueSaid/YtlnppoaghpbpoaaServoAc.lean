/- A part of the proof. -/
import Derived.Test.YtlnppoaghpbpoaaServoN
import Derived.Test.YtlnppoaghpbpoaaServoU
set_option linter.all false
open Go Go.Pw Go.Proofs
namespace Go.Pw
set_option linter.unusedSimpArgs false
set_option linter.unusedVariables false
set_option maxRecDepth 100000
set_option maxHeartbeats 1600000

def idxN (v : Int) : List Int → Nat
  | [] => 0
  | x :: l => if x = v then 0 else idxN v l + 1
theorem idxN_spec {v : Int} {l : List Int} (h : v ∈ l) : idxN v l < l.length ∧ l[idxN v l]?.getD 0 = v ∧ ∀ j : Nat, j < idxN v l → ¬ l[j]?.getD 0 = v := by
  induction l with
  | nil => cases h
  | cons x l ih =>
    simp only [idxN]
    by_cases hx : x = v
    · rw [if_pos hx]; exact ⟨by simp, by simpa using hx, fun j hj => by omega⟩
    · rw [if_neg hx]
      rcases List.mem_cons.1 h with rfl | hm
      · exact absurd rfl hx
      · obtain ⟨h1, h2, h3⟩ := ih hm
        refine ⟨by simpa using h1, by simpa using h2, fun j hj => ?_⟩
        cases j with
        | zero => simpa using hx
        | succ j => simpa using h3 j (by omega)

/-- The cheapest position of the window, the first one. -/
def winL (m : Int) (r : List Int) (p : Int) : List Int := (r.drop (max 0 (p - m)).toNat).take ((min ((r.length : Int) - 1) (p + m) + 1).toNat - (max 0 (p - m)).toNat)
def prevP (m : Int) (r : List Int) (p : Int) : Int := max 0 (p - m) + idxN (minL (winL m r p)) (winL m r p)
theorem winL_len {m : Int} {r : List Int} {p : Int} (hm : 0 ≤ m) (h0 : 0 ≤ p) (h1 : p < r.length) : 1 ≤ (winL m r p).length := by
  simp only [winL, List.length_take, List.length_drop]; omega
theorem winL_get {m : Int} {r : List Int} {p : Int} {j : Nat} (hj : j < (winL m r p).length) : (winL m r p)[j]?.getD 0 = r[(max 0 (p - m)).toNat + j]?.getD 0 := by
  have hj' := hj
  simp only [winL, List.length_take, List.length_drop] at hj'
  unfold winL
  rw [List.getElem?_take, if_pos (by omega), List.getElem?_drop]
theorem win_near {m : Int} {r : List Int} {p : Int} (h0 : 0 ≤ p) : minL (winL m r p) = nearAt m r p.toNat := by
  unfold winL nearAt
  rw [show ((p.toNat : Nat) : Int) = p by omega, show min ((r.length : Int) - 1) (p + m) + 1 = min (r.length : Int) (p + m + 1) by omega]
theorem prevP_spec {m : Int} {r : List Int} {p : Int} (hm : 0 ≤ m) (h0 : 0 ≤ p) (h1 : p < r.length) :
    (0 ≤ prevP m r p ∧ prevP m r p < r.length) ∧ p - prevP m r p ≤ m ∧ prevP m r p - p ≤ m ∧ r[(prevP m r p).toNat]?.getD 0 = nearAt m r p.toNat := by
  have hl := winL_len hm h0 h1
  obtain ⟨i1, i2, _⟩ := idxN_spec (minL_spec hl).1
  have hb := i1
  rw [winL_get i1] at i2
  have e : prevP m r p = max 0 (p - m) + idxN (minL (winL m r p)) (winL m r p) := rfl
  generalize idxN (minL (winL m r p)) (winL m r p) = k at *
  simp only [winL, List.length_take, List.length_drop] at hb
  refine ⟨⟨by omega, by omega⟩, by omega, by omega, ?_⟩
  rw [← win_near h0, ← i2, e, show (max 0 (p - m) + (k : Int)).toNat = (max 0 (p - m)).toNat + k by omega]

/-- The path, from its end on. -/
def GServo.tr (s : GServo) (l : List Pair) (pos : Int) : Nat → Int
  | 0 => pos
  | k + 1 => prevP s.move (s.pre l (l.length - 1 - k)) (s.tr l pos k)
def GServo.path (s : GServo) (l : List Pair) (pos : Int) : List Int := (List.range l.length).map fun i => s.tr l pos (l.length - 1 - i)
theorem tr_bound {s : GServo} (h : s.ok = true) (l : List Pair) {pos : Int} (hp : 0 ≤ pos ∧ pos ≤ s.last) : ∀ k, 0 ≤ s.tr l pos k ∧ s.tr l pos k ≤ s.last
  | 0 => hp
  | k + 1 => by
    have hz := zero_len h
    have ih := tr_bound h l hp k
    have := (prevP_spec (m := s.move) (r := s.pre l (l.length - 1 - k)) (p := s.tr l pos k) (by have := GServo.ok_head h; omega) ih.1 (by rw [pre_len]; omega)).1
    rw [pre_len] at this
    simp only [GServo.tr]; omega
theorem path_get (s : GServo) (l : List Pair) (pos : Int) {i : Nat} (h : i < l.length) : (s.path l pos)[i]?.getD 0 = s.tr l pos (l.length - 1 - i) := by simp [GServo.path, h]
theorem path_len (s : GServo) (l : List Pair) (pos : Int) : (s.path l pos).length = l.length := by simp [GServo.path]
theorem path_path {s : GServo} (h : s.ok = true) (l : List Pair) {pos : Int} (hp : 0 ≤ pos ∧ pos ≤ s.last) : s.PathP l.length (s.path l pos) := by
  have hd := GServo.ok_head h
  have hz := zero_len h
  refine ⟨path_len s l pos, fun j hj => ?_, fun j hj => ?_⟩
  · rw [path_len] at hj
    rw [path_get s l pos hj]; exact tr_bound h l hp _
  · rw [path_len] at hj
    rw [path_get s l pos hj, path_get s l pos (show j < l.length by omega), show l.length - 1 - j = (l.length - 1 - (j + 1)) + 1 by omega]
    have ih := tr_bound h l hp (l.length - 1 - (j + 1))
    obtain ⟨_, a, b, _⟩ := prevP_spec (m := s.move) (r := s.pre l (l.length - 1 - (l.length - 1 - (j + 1)))) (p := s.tr l pos (l.length - 1 - (j + 1))) (by omega) ih.1 (by rw [pre_len]; omega)
    simp only [GServo.tr]
    exact ⟨a, b⟩
theorem path_cost {s : GServo} (h : s.ok = true) (l : List Pair) {pos : Int} (hp : 0 ≤ pos ∧ pos ≤ s.last) : ∀ i, i < l.length → s.cst l (pathF (s.path l pos)) (i + 1) = (s.pre l (i + 1))[(s.tr l pos (l.length - 1 - i)).toNat]?.getD 0
  | 0, hi => by
    have hz := zero_len h
    have hb := tr_bound h l hp (l.length - 1 - 0)
    rw [pre_succ, addC_get _ _ _ _ (by rw [base_len]; omega)]
    simp only [GServo.cst, GServo.base, if_pos, pathF_eq]
    rw [zero_get s (by omega), path_get s l pos hi, show ((s.tr l pos (l.length - 1 - 0)).toNat : Int) = s.tr l pos (l.length - 1 - 0) by omega]
  | i + 1, hi => by
    have hd := GServo.ok_head h
    have hz := zero_len h
    have ih := path_cost h l hp i (by omega)
    have hb := tr_bound h l hp (l.length - 1 - (i + 1))
    have hbs : s.base l (i + 1) = nearL s.move (s.pre l (i + 1)) := by rw [GServo.base, if_neg (by omega)]
    rw [GServo.cst, ih, pre_succ s l (i + 1), addC_get _ _ _ _ (by rw [base_len]; omega), hbs, nearL_get (by rw [pre_len]; omega), pathF_eq, path_get s l pos hi]
    obtain ⟨_, _, _, e⟩ := prevP_spec (m := s.move) (r := s.pre l (i + 1)) (p := s.tr l pos (l.length - 1 - (i + 1))) (by omega) hb.1 (by rw [pre_len]; omega)
    rw [show l.length - 1 - i = (l.length - 1 - (i + 1)) + 1 by omega]
    simp only [GServo.tr]
    rw [show l.length - 1 - (l.length - 1 - (i + 1)) = i + 1 by omega, e, show ((s.tr l pos (l.length - 1 - (i + 1))).toNat : Int) = s.tr l pos (l.length - 1 - (i + 1)) by omega]
theorem path_mis {s : GServo} (h : s.ok = true) {l : List Pair} (hl : 1 ≤ l.length) {pos : Int} (hp : 0 ≤ pos ∧ pos ≤ s.last) : s.misread l (s.path l pos) = (s.endL l)[pos.toNat]?.getD 0 ∧ (s.path l pos)[l.length - 1]?.getD 0 = pos := by
  have := path_cost h l hp (l.length - 1) (by omega)
  rw [show l.length - 1 + 1 = l.length by omega, show l.length - 1 - (l.length - 1) = 0 by omega] at this
  refine ⟨?_, ?_⟩
  · unfold GServo.misread; rw [path_len, this]; rfl
  · rw [path_get s l pos (by omega), show l.length - 1 - (l.length - 1) = 0 by omega]; rfl

attribute [local congr] cg_pw cg_seqI cg_seqE cg_stepI cg_ev cg_evBin cg_condB cg_condV cg_thenQ cg_blockQ cg_onSome cg_onCells cg_onRow cg_onMap cg_onOpt cg_ghosts cg_ghost cg_evCall cg_part cg_rng cg_guardV cg_frzV cg_frpV cg_ownV cg_owcV cg_occV cg_occX cg_resK cg_res1
attribute [local irreducible] IntKind.wrap bitsOp Option.getD and or
theorem slices_Index_ret (nl : Bool) (l : List Int) (v : Int) (h : v ∈ l) (h2 : l.length ≤ 2000) : Ret E0 F_slices_Index_servo_row_int [.list nl (ints l), .int .i64 v] (.int .i64 (idxN v l)) := by
  refine ret_of_pw dec_slices_Index_servo_row_int mixed (by simp) fun hwf => ?_
  obtain ⟨h1, h3, h4⟩ := idxN_spec h
  generalize idxN v l = N at *
  rw [enter_eq]; unfold pc_slices_Index_servo_row_int
  (try (simp -implicitDefEqProofs only [go_sem])); repeat' first | with_reducible exact True.intro | with_reducible refine And.intro ?_ ?_ | with_reducible intro _ | (((with_reducible refine vc_b ?_ ?_) <;> intro _) <;> try (simp -implicitDefEqProofs only [go_sem])) | simp (disch := omega) only [wrapI, wrapU, shl1, shl1', shl1'', shrN, shrN', and_one] | ((with_reducible refine isEx ?_); refine ⟨_, rfl, ?_, ?_⟩)
  refine pw_loopS (α := Int) (l0 := ?l1) (m0 := ?m1) (fun x => [(8, .d (.int .i64 x))]) (fun x => []) (fun x => 0 ≤ x ∧ x ≤ N) (fun x => (l.length - x).toNat) ?a1_0 ?h01 ?he1 ?he21 ?hI1 ?step1
  case h01 => (simp -implicitDefEqProofs only [go_sem]; rfl)
  case he1 => rfl
  case he21 => rfl
  case' step1 => (rintro i hI; try dsimp only at hI)
  case' hI1 => try dsimp only
  · exact ⟨by omega, by omega⟩
  · obtain ⟨i1, i2⟩ := hI
    by_cases hi : i < N
    · have hne : ¬ v = l[i.toNat]?.getD 0 := fun e => h4 i.toNat (by omega) e.symm
      (try (simp -implicitDefEqProofs only [go_sem, hne])); repeat' first | with_reducible exact True.intro | with_reducible refine And.intro ?_ ?_ | with_reducible intro _ | (((with_reducible refine vc_b ?_ ?_) <;> intro _) <;> try (simp -implicitDefEqProofs only [go_sem, hne])) | simp (disch := omega) only [wrapI, wrapU, shl1, shl1', shl1'', shrN, shrN', and_one] | ((with_reducible refine isEx ?_); refine ⟨_, rfl, ?_, ?_⟩)
      all_goals first | omega | (simp; done) | (simp; omega) | skip
    · have hiN : i = N := by omega
      subst hiN
      (try (simp -implicitDefEqProofs only [go_sem, h3, Int.toNat_natCast])); repeat' first | with_reducible exact True.intro | with_reducible refine And.intro ?_ ?_ | with_reducible intro _ | (((with_reducible refine vc_b ?_ ?_) <;> intro _) <;> try (simp -implicitDefEqProofs only [go_sem, h3, Int.toNat_natCast])) | simp (disch := omega) only [wrapI, wrapU, shl1, shl1', shl1'', shrN, shrN', and_one] | ((with_reducible refine isEx ?_); refine ⟨_, rfl, ?_, ?_⟩)
      all_goals first | omega | (simp; done) | (simp; omega) | skip

def GServo.told3 (s : GServo) (l : List Pair) (pos : Int) : Bool := inR pos 0 s.last && decide (0 < l.length)
def GServo.trace (s : GServo) (l : List Pair) (pos : Int) : List Int × Int :=
  if s.known l (s.told3 l pos) = 0 then (if s.wrong < (s.endL l)[pos.toNat]?.getD 0 then ([], 3) else (s.path l pos, 0)) else ([], s.known l (s.told3 l pos))
theorem servo_Trace_ret (s : GServo) (nl : Bool) (l : List Pair) (pos : Int) :
    Ret E0 F_servo_Trace [servoD s, .list nl (pairsD l), .int .i64 pos] (.tup [.list (s.trace l pos).1.isEmpty (ints (s.trace l pos).1), .int .i64 (s.trace l pos).2]) := by
  refine ret_of_pw dec_servo_Trace mixed (by simp) fun hwf => ?_
  rw [enter_eq]; unfold pc_servo_Trace
  cases hok : s.ok with
  | false =>
    obtain ⟨hk, _⟩ := known_bad s l hok (s.told3 l pos)
    have hg : s.trace l pos = ([], 20) := by simp [GServo.trace, hk]
    rw [hg]
    have c1 := fun b => servo_known_bad s nl l b (by rw [(known_bad s l hok b).1]; omega)
    have c2 : ∀ b, Ret E0 F_servo_known [servoD s, .list nl (pairsD l), .bool b] (.tup [.nilptr, .int .i64 20]) := fun b => by
      have := c1 b; rwa [(known_bad s l hok b).1] at this
    rw [servoD_eq, servoC_eq] at c2
    (try (simp -implicitDefEqProofs only [go_sem, servoD_eq, servoC_eq, pairsD_len])); repeat' first | with_reducible exact True.intro | with_reducible refine And.intro ?_ ?_ | with_reducible intro _ | (((with_reducible refine isCall ?_); first | refine call_b (servo_within_ret _ _ _) rfl ?_ ?_ | refine call_d (servo_within_ret _ _ _) rfl ?_ | refine call_sb (servo_within_ret _ _ _) rfl ?_ ?_ | refine call_s (servo_within_ret _ _ _) rfl rfl ?_ | refine call_b (c2 _) rfl ?_ ?_ | refine call_d (c2 _) rfl ?_ | refine call_sb (c2 _) rfl ?_ ?_ | refine call_s (c2 _) rfl rfl ?_) <;> try (simp -implicitDefEqProofs only [go_sem, servoD_eq, servoC_eq, pairsD_len])) | (((with_reducible refine vc_b ?_ ?_) <;> intro _) <;> try (simp -implicitDefEqProofs only [go_sem, servoD_eq, servoC_eq, pairsD_len])) | simp (disch := omega) only [wrapI, wrapU, shl1, shl1', shl1'', shrN, shrN', and_one] | ((with_reducible refine isEx3 ?_); refine ⟨(_, _, _), rfl, ?_, ?_⟩)
    all_goals first | omega | (simp; done) | (simp; omega) | skip
  | true =>
    have hd := GServo.ok_head hok
    have hlb := last_bound hok
    have hz := zero_len hok
    have w1 : IntKind.i64.wrap (s.tracks - 1) = s.tracks - 1 := wrapI _ (by omega)
    have w2 : IntKind.i64.wrap (s.step * (s.tracks - 1)) = s.step * (s.tracks - 1) := wrapI _ (by unfold GServo.last at hlb; omega)
    have hls : s.step * (s.tracks - 1) = s.last := rfl
    have cw1 := servo_within_ret pos 0 s.last
    by_cases hk : s.known l (s.told3 l pos) = 0
    · obtain ⟨hc, ht, hm⟩ := known_zero hk
      obtain ⟨_, ha, h24⟩ := check_zero hc
      have c1 := servo_known_ok s nl l _ hk
      rw [ht] at c1
      simp only [GServo.told3, Bool.and_eq_true, decide_eq_true_eq] at ht
      rw [ht.1] at cw1
      have hpos : 0 ≤ pos ∧ pos ≤ s.last := by simpa [inR] using ht.1
      have hl0 : (0 : Int) < l.length := by omega
      have c2 := servo_forth_ret s hok nl l ha h24
      have hfl := forthL_len s l l.length
      have hfg := fun i h => forthL_get s l (k := l.length) (i := i) h
      have hlast := forthL_last s l (by omega)
      have hel := endL_len hok l
      have w3 : IntKind.i64.wrap ((l.length : Int) - 1) = (l.length : Int) - 1 := wrapI _ (by omega)
      rw [servoD_eq, servoC_eq] at c1
      by_cases hw : s.wrong < (s.endL l)[pos.toNat]?.getD 0
      · have hg : s.trace l pos = ([], 3) := by simp [GServo.trace, hk, hw]
        rw [hg]
        generalize s.forthL l l.length = FO at *
        (try (simp -implicitDefEqProofs only [go_sem, servoD_eq, servoC_eq, pairsD_len, rwsD_len, rwsD_unif, onSome_rws, rwD_eq, hfl, hl0, w1, w2, w3, hls, hlast, hw, headC_eq])); repeat' first | with_reducible exact True.intro | with_reducible refine And.intro ?_ ?_ | with_reducible intro _ | (((with_reducible refine isCall ?_); first | refine call_b (c1) rfl ?_ ?_ | refine call_d (c1) rfl ?_ | refine call_sb (c1) rfl ?_ ?_ | refine call_s (c1) rfl rfl ?_ | refine call_b (cw1) rfl ?_ ?_ | refine call_d (cw1) rfl ?_ | refine call_sb (cw1) rfl ?_ ?_ | refine call_s (cw1) rfl rfl ?_ | refine call_b (c2) rfl ?_ ?_ | refine call_d (c2) rfl ?_ | refine call_sb (c2) rfl ?_ ?_ | refine call_s (c2) rfl rfl ?_) <;> try (simp -implicitDefEqProofs only [go_sem, servoD_eq, servoC_eq, pairsD_len, rwsD_len, rwsD_unif, onSome_rws, rwD_eq, hfl, hl0, w1, w2, w3, hls, hlast, hw, headC_eq])) | (((with_reducible refine vc_b ?_ ?_) <;> intro _) <;> try (simp -implicitDefEqProofs only [go_sem, servoD_eq, servoC_eq, pairsD_len, rwsD_len, rwsD_unif, onSome_rws, rwD_eq, hfl, hl0, w1, w2, w3, hls, hlast, hw, headC_eq])) | simp (disch := omega) only [wrapI, wrapU, shl1, shl1', shl1'', shrN, shrN', and_one] | ((with_reducible refine isEx3 ?_); refine ⟨(_, _, _), rfl, ?_, ?_⟩)
        all_goals first | omega | (simp; done) | (simp; omega) | skip
      · have hg : s.trace l pos = (s.path l pos, 0) := by simp [GServo.trace, hk, hw]
        rw [hg]
        have hpe : (s.path l pos).isEmpty = false := by
          have := path_len s l pos
          cases hh : s.path l pos with | nil => rw [hh] at this; simp at this; omega | cons _ _ => rfl
        rw [hpe]
        have htb := tr_bound hok l hpos
        have hpg := fun i h => path_get s l pos (i := i) h
        have hpl := path_len s l pos
        generalize s.path l pos = PA at *
        have hpr := pre_len s l
        generalize s.forthL l l.length = FO at *
        (try (simp -implicitDefEqProofs only [go_sem, servoD_eq, servoC_eq, pairsD_len, rwsD_len, rwsD_unif, onSome_rws, rwD_eq, hfl, hl0, w1, w2, w3, hls, hlast, hw, headC_eq, List.length_replicate, Int.toNat_natCast])); repeat' first | with_reducible exact True.intro | with_reducible refine And.intro ?_ ?_ | with_reducible intro _ | (((with_reducible refine isCall ?_); first | refine call_b (c1) rfl ?_ ?_ | refine call_d (c1) rfl ?_ | refine call_sb (c1) rfl ?_ ?_ | refine call_s (c1) rfl rfl ?_ | refine call_b (cw1) rfl ?_ ?_ | refine call_d (cw1) rfl ?_ | refine call_sb (cw1) rfl ?_ ?_ | refine call_s (cw1) rfl rfl ?_ | refine call_b (c2) rfl ?_ ?_ | refine call_d (c2) rfl ?_ | refine call_sb (c2) rfl ?_ ?_ | refine call_s (c2) rfl rfl ?_) <;> try (simp -implicitDefEqProofs only [go_sem, servoD_eq, servoC_eq, pairsD_len, rwsD_len, rwsD_unif, onSome_rws, rwD_eq, hfl, hl0, w1, w2, w3, hls, hlast, hw, headC_eq, List.length_replicate, Int.toNat_natCast])) | (((with_reducible refine vc_b ?_ ?_) <;> intro _) <;> try (simp -implicitDefEqProofs only [go_sem, servoD_eq, servoC_eq, pairsD_len, rwsD_len, rwsD_unif, onSome_rws, rwD_eq, hfl, hl0, w1, w2, w3, hls, hlast, hw, headC_eq, List.length_replicate, Int.toNat_natCast])) | simp (disch := omega) only [wrapI, wrapU, shl1, shl1', shl1'', shrN, shrN', and_one] | ((with_reducible refine isEx3 ?_); refine ⟨(_, _, _), rfl, ?_, ?_⟩)
        all_goals first | omega | (simp; done) | (simp; omega) | skip
        refine pw_loopS (α := Int × Int × (List Int)) (l0 := ?l2) (m0 := ?m2) (fun x => [(12, .d (.int .i64 x.1)), (2, .d (.int .i64 x.2.1))]) (fun x => [(42, .row T_int 1 false (ints x.2.2))]) (fun x => 0 ≤ x.1 ∧ x.1 < l.length ∧ x.2.1 = s.tr l pos (l.length - 1 - x.1.toNat) ∧ x.2.2.length = l.length ∧ ∀ j : Nat, x.1 < (j : Int) → j < l.length → x.2.2[j]?.getD 0 = s.tr l pos (l.length - 1 - j)) (fun x => x.1.toNat) (?a2_0, ?a2_1, List.replicate l.length 0) ?h02 ?he2 ?he22 ?hI2 ?step2
        case h02 => (simp -implicitDefEqProofs only [go_sem, servoD_eq, servoC_eq, pairsD_len, w3, Int.toNat_natCast, headC_eq]; rfl)
        case he2 => rfl
        case he22 => rfl
        case' step2 => (rintro ⟨i, p, out⟩ hI; try dsimp only at hI)
        case' hI2 => try dsimp only
        · refine ⟨by omega, by omega, by rw [show l.length - 1 - ((l.length : Int) - 1).toNat = 0 by omega]; rfl, by simp, fun j h1 h2 => by omega⟩
        · obtain ⟨i1, i2, i3, i4, i5⟩ := hI
          have hpb := htb (l.length - 1 - i.toNat)
          rw [← i3] at hpb
          have hs5 : ∀ j : Nat, i - 1 < (j : Int) → j < l.length → (out.set i.toNat p)[j]?.getD 0 = s.tr l pos (l.length - 1 - j) := fun j hj1 hj2 => by
            rw [List.getElem?_set]
            by_cases hji : i.toNat = j
            · rw [if_pos hji, if_pos (by omega), Option.getD_some, i3, hji]
            · rw [if_neg hji]; exact i5 j (by omega) hj2
          by_cases hi0 : i = 0
          · have hfin : out.set i.toNat p = PA := ext0 (by simp; omega) fun j hj => by
              rw [List.length_set] at hj
              rw [hs5 j (by omega) (by omega), hpg j (by omega)]
            rw [← hfin]
            (try (simp -implicitDefEqProofs only [go_sem, hi0, i4])); repeat' first | with_reducible exact True.intro | with_reducible refine And.intro ?_ ?_ | with_reducible intro _ | (((with_reducible refine vc_b ?_ ?_) <;> intro _) <;> try (simp -implicitDefEqProofs only [go_sem, hi0, i4])) | simp (disch := omega) only [wrapI, wrapU, shl1, shl1', shl1'', shrN, shrN', and_one] | ((with_reducible refine isEx3 ?_); refine ⟨(_, _, _), rfl, ?_, ?_⟩)
            all_goals first | omega | (simp; done) | (simp; omega) | skip
          · have w4 : IntKind.i64.wrap (i - 1) = i - 1 := wrapI _ (by omega)
            have e4 : (i - 1).toNat = i.toNat - 1 := by omega
            have fg := hfg (i.toNat - 1) (by omega)
            rw [show i.toNat - 1 + 1 = i.toNat by omega] at fg
            have prl := hpr i.toNat
            have hnx : s.tr l pos (l.length - 1 - (i - 1).toNat) = prevP s.move (s.pre l i.toNat) p := by
              rw [show l.length - 1 - (i - 1).toNat = (l.length - 1 - i.toNat) + 1 by omega, GServo.tr, ← i3, show l.length - 1 - (l.length - 1 - i.toNat) = i.toNat by omega]
            generalize s.pre l i.toNat = r at *
            have w5 : IntKind.i64.wrap (p - s.move) = p - s.move := wrapI _ (by omega)
            have w6 : IntKind.i64.wrap (p + s.move) = p + s.move := wrapI _ (by omega)
            have w7 : IntKind.i64.wrap (min s.last (p + s.move) + 1) = min s.last (p + s.move) + 1 := wrapI _ (by omega)
            have hWe : (r.drop (max 0 (p - s.move)).toNat).take ((min s.last (p + s.move) + 1).toNat - (max 0 (p - s.move)).toNat) = winL s.move r p := by
              unfold winL; rw [show (r.length : Int) - 1 = s.last by omega]
            have hWl := winL_len (m := s.move) (r := r) (p := p) (by omega) (by omega) (by omega)
            have hWl2 : (winL s.move r p).length ≤ 2000 := by simp only [winL, List.length_take, List.length_drop]; omega
            have cM := fun n => slices_Min_ret n (winL s.move r p) hWl
            have cI := fun n => slices_Index_ret n (winL s.move r p) _ (minL_spec hWl).1 hWl2
            have hpv := (prevP_spec (m := s.move) (r := r) (p := p) (by omega) (by omega) (by omega)).1
            unfold prevP at hnx hpv
            generalize idxN (minL (winL s.move r p)) (winL s.move r p) = K at *
            have w8 : IntKind.i64.wrap (max 0 (p - s.move) + K) = max 0 (p - s.move) + K := wrapI _ (by omega)
            (try (simp -implicitDefEqProofs only [go_sem, headC_eq, hi0, i4, w4, e4, w5, w6, w7, hWe, fg, rwD_eq, rwsD_len, rwsD_unif, onSome_rws, hfl, w8])); repeat' first | with_reducible exact True.intro | with_reducible refine And.intro ?_ ?_ | with_reducible intro _ | (((with_reducible refine isCall ?_); first | refine call_b (cM _) rfl ?_ ?_ | refine call_d (cM _) rfl ?_ | refine call_sb (cM _) rfl ?_ ?_ | refine call_s (cM _) rfl rfl ?_ | refine call_b (cI _) rfl ?_ ?_ | refine call_d (cI _) rfl ?_ | refine call_sb (cI _) rfl ?_ ?_ | refine call_s (cI _) rfl rfl ?_) <;> try (simp -implicitDefEqProofs only [go_sem, headC_eq, hi0, i4, w4, e4, w5, w6, w7, hWe, fg, rwD_eq, rwsD_len, rwsD_unif, onSome_rws, hfl, w8])) | (((with_reducible refine vc_b ?_ ?_) <;> intro _) <;> try (simp -implicitDefEqProofs only [go_sem, headC_eq, hi0, i4, w4, e4, w5, w6, w7, hWe, fg, rwD_eq, rwsD_len, rwsD_unif, onSome_rws, hfl, w8])) | simp (disch := omega) only [wrapI, wrapU, shl1, shl1', shl1'', shrN, shrN', and_one] | ((with_reducible refine isEx3 ?_); refine ⟨(_, _, _), rfl, ?_, ?_⟩)
            all_goals first | omega | exact hnx.symm | (apply hs5 <;> assumption) | (rw [List.length_set]; exact i4) | (simp; done) | (simp; omega) | skip
    · have hg : s.trace l pos = ([], s.known l (s.told3 l pos)) := by simp [GServo.trace, hk]
      rw [hg]
      have c1 := servo_known_bad s nl l _ hk
      rw [servoD_eq, servoC_eq] at c1
      simp only [GServo.told3] at c1 hk ⊢
      cases b1 : inR pos 0 s.last with
      | false =>
        rw [b1] at cw1 c1 hk
        simp only [Bool.false_and] at c1 hk
        (try (simp -implicitDefEqProofs only [go_sem, servoD_eq, servoC_eq, w1, w2, hls, hk])); repeat' first | with_reducible exact True.intro | with_reducible refine And.intro ?_ ?_ | with_reducible intro _ | (((with_reducible refine isCall ?_); first | refine call_b (cw1) rfl ?_ ?_ | refine call_d (cw1) rfl ?_ | refine call_sb (cw1) rfl ?_ ?_ | refine call_s (cw1) rfl rfl ?_ | refine call_b (c1) rfl ?_ ?_ | refine call_d (c1) rfl ?_ | refine call_sb (c1) rfl ?_ ?_ | refine call_s (c1) rfl rfl ?_) <;> try (simp -implicitDefEqProofs only [go_sem, servoD_eq, servoC_eq, w1, w2, hls, hk])) | (((with_reducible refine vc_b ?_ ?_) <;> intro _) <;> try (simp -implicitDefEqProofs only [go_sem, servoD_eq, servoC_eq, w1, w2, hls, hk])) | simp (disch := omega) only [wrapI, wrapU, shl1, shl1', shl1'', shrN, shrN', and_one] | ((with_reducible refine isEx3 ?_); refine ⟨(_, _, _), rfl, ?_, ?_⟩)
        all_goals first | omega | (simp; done) | (simp; omega) | skip
      | true =>
        rw [b1] at cw1 c1 hk
        simp only [Bool.true_and] at c1 hk
        by_cases hl0 : 0 < l.length
        · have hl1 : (0 : Int) < l.length := by omega
          simp only [hl0, decide_true] at c1 hk
          (try (simp -implicitDefEqProofs only [go_sem, servoD_eq, servoC_eq, w1, w2, hls, hk, pairsD_len, hl1])); repeat' first | with_reducible exact True.intro | with_reducible refine And.intro ?_ ?_ | with_reducible intro _ | (((with_reducible refine isCall ?_); first | refine call_b (cw1) rfl ?_ ?_ | refine call_d (cw1) rfl ?_ | refine call_sb (cw1) rfl ?_ ?_ | refine call_s (cw1) rfl rfl ?_ | refine call_b (c1) rfl ?_ ?_ | refine call_d (c1) rfl ?_ | refine call_sb (c1) rfl ?_ ?_ | refine call_s (c1) rfl rfl ?_) <;> try (simp -implicitDefEqProofs only [go_sem, servoD_eq, servoC_eq, w1, w2, hls, hk, pairsD_len, hl1])) | (((with_reducible refine vc_b ?_ ?_) <;> intro _) <;> try (simp -implicitDefEqProofs only [go_sem, servoD_eq, servoC_eq, w1, w2, hls, hk, pairsD_len, hl1])) | simp (disch := omega) only [wrapI, wrapU, shl1, shl1', shl1'', shrN, shrN', and_one] | ((with_reducible refine isEx3 ?_); refine ⟨(_, _, _), rfl, ?_, ?_⟩)
          all_goals first | omega | (simp [hl0]; done) | skip
        · have hl1 : ¬ (0 : Int) < l.length := by omega
          simp only [hl0, decide_false] at c1 hk
          (try (simp -implicitDefEqProofs only [go_sem, servoD_eq, servoC_eq, w1, w2, hls, hk, pairsD_len, hl1])); repeat' first | with_reducible exact True.intro | with_reducible refine And.intro ?_ ?_ | with_reducible intro _ | (((with_reducible refine isCall ?_); first | refine call_b (cw1) rfl ?_ ?_ | refine call_d (cw1) rfl ?_ | refine call_sb (cw1) rfl ?_ ?_ | refine call_s (cw1) rfl rfl ?_ | refine call_b (c1) rfl ?_ ?_ | refine call_d (c1) rfl ?_ | refine call_sb (c1) rfl ?_ ?_ | refine call_s (c1) rfl rfl ?_) <;> try (simp -implicitDefEqProofs only [go_sem, servoD_eq, servoC_eq, w1, w2, hls, hk, pairsD_len, hl1])) | (((with_reducible refine vc_b ?_ ?_) <;> intro _) <;> try (simp -implicitDefEqProofs only [go_sem, servoD_eq, servoC_eq, w1, w2, hls, hk, pairsD_len, hl1])) | simp (disch := omega) only [wrapI, wrapU, shl1, shl1', shl1'', shrN, shrN', and_one] | ((with_reducible refine isEx3 ?_); refine ⟨(_, _, _), rfl, ?_, ?_⟩)
          all_goals first | omega | (simp [hl0]; done) | skip
end Go.Pw
