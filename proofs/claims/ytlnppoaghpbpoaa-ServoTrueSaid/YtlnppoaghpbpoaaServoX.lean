/- A part of the proof. -/
import Derived.Test.YtlnppoaghpbpoaaServoV
set_option linter.all false
open Go Go.Pw Go.Proofs
namespace Go.Pw
set_option linter.unusedSimpArgs false
set_option linter.unusedVariables false
set_option maxRecDepth 100000
set_option maxHeartbeats 1600000

theorem cost_app (s : GServo) (l m : List Pair) {i : Nat} (h : i < l.length) (p : Int) : s.cost (l ++ m) i p = s.cost l i p := by
  unfold GServo.cost; rw [Int.toNat_natCast, List.getElem?_append_left h]
theorem addC_congr {s s' : GServo} {l l' : List Pair} {i : Nat} {r : List Int} (h : ∀ p : Nat, p < r.length → s.cost l i p = s'.cost l' i p) : s.addC l i r = s'.addC l' i r := by
  unfold GServo.addC
  refine List.map_congr_left fun p hp => ?_
  rw [h p (by simpa using hp)]
theorem pre_app (s : GServo) (l m : List Pair) : ∀ i, i ≤ l.length → s.pre (l ++ m) i = s.pre l i
  | 0, _ => rfl
  | i + 1, h => by
    have ih := pre_app s l m i (by omega)
    have hb : s.base (l ++ m) i = s.base l i := by unfold GServo.base; rw [ih]
    rw [pre_succ, pre_succ, hb]
    exact addC_congr fun p _ => cost_app s l m (by omega) p
theorem min_iff {s : GServo} (h : s.ok = true) (l : List Pair) (w : Int) : w < minL (s.endL l) ↔ ∀ p, 0 ≤ p → p ≤ s.last → w < (s.endL l)[p.toNat]?.getD 0 := by
  have hz := endL_len h l
  have hb := last_bound h
  have hm := minL_spec (l := s.endL l) (by omega)
  constructor
  · intro hw p h0 h1
    have := hm.2 _ (getD_mem0 (l := s.endL l) (i := p.toNat) (by omega)); omega
  · intro hw
    obtain ⟨j, hj, he⟩ := List.getElem_of_mem hm.1
    have := hw j (by omega) (by omega)
    rw [Int.toNat_natCast, List.getElem?_eq_getElem hj, Option.getD_some, he] at this
    exact this
theorem endL_more {s : GServo} (h : s.ok = true) (l : List Pair) {x : Int} (h0 : 0 ≤ x) (h1 : x ≤ s.last) : (s.endL (l ++ [(-1, 0)]))[x.toNat]?.getD 0 ≤ s.wrong ↔ ∃ y, (0 ≤ y ∧ y ≤ s.last ∧ (s.endL l)[y.toNat]?.getD 0 ≤ s.wrong) ∧ x - y ≤ s.move ∧ y - x ≤ s.move := by
  have hz := zero_len h
  have hd := GServo.ok_head h
  have e : s.endL (l ++ [(-1, 0)]) = s.addC (l ++ [(-1, 0)]) l.length (s.base (l ++ [(-1, 0)]) l.length) := by
    unfold GServo.endL; rw [show (l ++ [((-1, 0) : Pair)]).length = l.length + 1 by simp, pre_succ]
  have hc : s.cost (l ++ [(-1, 0)]) l.length x = 0 := by
    unfold GServo.cost; rw [Int.toNat_natCast, List.getElem?_append_right (Nat.le_refl _)]; simp [GServo.agrees]
  rw [e, addC_get _ _ _ _ (by rw [base_len]; omega), show (x.toNat : Int) = x by omega, hc]
  by_cases hl : l.length = 0
  · have : l = [] := List.length_eq_zero_iff.1 hl
    subst this
    have e2 : s.base ([] ++ [((-1 : Int), (0 : Int))]) ([] : List Pair).length = s.zero := by simp [GServo.base]
    have e3 : s.endL [] = s.zero := rfl
    rw [e2, e3, zero_get s (by omega)]
    constructor
    · intro _; exact ⟨x, ⟨h0, h1, by rw [zero_get s (by omega)]; omega⟩, by omega, by omega⟩
    · intro _; omega
  · have e2 : s.base (l ++ [(-1, 0)]) l.length = nearL s.move (s.endL l) := by rw [GServo.base, if_neg hl, pre_app s l _ _ (Nat.le_refl _)]; rfl
    have hlen : (s.endL l).length = s.zero.length := pre_len s l l.length
    rw [e2, nearL_get (by rw [hlen]; omega)]
    obtain ⟨⟨q, q1, q2, q3, q4⟩, n2⟩ := nearAt_spec (m := s.move) (r := s.endL l) (p := x.toNat) (by omega) (by rw [hlen]; omega)
    constructor
    · intro hx
      exact ⟨q, ⟨by omega, by omega, by rw [Int.toNat_natCast, ← q4]; omega⟩, by omega, by omega⟩
    · rintro ⟨y, ⟨y0, y1, y2⟩, y3, y4⟩
      have := n2 y.toNat (by rw [hlen]; omega) (by omega) (by omega)
      omega
theorem check_more {s : GServo} {l : List Pair} (h : s.check l = 0) (h7 : l.length ≤ 23) : s.check (l ++ [(-1, 0)]) = 0 := by
  obtain ⟨h1, h2, h3⟩ := check_zero h
  have : (l ++ [((-1 : Int), (0 : Int))]).all wedgeOk = true := by rw [List.all_append, h2]; rfl
  simp only [GServo.check, h1, this]
  simp; omega
theorem more_law {s : GServo} {l : List Pair} (h : s.check l = 0) (h7 : l.length ≤ 23) : s.ahead (l ++ [(-1, 0)]) 0 = s.ahead l 1 := by
  obtain ⟨hok, h2, h3⟩ := check_zero h
  have hd := GServo.ok_head hok
  have hk : s.known (l ++ [(-1, 0)]) (inR 0 0 24) = s.known l (inR 1 0 24) := by
    have : (s.wrong < minL (s.endL (l ++ [(-1, 0)]))) ↔ (s.wrong < minL (s.endL l)) := by
      rw [min_iff hok, min_iff hok]
      constructor
      · intro hw p h0 h1
        have := hw p h0 h1
        rcases Classical.em (s.wrong < (s.endL l)[p.toNat]?.getD 0) with h' | h'
        · exact h'
        · have := (endL_more hok l h0 h1).2 ⟨p, ⟨h0, h1, by omega⟩, by omega, by omega⟩; omega
      · intro hw p h0 h1
        rcases Classical.em (s.wrong < (s.endL (l ++ [(-1, 0)]))[p.toNat]?.getD 0) with h' | h'
        · exact h'
        · obtain ⟨y, ⟨y0, y1, y2⟩, _⟩ := (endL_more hok l h0 h1).1 (by omega)
          have := hw y y0 y1; omega
    simp only [GServo.known, h, check_more h h7, if_true, show inR 0 0 24 = true from rfl, show inR 1 0 24 = true from rfl, this]
  have hl : s.laterL (l ++ [(-1, 0)]) 0 = s.laterL l 1 := by
    obtain ⟨n1, m1⟩ := later_spec hok (l ++ [(-1, 0)]) (more := 0) (by omega)
    obtain ⟨n2, m2⟩ := later_spec hok l (more := 1) (by omega)
    refine norm_unique n1 n2 fun x => ?_
    rw [m1, m2]
    constructor
    · rintro ⟨x0, x1, y, ⟨y0, y1, y2⟩, y3, y4⟩
      have : x = y := by simp at y3 y4; omega
      subst this
      obtain ⟨z, hz, z1, z2⟩ := (endL_more hok l x0 x1).1 y2
      exact ⟨x0, x1, z, hz, by omega, by omega⟩
    · rintro ⟨x0, x1, y, hy, y3, y4⟩
      exact ⟨x0, x1, x, ⟨x0, x1, (endL_more hok l x0 x1).2 ⟨y, hy, by omega, by omega⟩⟩, by simp, by simp⟩
  unfold GServo.ahead
  rw [hk, hl]

def GServo.wide (s : GServo) (a b c : Int) : GServo := ⟨s.tracks, s.step, min 64 (s.move + a), min 16 (s.noise + b), min 3 (s.wrong + c), s.nr, s.runout⟩
def lessW (l : List Pair) (m : Int) : List Pair := if 0 ≤ m ∧ m < l.length then l.set m.toNat (-1, 0) else l
theorem lessW_len (l : List Pair) (m : Int) : (lessW l m).length = l.length := by unfold lessW; split <;> simp
theorem lessW_get (l : List Pair) (m : Int) (i : Nat) (h : i < l.length) : (lessW l m)[i]?.getD default = l[i]?.getD default ∨ (lessW l m)[i]?.getD default = (-1, 0) := by
  unfold lessW; split
  · rw [List.getElem?_set]; split
    · rw [if_pos (by omega)]; exact .inr rfl
    · exact .inl rfl
  · exact .inl rfl
theorem wide_ok {s : GServo} (h : s.ok = true) {a b c : Int} (ha : 0 ≤ a ∧ 0 ≤ b ∧ 0 ≤ c) : (s.wide a b c).ok = true := by
  have hd := GServo.ok_head h
  simp only [GServo.ok, Bool.and_eq_true] at h ⊢
  refine ⟨h.1, ?_⟩
  have hh : (s.wide a b c).head = (inR s.tracks 1 64 && inR s.step 1 16 && inR (min 64 (s.move + a)) 0 64 && inR (min 16 (s.noise + b)) 0 16 && inR (min 3 (s.wrong + c)) 0 3 && inR s.runout.length 1 16) := rfl
  rw [hh]
  simp only [inR, Bool.and_eq_true, decide_eq_true_eq]
  refine ⟨⟨⟨⟨⟨?_, ?_⟩, ?_⟩, ?_⟩, ?_⟩, ?_⟩ <;> omega
theorem less_check {s : GServo} {l : List Pair} (h : s.check l = 0) {a b c : Int} (ha : 0 ≤ a ∧ 0 ≤ b ∧ 0 ≤ c) (m : Int) : (s.wide a b c).check (lessW l m) = 0 := by
  obtain ⟨h1, h2, h3⟩ := check_zero h
  have : (lessW l m).all wedgeOk = true := by
    refine allD_iff.2 fun j hj => ?_
    rw [lessW_len] at hj
    rcases lessW_get l m j hj with e | e
    · rw [e]; exact allD_iff.1 h2 j hj
    · rw [e]; rfl
  have hl := lessW_len l m
  simp only [GServo.check, wide_ok h1 ha, this]
  simp; omega
theorem wide_cost {s : GServo} (h : s.ok = true) {l : List Pair} {a b c : Int} (ha : 0 ≤ a ∧ 0 ≤ b ∧ 0 ≤ c) (m : Int) {i : Nat} (hi : i < l.length) (p : Int) : (s.wide a b c).cost (lessW l m) i p ≤ s.cost l i p := by
  have hd := GServo.ok_head h
  unfold GServo.cost
  rw [Int.toNat_natCast]
  rcases lessW_get l m i hi with e | e
  · rw [e]
    cases hs : s.agrees (l[i]?.getD default) i p with
    | false => split <;> simp
    | true =>
      have : (s.wide a b c).agrees (l[i]?.getD default) i p = true := by
        have hc : ∀ t w, (s.wide a b c).center t w = s.center t w := fun t w => rfl
        simp only [GServo.agrees, hc, Bool.or_eq_true, Bool.and_eq_true, decide_eq_true_eq] at hs ⊢
        rcases hs with hs | ⟨⟨s1, s2⟩, s3⟩
        · exact .inl hs
        · refine .inr ⟨⟨s1, s2⟩, ?_⟩
          simp only [GServo.wide] at *
          omega
      rw [this]; simp
  · rw [e]
    have : (s.wide a b c).agrees (-1, 0) i p = true := by simp [GServo.agrees]
    rw [this, if_pos rfl]; split <;> omega
theorem wide_pre {s : GServo} (h : s.ok = true) {l : List Pair} {a b c : Int} (ha : 0 ≤ a ∧ 0 ≤ b ∧ 0 ≤ c) (m : Int) : ∀ (i : Nat), i ≤ l.length → ∀ j, j < s.zero.length → ((s.wide a b c).pre (lessW l m) i)[j]?.getD 0 ≤ (s.pre l i)[j]?.getD 0
  | 0, _, j, hj => Int.le_refl _
  | i + 1, hi, j, hj => by
    have hd := GServo.ok_head h
    have hz : (s.wide a b c).zero = s.zero := rfl
    have ih := wide_pre h (l := l) ha m i (by omega)
    have hc := wide_cost h (l := l) ha m (i := i) (by omega) j
    rw [pre_succ, pre_succ, addC_get _ _ _ _ (by rw [base_len, hz]; exact hj), addC_get _ _ _ _ (by rw [base_len]; exact hj)]
    have : ((s.wide a b c).base (lessW l m) i)[j]?.getD 0 ≤ (s.base l i)[j]?.getD 0 := by
      unfold GServo.base
      split
      · exact Int.le_refl _
      · rw [nearL_get (by rw [pre_len, hz]; exact hj), nearL_get (by rw [pre_len]; exact hj)]
        obtain ⟨q, q1, q2, q3, q4⟩ := (nearAt_spec (m := s.move) (r := s.pre l i) (p := j) (by omega) (by rw [pre_len]; exact hj)).1
        rw [pre_len] at q1
        have hmv : s.move ≤ (s.wide a b c).move := by simp only [GServo.wide]; omega
        have := (nearAt_spec (m := (s.wide a b c).move) (r := (s.wide a b c).pre (lessW l m) i) (p := j) (by omega) (by rw [pre_len, hz]; exact hj)).2 q (by rw [pre_len, hz]; exact q1) (by omega) (by omega)
        have := ih q q1
        omega
    omega
theorem wide_law {s : GServo} {l : List Pair} (h : s.check l = 0) {a b c : Int} (ha : 0 ≤ a ∧ 0 ≤ b ∧ 0 ≤ c) (m : Int) (hk : s.known l (inR 0 0 24) = 0) :
    (s.wide a b c).known (lessW l m) (inR 0 0 24) = 0 ∧ ∀ x, MemP (s.laterL l 0) x → MemP ((s.wide a b c).laterL (lessW l m) 0) x := by
  obtain ⟨hok, h2, h3⟩ := check_zero h
  have hd := GServo.ok_head hok
  have hz := zero_len hok
  have hwo := wide_ok hok ha
  have hw : s.wrong ≤ (s.wide a b c).wrong := by simp only [GServo.wide]; omega
  have hlast : (s.wide a b c).last = s.last := rfl
  have hend : ∀ x : Int, 0 ≤ x → x ≤ s.last → ((s.wide a b c).endL (lessW l m))[x.toNat]?.getD 0 ≤ (s.endL l)[x.toNat]?.getD 0 := fun x h0 h1 => by
    unfold GServo.endL
    rw [lessW_len]
    exact wide_pre hok ha m l.length (Nat.le_refl _) x.toNat (by omega)
  constructor
  · obtain ⟨_, _, hm⟩ := known_zero hk
    have : ¬ (s.wide a b c).wrong < minL ((s.wide a b c).endL (lessW l m)) := fun hlt => hm ((min_iff hok l _).2 fun p h0 h1 => by
      have := (min_iff hwo _ _).1 hlt p h0 h1
      have := hend p h0 h1
      omega)
    simp [GServo.known, less_check h ha m, this, inR]
  · intro x hx
    obtain ⟨x0, x1, y, ⟨y0, y1, y2⟩, y3⟩ := ((later_spec hok l (more := 0) (by omega)).2 x).1 hx
    have := hend y y0 y1
    exact ((later_spec hwo (lessW l m) (more := 0) (by omega)).2 x).2 ⟨x0, x1, y, ⟨y0, y1, by omega⟩, by simpa using y3⟩
theorem inS_iff (l : List Pair) (x : Int) : inS l x = true ↔ MemP l x := by
  simp only [inS, List.any_eq_true, decide_eq_true_eq, MemP]

attribute [local congr] cg_pw cg_seqI cg_seqE cg_stepI cg_ev cg_evBin cg_condB cg_condV cg_thenQ cg_blockQ cg_onSome cg_onCells cg_onRow cg_onMap cg_onOpt cg_ghosts cg_ghost cg_evCall cg_part cg_rng cg_guardV cg_frzV cg_frpV cg_ownV cg_owcV cg_occV cg_occX cg_resK cg_res1
attribute [local irreducible] IntKind.wrap bitsOp Option.getD and or
theorem law02_within_ret (s : GServo) (h : s.ok = true) (na nb : Bool) (a b : List Pair) (hab : ∀ x, MemP a x → MemP b x) : Ret E0 F_law02_within [servoD s, .list na (pairsD a), .list nb (pairsD b)] (.bool true) := by
  refine ret_of_pw dec_law02_within mixed (by simp) fun hwf => ?_
  have hlb := last_bound h
  have c1 := ref02_Last_ret s h
  rw [servoD_eq, servoC_eq] at c1
  rw [enter_eq]; unfold pc_law02_within
  (try (simp -implicitDefEqProofs only [go_sem, servoD_eq, servoC_eq])); repeat' first | with_reducible exact True.intro | with_reducible refine And.intro ?_ ?_ | with_reducible intro _ | (((with_reducible refine vc_b ?_ ?_) <;> intro _) <;> try (simp -implicitDefEqProofs only [go_sem, servoD_eq, servoC_eq])) | simp (disch := omega) only [wrapI, wrapU, shl1, shl1', shl1'', shrN, shrN', and_one] | ((with_reducible refine isEx ?_); refine ⟨_, rfl, ?_, ?_⟩)
  refine pw_loopS (α := Int) (l0 := ?l1) (m0 := ?m1) (fun x => [(7, .d (.int .i64 x))]) (fun x => []) (fun x => 0 ≤ x ∧ x ≤ s.last + 1) (fun x => (s.last + 1 - x).toNat) ?a1_0 ?h01 ?he1 ?he21 ?hI1 ?step1
  case h01 => (simp -implicitDefEqProofs only [go_sem, servoD_eq, servoC_eq]; rfl)
  case he1 => rfl
  case he21 => rfl
  case' step1 => (rintro i hI; try dsimp only at hI)
  case' hI1 => try dsimp only
  · exact ⟨by omega, by omega⟩
  · obtain ⟨h1, h2⟩ := hI
    have ca := law02_in_ret na a i
    have cb := law02_in_ret nb b i
    cases ha : inS a i with
    | false =>
      rw [ha] at ca
      (try (simp -implicitDefEqProofs only [go_sem, servoD_eq, servoC_eq])); repeat' first | with_reducible exact True.intro | with_reducible refine And.intro ?_ ?_ | with_reducible intro _ | (((with_reducible refine isCall ?_); first | refine call_b (c1) rfl ?_ ?_ | refine call_d (c1) rfl ?_ | refine call_sb (c1) rfl ?_ ?_ | refine call_s (c1) rfl rfl ?_ | refine call_b (ca) rfl ?_ ?_ | refine call_d (ca) rfl ?_ | refine call_sb (ca) rfl ?_ ?_ | refine call_s (ca) rfl rfl ?_) <;> try (simp -implicitDefEqProofs only [go_sem, servoD_eq, servoC_eq])) | (((with_reducible refine vc_b ?_ ?_) <;> intro _) <;> try (simp -implicitDefEqProofs only [go_sem, servoD_eq, servoC_eq])) | simp (disch := omega) only [wrapI, wrapU, shl1, shl1', shl1'', shrN, shrN', and_one] | ((with_reducible refine isEx ?_); refine ⟨_, rfl, ?_, ?_⟩)
      all_goals first | omega | (simp; done) | (simp; omega) | skip
    | true =>
      rw [ha] at ca
      rw [(inS_iff b i).2 (hab i ((inS_iff a i).1 ha))] at cb
      (try (simp -implicitDefEqProofs only [go_sem, servoD_eq, servoC_eq])); repeat' first | with_reducible exact True.intro | with_reducible refine And.intro ?_ ?_ | with_reducible intro _ | (((with_reducible refine isCall ?_); first | refine call_b (c1) rfl ?_ ?_ | refine call_d (c1) rfl ?_ | refine call_sb (c1) rfl ?_ ?_ | refine call_s (c1) rfl rfl ?_ | refine call_b (ca) rfl ?_ ?_ | refine call_d (ca) rfl ?_ | refine call_sb (ca) rfl ?_ ?_ | refine call_s (ca) rfl rfl ?_ | refine call_b (cb) rfl ?_ ?_ | refine call_d (cb) rfl ?_ | refine call_sb (cb) rfl ?_ ?_ | refine call_s (cb) rfl rfl ?_) <;> try (simp -implicitDefEqProofs only [go_sem, servoD_eq, servoC_eq])) | (((with_reducible refine vc_b ?_ ?_) <;> intro _) <;> try (simp -implicitDefEqProofs only [go_sem, servoD_eq, servoC_eq])) | simp (disch := omega) only [wrapI, wrapU, shl1, shl1', shl1'', shrN, shrN', and_one] | ((with_reducible refine isEx ?_); refine ⟨_, rfl, ?_, ?_⟩)
      all_goals first | omega | (simp; done) | (simp; omega) | skip
end Go.Pw
