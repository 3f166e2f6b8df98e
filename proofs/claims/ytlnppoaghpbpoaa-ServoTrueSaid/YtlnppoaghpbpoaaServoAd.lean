/- A part of the proof. -/
import Derived.Test.YtlnppoaghpbpoaaServoU
set_option linter.all false
open Go Go.Pw Go.Proofs
namespace Go.Pw
set_option linter.unusedSimpArgs false
set_option linter.unusedVariables false
set_option maxRecDepth 100000
set_option maxHeartbeats 1600000

/-- The least of some places, from y on. -/
def bestF (any : Bool) (now : List Int) (pos : Int) : Nat → Int → Int → Int
  | 0, _, b => b
  | n + 1, y, b => bestF any now pos n (y + 1) (if any = true ∨ pos = y then min b (now[y.toNat]?.getD 0) else b)
theorem bestF_spec (any : Bool) (now : List Int) (pos : Int) : ∀ (n : Nat) (y b : Int), bestF any now pos n y b ≤ b ∧
    (∀ z, y ≤ z → z < y + n → (any = true ∨ pos = z) → bestF any now pos n y b ≤ now[z.toNat]?.getD 0) ∧
    (bestF any now pos n y b = b ∨ ∃ z, (y ≤ z ∧ z < y + n ∧ (any = true ∨ pos = z)) ∧ bestF any now pos n y b = now[z.toNat]?.getD 0)
  | 0, y, b => ⟨Int.le_refl _, fun z h1 h2 => by omega, .inl rfl⟩
  | n + 1, y, b => by
    obtain ⟨h1, h2, h3⟩ := bestF_spec any now pos n (y + 1) (if any = true ∨ pos = y then min b (now[y.toNat]?.getD 0) else b)
    simp only [bestF]
    by_cases hc : any = true ∨ pos = y
    · rw [if_pos hc] at h1 h2 h3 ⊢
      refine ⟨by omega, fun z z1 z2 z3 => ?_, ?_⟩
      · rcases (show z = y ∨ y + 1 ≤ z by omega) with rfl | h
        · omega
        · exact h2 z h (by omega) z3
      · rcases h3 with h3 | ⟨z, ⟨z1, z2, z3⟩, z4⟩
        · rcases (show min b (now[y.toNat]?.getD 0) = b ∨ min b (now[y.toNat]?.getD 0) = now[y.toNat]?.getD 0 by omega) with h | h
          · exact .inl (h3.trans h)
          · exact .inr ⟨y, ⟨by omega, by omega, hc⟩, h3.trans h⟩
        · exact .inr ⟨z, ⟨by omega, by omega, z3⟩, z4⟩
    · rw [if_neg hc] at h1 h2 h3 ⊢
      refine ⟨h1, fun z z1 z2 z3 => ?_, ?_⟩
      · rcases (show z = y ∨ y + 1 ≤ z by omega) with rfl | h
        · exact absurd z3 hc
        · exact h2 z h (by omega) z3
      · rcases h3 with h3 | ⟨z, ⟨z1, z2, z3⟩, z4⟩
        · exact .inl h3
        · exact .inr ⟨z, ⟨by omega, by omega, z3⟩, z4⟩
def GServo.bestAt (s : GServo) (i : Nat) (now : List Int) (pos : Int) : Int :=
  bestF (decide (0 < i)) now pos (min s.last (pos + s.move) + 1 - max 0 (pos - s.move)).toNat (max 0 (pos - s.move)) 1000
def GServo.fnext (s : GServo) (l : List Pair) (f : Int) (i : Nat) (now : List Int) (pos : Int) : Int :=
  if s.agrees (l[i]?.getD default) i pos then s.bestAt i now pos else if (i : Int) = f then 1000 else s.bestAt i now pos + 1
def GServo.frow (s : GServo) (l : List Pair) (f : Int) : Nat → List Int
  | 0 => s.zero
  | i + 1 => (List.range s.zero.length).map fun p : Nat => s.fnext l f i (s.frow l f i) p
theorem frow_len (s : GServo) (l : List Pair) (f : Int) : ∀ i, (s.frow l f i).length = s.zero.length
  | 0 => rfl
  | i + 1 => by simp [GServo.frow]
theorem frow_get (s : GServo) (l : List Pair) (f : Int) (i : Nat) {p : Nat} (h : p < s.zero.length) : (s.frow l f (i + 1))[p]?.getD 0 = s.fnext l f i (s.frow l f i) p := by simp [GServo.frow, h]
/-- What the least is. -/
theorem bestAt_eq {s : GServo} (h : s.ok = true) (i : Nat) (now : List Int) (hn : (now.length : Int) = s.last + 1) {pos : Int} (h0 : 0 ≤ pos) (h1 : pos ≤ s.last) :
    s.bestAt i now pos = min 1000 (if i = 0 then now[pos.toNat]?.getD 0 else nearAt s.move now pos.toNat) := by
  have hd := GServo.ok_head h
  obtain ⟨b1, b2, b3⟩ := bestF_spec (decide (0 < i)) now pos (min s.last (pos + s.move) + 1 - max 0 (pos - s.move)).toNat (max 0 (pos - s.move)) 1000
  change s.bestAt i now pos ≤ _ at b1
  change ∀ z, _ → _ → _ → s.bestAt i now pos ≤ _ at b2
  change s.bestAt i now pos = _ ∨ ∃ z, _ ∧ s.bestAt i now pos = _ at b3
  by_cases hi : i = 0
  · subst hi
    rw [if_pos rfl]
    have := b2 pos (by omega) (by omega) (.inr rfl)
    rcases b3 with b3 | ⟨z, ⟨_, _, z3⟩, z4⟩
    · omega
    · have : pos = z := by simpa using z3
      subst this; omega
  · rw [if_neg hi]
    obtain ⟨⟨q, q1, q2, q3, q4⟩, n2⟩ := nearAt_spec (m := s.move) (r := now) (p := pos.toNat) (by omega) (by omega)
    have h5 := b2 q (by omega) (by omega) (.inl (by simp; omega))
    rw [Int.toNat_natCast] at h5
    rcases b3 with b3 | ⟨z, ⟨z1, z2, z3⟩, z4⟩
    · omega
    · have := n2 z.toNat (by omega) (by omega) (by omega)
      omega
theorem zero_get2 (s : GServo) {j : Nat} (h : j < s.zero.length) : s.zero[j]?.getD 0 = 0 := by
  simp only [GServo.zero, List.length_replicate] at h ⊢; simp [h]
theorem bestAt_bound {s : GServo} (h : s.ok = true) (i : Nat) (now : List Int) (hn : (now.length : Int) = s.last + 1) (hb : ∀ j, j < now.length → 0 ≤ now[j]?.getD 0) {pos : Int} (h0 : 0 ≤ pos) (h1 : pos ≤ s.last) : 0 ≤ s.bestAt i now pos ∧ s.bestAt i now pos ≤ 1000 := by
  rw [bestAt_eq h i now hn h0 h1]
  have hd := GServo.ok_head h
  split
  · have := hb pos.toNat (by omega); omega
  · obtain ⟨q, q1, _, _, q4⟩ := (nearAt_spec (m := s.move) (r := now) (p := pos.toNat) (by omega) (by omega)).1
    have := hb q q1; omega
theorem frow_bound {s : GServo} (h : s.ok = true) (l : List Pair) (f : Int) : ∀ (i j : Nat), j < s.zero.length → 0 ≤ (s.frow l f i)[j]?.getD 0 ∧ (s.frow l f i)[j]?.getD 0 ≤ 1001
  | 0, j, hj => by have := zero_get2 s hj; simp only [GServo.frow]; omega
  | i + 1, j, hj => by
    have hz := zero_len h
    have := bestAt_bound h i (s.frow l f i) (by rw [frow_len]; exact hz) (fun j hj => (frow_bound h l f i j (by rw [frow_len] at hj; exact hj)).1) (pos := j) (by omega) (by omega)
    rw [frow_get _ _ _ _ hj, GServo.fnext]
    split
    · omega
    · split <;> omega
/-- With no wedge forced, the specification's rows are the program's. -/
theorem frow_pre {s : GServo} (h : s.ok = true) (l : List Pair) (h24 : l.length ≤ 24) : ∀ i, i ≤ l.length → s.frow l (-1) i = s.pre l i
  | 0, _ => rfl
  | i + 1, hi => by
    have hz := zero_len h
    have ih := frow_pre h l h24 i (by omega)
    refine ext0 (by rw [frow_len, pre_len]) fun j hj => ?_
    rw [frow_len] at hj
    rw [frow_get _ _ _ _ hj, pre_succ, addC_get _ _ _ _ (by rw [base_len]; exact hj), GServo.fnext, ih, bestAt_eq h i _ (by rw [pre_len]; exact hz) (by omega) (by omega)]
    have hb := base_bound h l i j hj
    have hbe : (s.base l i)[j]?.getD 0 = if i = 0 then (s.pre l i)[(j : Int).toNat]?.getD 0 else nearAt s.move (s.pre l i) (j : Int).toNat := by
      unfold GServo.base
      rw [Int.toNat_natCast]
      split
      · rename_i h0; subst h0; rfl
      · rw [nearL_get (by rw [pre_len]; exact hj)]
    rw [← hbe]
    unfold GServo.cost
    rw [Int.toNat_natCast]
    split
    · omega
    · rw [if_neg (by omega)]; omega

attribute [local congr] cg_pw cg_seqI cg_seqE cg_stepI cg_ev cg_evBin cg_condB cg_condV cg_thenQ cg_blockQ cg_onSome cg_onCells cg_onRow cg_onMap cg_onOpt cg_ghosts cg_ghost cg_evCall cg_part cg_rng cg_guardV cg_frzV cg_frpV cg_ownV cg_owcV cg_occV cg_occX cg_resK cg_res1
attribute [local irreducible] IntKind.wrap bitsOp Option.getD and or
theorem ref02_fewest_ret (s : GServo) (h : s.ok = true) (nl : Bool) (l : List Pair) (hl : l.all wedgeOk = true) (h24 : l.length ≤ 24) (f : Int) :
    Ret E0 F_ref02_fewest [servoD s, .list nl (pairsD l), .int .i64 f] (.list false (ints (s.frow l f l.length))) := by
  refine ret_of_pw dec_ref02_fewest mixed (by simp) fun hwf => ?_
  have hd := GServo.ok_head h
  have hlb := last_bound h
  have hz := zero_len h
  have c1 := ref02_Last_ret s h
  rw [servoD_eq, servoC_eq] at c1
  have w0 : IntKind.i64.wrap (s.last + 1) = s.last + 1 := wrapI _ (by omega)
  have hze : List.replicate (s.last + 1).toNat 0 = s.zero := rfl
  rw [enter_eq]; unfold pc_ref02_fewest
  (try (simp -implicitDefEqProofs only [go_sem, servoD_eq, servoC_eq, w0])); repeat' first | with_reducible exact True.intro | with_reducible refine And.intro ?_ ?_ | with_reducible intro _ | (((with_reducible refine isCall ?_); first | refine call_b (c1) rfl ?_ ?_ | refine call_d (c1) rfl ?_ | refine call_sb (c1) rfl ?_ ?_ | refine call_s (c1) rfl rfl ?_) <;> try (simp -implicitDefEqProofs only [go_sem, servoD_eq, servoC_eq, w0])) | (((with_reducible refine vc_b ?_ ?_) <;> intro _) <;> try (simp -implicitDefEqProofs only [go_sem, servoD_eq, servoC_eq, w0])) | simp (disch := omega) only [wrapI, wrapU, shl1, shl1', shl1'', shrN, shrN', and_one] | ((with_reducible refine isEx3 ?_); refine ⟨(_, _, _), rfl, ?_, ?_⟩) | ((with_reducible refine isEx2 ?_); refine ⟨(_, _), rfl, ?_, ?_⟩)
  all_goals first | omega | (simp; done) | (simp; omega) | skip
  refine pw_loopS (α := Int × (List Int)) (l0 := ?l1) (m0 := ?m1) (fun x => [(8, .d (.int .i64 x.1)), (7, .d (.list false (ints x.2)))]) (fun x => []) (fun x => 0 ≤ x.1 ∧ x.1 ≤ l.length ∧ x.2 = s.frow l f x.1.toNat) (fun x => (l.length - x.1).toNat) (?a1_0, s.zero) ?h01 ?he1 ?he21 ?hI1 ?step1
  case h01 => (simp -implicitDefEqProofs only [go_sem, servoD_eq, servoC_eq, w0, hze, pairsD_len]; rfl)
  case he1 => rfl
  case he21 => rfl
  case' step1 => (rintro ⟨i, now⟩ hI; try dsimp only at hI)
  case' hI1 => try dsimp only
  · exact ⟨by omega, by omega, rfl⟩
  · obtain ⟨h1, h2, h3⟩ := hI
    have hnl := frow_len s l f i.toNat
    have hnb := frow_bound h l f i.toNat
    rw [← h3] at hnl hnb
    by_cases hi : i < l.length
    · have hwo := allD_iff.1 hl i.toNat (by omega)
      have hfr := fun p hp => frow_get s l f i.toNat (p := p) hp
      rw [← h3] at hfr
      have hfl := frow_len s l f (i.toNat + 1)
      have hsn : (i + 1).toNat = i.toNat + 1 := by omega
      (try (simp -implicitDefEqProofs only [go_sem, servoD_eq, servoC_eq, pairsD_len])); repeat' first | with_reducible exact True.intro | with_reducible refine And.intro ?_ ?_ | with_reducible intro _ | (((with_reducible refine isCall ?_); first | refine call_b (c1) rfl ?_ ?_ | refine call_d (c1) rfl ?_ | refine call_sb (c1) rfl ?_ ?_ | refine call_s (c1) rfl rfl ?_) <;> try (simp -implicitDefEqProofs only [go_sem, servoD_eq, servoC_eq, pairsD_len])) | (((with_reducible refine vc_b ?_ ?_) <;> intro _) <;> try (simp -implicitDefEqProofs only [go_sem, servoD_eq, servoC_eq, pairsD_len])) | simp (disch := omega) only [wrapI, wrapU, shl1, shl1', shl1'', shrN, shrN', and_one] | ((with_reducible refine isEx3 ?_); refine ⟨(_, _, _), rfl, ?_, ?_⟩) | ((with_reducible refine isEx2 ?_); refine ⟨(_, _), rfl, ?_, ?_⟩)
      all_goals first | omega | (simp; done) | (simp; omega) | skip
      refine pw_loopS (α := Int × (List Int) × Bool) (l0 := ?l2) (m0 := ?m2) (fun x => [(10, .d (.int .i64 x.1))]) (fun x => [(75, .row T_int 1 x.2.2 (ints x.2.1))]) (fun x => 0 ≤ x.1 ∧ x.1 ≤ s.last + 1 ∧ (x.2.1.length : Int) = x.1 ∧ (∀ j : Nat, (j : Int) < x.1 → x.2.1[j]?.getD 0 = s.fnext l f i.toNat now j) ∧ x.2.2 = x.2.1.isEmpty) (fun x => (s.last + 1 - x.1).toNat) (?a2_0, [], true) ?h02 ?he2 ?he22 ?hI2 ?step2
      case h02 => (simp -implicitDefEqProofs only [go_sem, servoD_eq, servoC_eq, pairsD_len]; rfl)
      case he2 => rfl
      case he22 => rfl
      case' step2 => (rintro ⟨p, nx, b⟩ hI2; try dsimp only at hI2)
      case' hI2 => try dsimp only
      · exact ⟨by omega, by omega, by simp, fun j hj => by omega, rfl⟩
      · obtain ⟨p1, p2, p3, p4, p5⟩ := hI2
        by_cases hp : p ≤ s.last
        · have w1 : IntKind.i64.wrap (p - s.move) = p - s.move := wrapI _ (by omega)
          have hba := bestAt_bound h i.toNat now (by omega) (fun j hj => (hnb j (by omega)).1) p1 hp
          obtain ⟨BE, hBE⟩ : ∃ BE, s.bestAt i.toNat now p = BE := ⟨_, rfl⟩
          rw [hBE] at hba
          have hcA := ref02_Agrees_ret s h (l[i.toNat]?.getD default) hwo i p (by omega) (by omega)
          rw [servoD_eq, servoC_eq, pairD_eq] at hcA
          have hfn : s.fnext l f i.toNat now p = if s.agrees (l[i.toNat]?.getD default) i p then BE else if i = f then 1000 else BE + 1 := by
            unfold GServo.fnext; rw [hBE, show ((i.toNat : Nat) : Int) = i by omega]
          have hs4 : ∀ v, s.fnext l f i.toNat now p = v → ∀ j : Nat, (j : Int) < p + 1 → (nx ++ [v])[j]?.getD 0 = s.fnext l f i.toNat now j := fun v hv j hj => by
            rcases (show (j : Int) < p ∨ (j : Int) = p by omega) with h | h
            · rw [List.getElem?_append_left (by omega)]; exact p4 j h
            · rw [List.getElem?_append_right (by omega), show j - nx.length = 0 by omega, h, hv]; simp
          unfold GServo.bestAt at hBE
          (try (simp -implicitDefEqProofs only [go_sem, servoD_eq, servoC_eq, pairsD_len, hp, w1])); repeat' first | with_reducible exact True.intro | with_reducible refine And.intro ?_ ?_ | with_reducible intro _ | (((with_reducible refine isCall ?_); first | refine call_b (c1) rfl ?_ ?_ | refine call_d (c1) rfl ?_ | refine call_sb (c1) rfl ?_ ?_ | refine call_s (c1) rfl rfl ?_) <;> try (simp -implicitDefEqProofs only [go_sem, servoD_eq, servoC_eq, pairsD_len, hp, w1])) | (((with_reducible refine vc_b ?_ ?_) <;> intro _) <;> try (simp -implicitDefEqProofs only [go_sem, servoD_eq, servoC_eq, pairsD_len, hp, w1])) | simp (disch := omega) only [wrapI, wrapU, shl1, shl1', shl1'', shrN, shrN', and_one] | ((with_reducible refine isEx3 ?_); refine ⟨(_, _, _), rfl, ?_, ?_⟩) | ((with_reducible refine isEx2 ?_); refine ⟨(_, _), rfl, ?_, ?_⟩)
          all_goals first | omega | (simp; done) | (simp; omega) | skip
          refine pw_loopS (α := Int × Int) (l0 := ?l3) (m0 := ?m3) (fun x => [(12, .d (.int .i64 x.1)), (11, .d (.int .i64 x.2))]) (fun x => []) (fun x => max 0 (p - s.move) ≤ x.1 ∧ x.1 ≤ min s.last (p + s.move) + 1 ∧ (0 ≤ x.2 ∧ x.2 ≤ 1000) ∧ bestF (decide (0 < i.toNat)) now p (min s.last (p + s.move) + 1 - x.1).toNat x.1 x.2 = BE) (fun x => (min s.last (p + s.move) + 1 - x.1).toNat) (?a3_0, 1000) ?h03 ?he3 ?he23 ?hI3 ?step3
          case h03 => (simp -implicitDefEqProofs only [go_sem, servoD_eq, servoC_eq, pairsD_len, hp, w1]; rfl)
          case he3 => rfl
          case he23 => rfl
          case' step3 => (rintro ⟨y, be⟩ hI3; try dsimp only at hI3)
          case' hI3 => try dsimp only
          · exact ⟨by omega, by omega, by omega, hBE⟩
          · obtain ⟨y1, y2, y3, y4⟩ := hI3
            have w2 : IntKind.i64.wrap (p + s.move) = p + s.move := wrapI _ (by omega)
            by_cases hy : y ≤ min s.last (p + s.move)
            · have hst : bestF (decide (0 < i.toNat)) now p (min s.last (p + s.move) + 1 - y).toNat y be = bestF (decide (0 < i.toNat)) now p (min s.last (p + s.move) + 1 - (y + 1)).toNat (y + 1) (if decide (0 < i.toNat) = true ∨ p = y then min be (now[y.toNat]?.getD 0) else be) := by
                rw [show (min s.last (p + s.move) + 1 - y).toNat = (min s.last (p + s.move) + 1 - (y + 1)).toNat + 1 by omega, bestF]
              rw [hst] at y4
              have hyb := hnb y.toNat (by omega)
              by_cases hi0 : 0 < i
              · rw [if_pos (.inl (by simp; omega))] at y4
                (try (simp -implicitDefEqProofs only [go_sem, servoD_eq, servoC_eq, pairsD_len, w2, hy, hi0])); repeat' first | with_reducible exact True.intro | with_reducible refine And.intro ?_ ?_ | with_reducible intro _ | (((with_reducible refine isCall ?_); first | refine call_b (c1) rfl ?_ ?_ | refine call_d (c1) rfl ?_ | refine call_sb (c1) rfl ?_ ?_ | refine call_s (c1) rfl rfl ?_) <;> try (simp -implicitDefEqProofs only [go_sem, servoD_eq, servoC_eq, pairsD_len, w2, hy, hi0])) | (((with_reducible refine vc_b ?_ ?_) <;> intro _) <;> try (simp -implicitDefEqProofs only [go_sem, servoD_eq, servoC_eq, pairsD_len, w2, hy, hi0])) | simp (disch := omega) only [wrapI, wrapU, shl1, shl1', shl1'', shrN, shrN', and_one] | ((with_reducible refine isEx3 ?_); refine ⟨(_, _, _), rfl, ?_, ?_⟩) | ((with_reducible refine isEx2 ?_); refine ⟨(_, _), rfl, ?_, ?_⟩)
                all_goals first | omega | (simp; done) | (simp; omega) | skip
              · by_cases hpy : p = y
                · rw [if_pos (.inr hpy)] at y4
                  subst hpy
                  (try (simp -implicitDefEqProofs only [go_sem, servoD_eq, servoC_eq, pairsD_len, w2, hy, hi0])); repeat' first | with_reducible exact True.intro | with_reducible refine And.intro ?_ ?_ | with_reducible intro _ | (((with_reducible refine isCall ?_); first | refine call_b (c1) rfl ?_ ?_ | refine call_d (c1) rfl ?_ | refine call_sb (c1) rfl ?_ ?_ | refine call_s (c1) rfl rfl ?_) <;> try (simp -implicitDefEqProofs only [go_sem, servoD_eq, servoC_eq, pairsD_len, w2, hy, hi0])) | (((with_reducible refine vc_b ?_ ?_) <;> intro _) <;> try (simp -implicitDefEqProofs only [go_sem, servoD_eq, servoC_eq, pairsD_len, w2, hy, hi0])) | simp (disch := omega) only [wrapI, wrapU, shl1, shl1', shl1'', shrN, shrN', and_one] | ((with_reducible refine isEx3 ?_); refine ⟨(_, _, _), rfl, ?_, ?_⟩) | ((with_reducible refine isEx2 ?_); refine ⟨(_, _), rfl, ?_, ?_⟩)
                  all_goals first | omega | (simp; done) | (simp; omega) | skip
                · rw [if_neg (by simp; omega)] at y4
                  (try (simp -implicitDefEqProofs only [go_sem, servoD_eq, servoC_eq, pairsD_len, w2, hy, hi0, hpy])); repeat' first | with_reducible exact True.intro | with_reducible refine And.intro ?_ ?_ | with_reducible intro _ | (((with_reducible refine isCall ?_); first | refine call_b (c1) rfl ?_ ?_ | refine call_d (c1) rfl ?_ | refine call_sb (c1) rfl ?_ ?_ | refine call_s (c1) rfl rfl ?_) <;> try (simp -implicitDefEqProofs only [go_sem, servoD_eq, servoC_eq, pairsD_len, w2, hy, hi0, hpy])) | (((with_reducible refine vc_b ?_ ?_) <;> intro _) <;> try (simp -implicitDefEqProofs only [go_sem, servoD_eq, servoC_eq, pairsD_len, w2, hy, hi0, hpy])) | simp (disch := omega) only [wrapI, wrapU, shl1, shl1', shl1'', shrN, shrN', and_one] | ((with_reducible refine isEx3 ?_); refine ⟨(_, _, _), rfl, ?_, ?_⟩) | ((with_reducible refine isEx2 ?_); refine ⟨(_, _), rfl, ?_, ?_⟩)
                  all_goals first | omega | (simp; done) | (simp; omega) | skip
            · have hbe : be = BE := by
                rw [show (min s.last (p + s.move) + 1 - y).toNat = 0 by omega] at y4; exact y4
              have w3 : IntKind.i64.wrap (be + 1) = be + 1 := wrapI _ (by omega)
              rw [← hbe] at hfn
              have hiz := isEmpty_snoc nx
              cases hag : s.agrees (l[i.toNat]?.getD default) i p with
              | true =>
                rw [hag] at hcA
                rw [hag, if_pos rfl] at hfn
                have hs5 := hs4 _ hfn
                (try (simp -implicitDefEqProofs only [go_sem, servoD_eq, servoC_eq, pairsD_len, onSome_pairs, pairsD_unif, pairD_eq, w2, hy])); repeat' first | with_reducible exact True.intro | with_reducible refine And.intro ?_ ?_ | with_reducible intro _ | (((with_reducible refine isCall ?_); first | refine call_b (c1) rfl ?_ ?_ | refine call_d (c1) rfl ?_ | refine call_sb (c1) rfl ?_ ?_ | refine call_s (c1) rfl rfl ?_ | refine call_b (hcA) rfl ?_ ?_ | refine call_d (hcA) rfl ?_ | refine call_sb (hcA) rfl ?_ ?_ | refine call_s (hcA) rfl rfl ?_) <;> try (simp -implicitDefEqProofs only [go_sem, servoD_eq, servoC_eq, pairsD_len, onSome_pairs, pairsD_unif, pairD_eq, w2, hy])) | (((with_reducible refine vc_b ?_ ?_) <;> intro _) <;> try (simp -implicitDefEqProofs only [go_sem, servoD_eq, servoC_eq, pairsD_len, onSome_pairs, pairsD_unif, pairD_eq, w2, hy])) | simp (disch := omega) only [wrapI, wrapU, shl1, shl1', shl1'', shrN, shrN', and_one] | ((with_reducible refine isEx3 ?_); refine ⟨(_, _, _), rfl, ?_, ?_⟩) | ((with_reducible refine isEx2 ?_); refine ⟨(_, _), rfl, ?_, ?_⟩)
                all_goals first | omega | (apply hs5; assumption) | exact (hiz _).symm | (rw [List.length_append]; simp; omega) | (simp; done) | (simp; omega) | skip
              | false =>
                rw [hag] at hcA
                rw [hag, if_neg (by simp)] at hfn
                by_cases hif : i = f
                · rw [if_pos hif] at hfn
                  have hs5 := hs4 _ hfn
                  subst hif
                  (try (simp -implicitDefEqProofs only [go_sem, servoD_eq, servoC_eq, pairsD_len, onSome_pairs, pairsD_unif, pairD_eq, w2, hy, w3])); repeat' first | with_reducible exact True.intro | with_reducible refine And.intro ?_ ?_ | with_reducible intro _ | (((with_reducible refine isCall ?_); first | refine call_b (c1) rfl ?_ ?_ | refine call_d (c1) rfl ?_ | refine call_sb (c1) rfl ?_ ?_ | refine call_s (c1) rfl rfl ?_ | refine call_b (hcA) rfl ?_ ?_ | refine call_d (hcA) rfl ?_ | refine call_sb (hcA) rfl ?_ ?_ | refine call_s (hcA) rfl rfl ?_) <;> try (simp -implicitDefEqProofs only [go_sem, servoD_eq, servoC_eq, pairsD_len, onSome_pairs, pairsD_unif, pairD_eq, w2, hy, w3])) | (((with_reducible refine vc_b ?_ ?_) <;> intro _) <;> try (simp -implicitDefEqProofs only [go_sem, servoD_eq, servoC_eq, pairsD_len, onSome_pairs, pairsD_unif, pairD_eq, w2, hy, w3])) | simp (disch := omega) only [wrapI, wrapU, shl1, shl1', shl1'', shrN, shrN', and_one] | ((with_reducible refine isEx3 ?_); refine ⟨(_, _, _), rfl, ?_, ?_⟩) | ((with_reducible refine isEx2 ?_); refine ⟨(_, _), rfl, ?_, ?_⟩)
                  all_goals first | omega | (apply hs5; assumption) | exact (hiz _).symm | (rw [List.length_append]; simp; omega) | (simp; done) | (simp; omega) | skip
                · rw [if_neg hif] at hfn
                  have hs5 := hs4 _ hfn
                  (try (simp -implicitDefEqProofs only [go_sem, servoD_eq, servoC_eq, pairsD_len, onSome_pairs, pairsD_unif, pairD_eq, w2, hy, w3, hif])); repeat' first | with_reducible exact True.intro | with_reducible refine And.intro ?_ ?_ | with_reducible intro _ | (((with_reducible refine isCall ?_); first | refine call_b (c1) rfl ?_ ?_ | refine call_d (c1) rfl ?_ | refine call_sb (c1) rfl ?_ ?_ | refine call_s (c1) rfl rfl ?_ | refine call_b (hcA) rfl ?_ ?_ | refine call_d (hcA) rfl ?_ | refine call_sb (hcA) rfl ?_ ?_ | refine call_s (hcA) rfl rfl ?_) <;> try (simp -implicitDefEqProofs only [go_sem, servoD_eq, servoC_eq, pairsD_len, onSome_pairs, pairsD_unif, pairD_eq, w2, hy, w3, hif])) | (((with_reducible refine vc_b ?_ ?_) <;> intro _) <;> try (simp -implicitDefEqProofs only [go_sem, servoD_eq, servoC_eq, pairsD_len, onSome_pairs, pairsD_unif, pairD_eq, w2, hy, w3, hif])) | simp (disch := omega) only [wrapI, wrapU, shl1, shl1', shl1'', shrN, shrN', and_one] | ((with_reducible refine isEx3 ?_); refine ⟨(_, _, _), rfl, ?_, ?_⟩) | ((with_reducible refine isEx2 ?_); refine ⟨(_, _), rfl, ?_, ?_⟩)
                  all_goals first | omega | (apply hs5; assumption) | exact (hiz _).symm | (rw [List.length_append]; simp; omega) | (simp; done) | (simp; omega) | skip
        · have hbf : b = false := by rw [p5]; cases nx with | nil => simp at p3; omega | cons _ _ => rfl
          have hfin : nx = s.frow l f (i + 1).toNat := by
            rw [hsn]
            exact ext0 (by omega) fun j hj => by rw [p4 j (by omega), hfr j (by omega)]
          subst hbf
          (try (simp -implicitDefEqProofs only [go_sem, servoD_eq, servoC_eq, pairsD_len, hp])); repeat' first | with_reducible exact True.intro | with_reducible refine And.intro ?_ ?_ | with_reducible intro _ | (((with_reducible refine isCall ?_); first | refine call_b (c1) rfl ?_ ?_ | refine call_d (c1) rfl ?_ | refine call_sb (c1) rfl ?_ ?_ | refine call_s (c1) rfl rfl ?_) <;> try (simp -implicitDefEqProofs only [go_sem, servoD_eq, servoC_eq, pairsD_len, hp])) | (((with_reducible refine vc_b ?_ ?_) <;> intro _) <;> try (simp -implicitDefEqProofs only [go_sem, servoD_eq, servoC_eq, pairsD_len, hp])) | simp (disch := omega) only [wrapI, wrapU, shl1, shl1', shl1'', shrN, shrN', and_one] | ((with_reducible refine isEx3 ?_); refine ⟨(_, _, _), rfl, ?_, ?_⟩) | ((with_reducible refine isEx2 ?_); refine ⟨(_, _), rfl, ?_, ?_⟩)
          all_goals first | omega | exact hfin | skip
    · have : i.toNat = l.length := by omega
      rw [this] at h3
      rw [← h3]
      (try (simp -implicitDefEqProofs only [go_sem, servoD_eq, servoC_eq, pairsD_len])); repeat' first | with_reducible exact True.intro | with_reducible refine And.intro ?_ ?_ | with_reducible intro _ | (((with_reducible refine vc_b ?_ ?_) <;> intro _) <;> try (simp -implicitDefEqProofs only [go_sem, servoD_eq, servoC_eq, pairsD_len])) | simp (disch := omega) only [wrapI, wrapU, shl1, shl1', shl1'', shrN, shrN', and_one] | ((with_reducible refine isEx3 ?_); refine ⟨(_, _, _), rfl, ?_, ?_⟩) | ((with_reducible refine isEx2 ?_); refine ⟨(_, _), rfl, ?_, ?_⟩)
      all_goals first | omega | (simp; done) | (simp; omega) | skip
end Go.Pw
