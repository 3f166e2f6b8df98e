/- A part of the proof. -/
import Derived.Test.YtlnppoaghpbpoaaServoAi
import Derived.Test.YtlnppoaghpbpoaaServoX
set_option linter.all false
open Go Go.Pw Go.Proofs
namespace Go.Pw
set_option linter.unusedSimpArgs false
set_option linter.unusedVariables false
set_option maxRecDepth 100000
set_option maxHeartbeats 3200000

theorem norm_pair {L : List Pair} (h : Norm L) {j : Nat} (hj : j + 1 < L.length) : (L[j]?.getD default).2 + 1 < (L[j + 1]?.getD default).1 := by
  have := List.pairwise_iff_getElem.1 h.1 j (j + 1) (by omega) hj (by omega)
  rwa [List.getElem?_eq_getElem (by omega), List.getElem?_eq_getElem hj, Option.getD_some, Option.getD_some]
theorem trace_any {s : GServo} {l : List Pair} (hc : s.check l = 0) (hl : 1 ≤ l.length) (hk : s.known l true = 0) (v : Int) :
    s.trace l v = if 0 ≤ v ∧ v ≤ s.last then (if s.wrong < (s.endL l)[v.toNat]?.getD 0 then ([], 3) else (s.path l v, 0)) else ([], 1) := by
  obtain ⟨_, _, hm⟩ := known_zero hk
  by_cases hv : 0 ≤ v ∧ v ≤ s.last
  · have : s.told3 l v = true := by simp [GServo.told3, inR, hv]; omega
    rw [if_pos hv]; unfold GServo.trace; rw [this, if_pos hk]
  · have : s.told3 l v = false := by simp only [GServo.told3, inR, decide_eq_false hv, Bool.false_and]
    rw [if_neg hv]; unfold GServo.trace; rw [this]
    have : s.known l false = 1 := by simp [GServo.known, hc]
    rw [this]; simp
theorem blame_get {s : GServo} {l : List Pair} {i : Nat} (hi : i < (s.blameK l l.length).length) : ∃ k : Nat, (s.blameK l l.length)[i]?.getD 0 = k ∧ k < l.length ∧ s.good l k = false := by
  have hm := getD_mem0 hi
  simp only [GServo.blameK, List.mem_map, List.mem_filter, List.mem_range, Bool.not_eq_true'] at hm
  obtain ⟨k, ⟨h1, h2⟩, h3⟩ := hm
  exact ⟨k, h3.symm, h1, h2⟩
theorem blame_up {s : GServo} {l : List Pair} {i : Nat} (hi : i + 1 < (s.blameK l l.length).length) : (s.blameK l l.length)[i]?.getD 0 < (s.blameK l l.length)[i + 1]?.getD 0 := by
  have hp : (s.blameK l l.length).Pairwise (· < ·) := by
    unfold GServo.blameK
    rw [List.pairwise_map]
    refine List.Pairwise.imp ?_ (List.Pairwise.filter _ List.pairwise_lt_range)
    intro a b hab; omega
  have := List.pairwise_iff_getElem.1 hp i (i + 1) (by omega) hi (by omega)
  rwa [List.getElem?_eq_getElem (by omega), List.getElem?_eq_getElem hi, Option.getD_some, Option.getD_some]
/-- A blamed wedge does not agree with a possible path. -/
theorem blame_law {s : GServo} {l : List Pair} (hc : s.check l = 0) {p q : List Int} (h : s.PossP l p q) {k : Nat} (hk : k < l.length) (hg : s.good l k = false) : s.agrees (l[k]?.getD default) k (p[k]?.getD 0) = false := by
  obtain ⟨h1, h2, h3, h4, h5, h6⟩ := h
  cases ha : s.agrees (l[k]?.getD default) k (p[k]?.getD 0) with
  | false => rfl
  | true =>
    have : s.good l k = true := (good_iff (check_zero hc).1 hk).2 ⟨pathF p, pathP_ok h3, by unfold GServo.misread at h4; rw [h3.1] at h4; exact h4, by unfold GServo.cost; rw [Int.toNat_natCast, pathF_eq, ha]; rfl⟩
    rw [hg] at this; cases this
theorem fewest_law {s : GServo} {l : List Pair} (hc : s.check l = 0) {p q : List Int} (h : s.PossP l p q) : minL (s.endL l) ≤ s.misread l p := by
  obtain ⟨h1, h2, h3, h4, h5, h6⟩ := h
  have hl := h3.1
  obtain ⟨hok, _, _⟩ := check_zero hc
  have hz := endL_len hok l
  have hb := h3.2.1 (l.length - 1) (by omega)
  have a1 := end_le hok (l := l) (P := pathF p) (by omega) (pathP_ok h3)
  rw [pathF_eq] at a1
  have a2 := (minL_spec (l := s.endL l) (by omega)).2 _ (getD_mem0 (l := s.endL l) (i := (p[l.length - 1]?.getD 0).toNat) (by omega))
  unfold GServo.misread
  rw [hl]; omega

theorem ints_snoc2 (l : List Int) (a b : Int) : ints l ++ [.int .i64 a, .int .i64 b] = ints (l ++ [a, b]) := by simp [ints]
attribute [local congr] cg_pw cg_seqI cg_seqE cg_stepI cg_ev cg_evBin cg_condB cg_condV cg_thenQ cg_blockQ cg_onSome cg_onCells cg_onRow cg_onMap cg_onOpt cg_ghosts cg_ghost cg_evCall cg_part cg_rng cg_guardV cg_frzV cg_frpV cg_ownV cg_owcV cg_occV cg_occX cg_resK cg_res1
attribute [local irreducible] IntKind.wrap bitsOp Option.getD and or
theorem ServoEnds_ret (s : GServo) (nl : Bool) (l : List Pair) (pos : Int) : Ret E0 F_law02_ServoEnds [servoD s, .list nl (pairsD l), .int .i64 pos] (.bool true) := by
  refine ret_of_pw dec_law02_ServoEnds mixed (by simp) fun hwf => ?_
  rw [enter_eq]; unfold pc_law02_ServoEnds
  have cv := law02_valid_ret s nl l
  have cw := law02_works_ret
  rw [servoD_eq, servoC_eq] at cv
  cases hv : s.valid l with
  | false =>
    rw [hv] at cv
    (try (simp -implicitDefEqProofs only [go_sem, servoD_eq, servoC_eq])); repeat' first | with_reducible exact True.intro | with_reducible refine And.intro ?_ ?_ | with_reducible intro _ | (((with_reducible refine isCall ?_); first | refine call_b (cv) rfl ?_ ?_ | refine call_d (cv) rfl ?_ | refine call_sb (cv) rfl ?_ ?_ | refine call_s (cv) rfl rfl ?_ | refine call_b (cw) rfl ?_ ?_ | refine call_d (cw) rfl ?_ | refine call_sb (cw) rfl ?_ ?_ | refine call_s (cw) rfl rfl ?_) <;> try (simp -implicitDefEqProofs only [go_sem, servoD_eq, servoC_eq])) | (((with_reducible refine vc_b ?_ ?_) <;> intro _) <;> try (simp -implicitDefEqProofs only [go_sem, servoD_eq, servoC_eq])) | simp (disch := omega) only [wrapI, wrapU, shl1, shl1', shl1'', shrN, shrN', and_one] | ((with_reducible refine isEx2 ?_); refine ⟨(_, _), rfl, ?_, ?_⟩) | ((with_reducible refine isEx ?_); refine ⟨_, rfl, ?_, ?_⟩)
    all_goals first | omega | (simp; done) | (simp; omega) | skip
  | true =>
    rw [hv] at cv
    obtain ⟨hc, h8⟩ := valid_zero hv
    obtain ⟨hok, hall, h24⟩ := check_zero hc
    have hd := GServo.ok_head hok
    have hlb := last_bound hok
    by_cases g0 : l.length = 0
    · have g0' : (l.length : Int) = 0 := by omega
      (try (simp -implicitDefEqProofs only [go_sem, servoD_eq, servoC_eq, pairsD_len, g0'])); repeat' first | with_reducible exact True.intro | with_reducible refine And.intro ?_ ?_ | with_reducible intro _ | (((with_reducible refine isCall ?_); first | refine call_b (cv) rfl ?_ ?_ | refine call_d (cv) rfl ?_ | refine call_sb (cv) rfl ?_ ?_ | refine call_s (cv) rfl rfl ?_ | refine call_b (cw) rfl ?_ ?_ | refine call_d (cw) rfl ?_ | refine call_sb (cw) rfl ?_ ?_ | refine call_s (cw) rfl rfl ?_) <;> try (simp -implicitDefEqProofs only [go_sem, servoD_eq, servoC_eq, pairsD_len, g0'])) | (((with_reducible refine vc_b ?_ ?_) <;> intro _) <;> try (simp -implicitDefEqProofs only [go_sem, servoD_eq, servoC_eq, pairsD_len, g0'])) | simp (disch := omega) only [wrapI, wrapU, shl1, shl1', shl1'', shrN, shrN', and_one] | ((with_reducible refine isEx2 ?_); refine ⟨(_, _), rfl, ?_, ?_⟩) | ((with_reducible refine isEx ?_); refine ⟨_, rfl, ?_, ?_⟩)
      all_goals first | omega | (simp; done) | (simp; omega) | skip
    have g0' : ¬ (l.length : Int) = 0 := by omega
    have hW := servo_Where_ret s nl l
    rw [servoD_eq, servoC_eq] at hW
    have hkn : s.known l (inR 0 0 24) = if s.wrong < minL (s.endL l) then 3 else 0 := by simp [GServo.known, hc, inR]
    by_cases hm : s.wrong < minL (s.endL l)
    · have : s.ahead l 0 = ([], 3) := by simp [GServo.ahead, hkn, hm]
      rw [this] at hW
      (try (simp -implicitDefEqProofs only [go_sem, servoD_eq, servoC_eq, pairsD_len, g0'])); repeat' first | with_reducible exact True.intro | with_reducible refine And.intro ?_ ?_ | with_reducible intro _ | (((with_reducible refine isCall ?_); first | refine call_b (cv) rfl ?_ ?_ | refine call_d (cv) rfl ?_ | refine call_sb (cv) rfl ?_ ?_ | refine call_s (cv) rfl rfl ?_ | refine call_b (cw) rfl ?_ ?_ | refine call_d (cw) rfl ?_ | refine call_sb (cw) rfl ?_ ?_ | refine call_s (cw) rfl rfl ?_ | refine call_b (hW) rfl ?_ ?_ | refine call_d (hW) rfl ?_ | refine call_sb (hW) rfl ?_ ?_ | refine call_s (hW) rfl rfl ?_) <;> try (simp -implicitDefEqProofs only [go_sem, servoD_eq, servoC_eq, pairsD_len, g0'])) | (((with_reducible refine vc_b ?_ ?_) <;> intro _) <;> try (simp -implicitDefEqProofs only [go_sem, servoD_eq, servoC_eq, pairsD_len, g0'])) | simp (disch := omega) only [wrapI, wrapU, shl1, shl1', shl1'', shrN, shrN', and_one] | ((with_reducible refine isEx2 ?_); refine ⟨(_, _), rfl, ?_, ?_⟩) | ((with_reducible refine isEx ?_); refine ⟨_, rfl, ?_, ?_⟩)
      all_goals first | omega | (simp; done) | (simp; omega) | skip
    have hkz : s.known l true = 0 := by simp [GServo.known, hc, hm]
    have hah : s.ahead l 0 = (s.laterL l 0, 0) := by simp [GServo.ahead, hkn, hm]
    rw [hah] at hW
    have hpos : 0 < (s.laterL l 0).length := laterOf_pos _ _ _ (ends_pos hok hm)
    have hll := laterL_len hok l 0
    obtain ⟨hno, hmem⟩ := later_spec hok l (more := 0) (by omega)
    have hmm : ∀ x, inS (s.laterL l 0) x = decide (0 ≤ x ∧ x ≤ s.last ∧ ¬ s.wrong < (s.endL l)[x.toNat]?.getD 0) := fun x => by
      rw [Bool.eq_iff_iff, inS_iff, hmem, decide_eq_true_eq]
      constructor
      · rintro ⟨a, b, y, ⟨y0, y1, y2⟩, y3⟩
        have : x = y := by simp at y3; omega
        subst this; exact ⟨a, b, by omega⟩
      · rintro ⟨a, b, c⟩; exact ⟨a, b, x, ⟨a, b, by omega⟩, by simp, by simp⟩
    have hel : ∀ j, j < (s.laterL l 0).length → 0 ≤ ((s.laterL l 0)[j]?.getD default).1 ∧ ((s.laterL l 0)[j]?.getD default).1 ≤ ((s.laterL l 0)[j]?.getD default).2 ∧ ((s.laterL l 0)[j]?.getD default).2 ≤ s.last := fun j hj => by
      obtain ⟨m1, m2, m3⟩ := norm_mem hno hj
      have := (hmem _).1 m2
      have := (hmem _).1 m3
      omega
    have hgap := fun j hj => norm_pair hno (j := j) hj
    clear hmem
    dsimp only at hW
    have cin := fun v => law02_in_ret (s.laterL l 0).isEmpty (s.laterL l 0) v
    generalize s.laterL l 0 = L at *
    have cl := ref02_Last_ret s hok
    rw [servoD_eq, servoC_eq] at cl
    have hLn : ¬ (L.length : Int) = 0 := by omega
    (try (simp -implicitDefEqProofs only [go_sem, servoD_eq, servoC_eq, pairsD_len, g0'])); repeat' first | with_reducible exact True.intro | with_reducible refine And.intro ?_ ?_ | with_reducible intro _ | (((with_reducible refine isCall ?_); first | refine call_b (cv) rfl ?_ ?_ | refine call_d (cv) rfl ?_ | refine call_sb (cv) rfl ?_ ?_ | refine call_s (cv) rfl rfl ?_ | refine call_b (cw) rfl ?_ ?_ | refine call_d (cw) rfl ?_ | refine call_sb (cw) rfl ?_ ?_ | refine call_s (cw) rfl rfl ?_ | refine call_b (hW) rfl ?_ ?_ | refine call_d (hW) rfl ?_ | refine call_sb (hW) rfl ?_ ?_ | refine call_s (hW) rfl rfl ?_) <;> try (simp -implicitDefEqProofs only [go_sem, servoD_eq, servoC_eq, pairsD_len, g0'])) | (((with_reducible refine vc_b ?_ ?_) <;> intro _) <;> try (simp -implicitDefEqProofs only [go_sem, servoD_eq, servoC_eq, pairsD_len, g0'])) | simp (disch := omega) only [wrapI, wrapU, shl1, shl1', shl1'', shrN, shrN', and_one] | ((with_reducible refine isEx2 ?_); refine ⟨(_, _), rfl, ?_, ?_⟩) | ((with_reducible refine isEx ?_); refine ⟨_, rfl, ?_, ?_⟩)
    all_goals first | omega | (simp; done) | (simp; omega) | skip
    refine pw_loopS (α := Int × (List Int)) (l0 := ?l1) (m0 := ?m1) (fun x => [(10, .d (.int .i64 x.1))]) (fun x => [(38, .row T_int 1 false (ints x.2))]) (fun x => 0 ≤ x.1 ∧ x.1 ≤ L.length ∧ (x.2.length : Int) = 1 + 2 * x.1) (fun x => (L.length - x.1).toNat) (?a1_0, [pos]) ?h01 ?he1 ?he21 ?hI1 ?step1
    case h01 => (simp -implicitDefEqProofs only [go_sem, servoD_eq, servoC_eq, pairsD_len]; rfl)
    case he1 => rfl
    case he21 => rfl
    case' step1 => (rintro ⟨i, ask⟩ hI; try dsimp only at hI)
    case' hI1 => try dsimp only
    · exact ⟨by omega, by omega, by simp⟩
    · obtain ⟨i1, i2, i3⟩ := hI
      by_cases hi : i < L.length
      · obtain ⟨e1, e2, e3⟩ := hel i.toNat (by omega)
        have n1 : ¬ (L[i.toNat]?.getD default).1 < 0 := by omega
        have n2 : ¬ (L[i.toNat]?.getD default).2 < (L[i.toNat]?.getD default).1 := by omega
        have n3 : ¬ s.last < (L[i.toNat]?.getD default).2 := by omega
        by_cases hi0 : 0 < i
        · have w1 : IntKind.i64.wrap (i - 1) = i - 1 := wrapI _ (by omega)
          have e4 : (i - 1).toNat = i.toNat - 1 := by omega
          have hg := hgap (i.toNat - 1) (by omega)
          rw [show i.toNat - 1 + 1 = i.toNat by omega] at hg
          have w2 : IntKind.i64.wrap ((L[i.toNat - 1]?.getD default).2 + 1) = (L[i.toNat - 1]?.getD default).2 + 1 := by
            have := hel (i.toNat - 1) (by omega); exact wrapI _ (by omega)
          have n4 : ¬ (L[i.toNat]?.getD default).1 ≤ (L[i.toNat - 1]?.getD default).2 + 1 := by omega
          (try (simp -implicitDefEqProofs only [go_sem, servoD_eq, servoC_eq, pairsD_len, onSome_pairs, pairsD_unif, pairD_eq, n1, n2, n3, n4, hi0, w1, e4, w2, ints_snoc2])); repeat' first | with_reducible exact True.intro | with_reducible refine And.intro ?_ ?_ | with_reducible intro _ | (((with_reducible refine isCall ?_); first | refine call_b (cl) rfl ?_ ?_ | refine call_d (cl) rfl ?_ | refine call_sb (cl) rfl ?_ ?_ | refine call_s (cl) rfl rfl ?_) <;> try (simp -implicitDefEqProofs only [go_sem, servoD_eq, servoC_eq, pairsD_len, onSome_pairs, pairsD_unif, pairD_eq, n1, n2, n3, n4, hi0, w1, e4, w2, ints_snoc2])) | (((with_reducible refine vc_b ?_ ?_) <;> intro _) <;> try (simp -implicitDefEqProofs only [go_sem, servoD_eq, servoC_eq, pairsD_len, onSome_pairs, pairsD_unif, pairD_eq, n1, n2, n3, n4, hi0, w1, e4, w2, ints_snoc2])) | simp (disch := omega) only [wrapI, wrapU, shl1, shl1', shl1'', shrN, shrN', and_one] | ((with_reducible refine isEx2 ?_); refine ⟨(_, _), rfl, ?_, ?_⟩) | ((with_reducible refine isEx ?_); refine ⟨_, rfl, ?_, ?_⟩)
          all_goals first | omega | (simp; done) | (simp; omega) | skip
        · (try (simp -implicitDefEqProofs only [go_sem, servoD_eq, servoC_eq, pairsD_len, onSome_pairs, pairsD_unif, pairD_eq, n1, n2, n3, hi0, ints_snoc2])); repeat' first | with_reducible exact True.intro | with_reducible refine And.intro ?_ ?_ | with_reducible intro _ | (((with_reducible refine isCall ?_); first | refine call_b (cl) rfl ?_ ?_ | refine call_d (cl) rfl ?_ | refine call_sb (cl) rfl ?_ ?_ | refine call_s (cl) rfl rfl ?_) <;> try (simp -implicitDefEqProofs only [go_sem, servoD_eq, servoC_eq, pairsD_len, onSome_pairs, pairsD_unif, pairD_eq, n1, n2, n3, hi0, ints_snoc2])) | (((with_reducible refine vc_b ?_ ?_) <;> intro _) <;> try (simp -implicitDefEqProofs only [go_sem, servoD_eq, servoC_eq, pairsD_len, onSome_pairs, pairsD_unif, pairD_eq, n1, n2, n3, hi0, ints_snoc2])) | simp (disch := omega) only [wrapI, wrapU, shl1, shl1', shl1'', shrN, shrN', and_one] | ((with_reducible refine isEx2 ?_); refine ⟨(_, _), rfl, ?_, ?_⟩) | ((with_reducible refine isEx ?_); refine ⟨_, rfl, ?_, ?_⟩)
          all_goals first | omega | (simp; done) | (simp; omega) | skip
      · have hal : ask.length ≤ 3000 := by omega
        (try (simp -implicitDefEqProofs only [go_sem, servoD_eq, servoC_eq, pairsD_len, hLn])); repeat' first | with_reducible exact True.intro | with_reducible refine And.intro ?_ ?_ | with_reducible intro _ | (((with_reducible refine vc_b ?_ ?_) <;> intro _) <;> try (simp -implicitDefEqProofs only [go_sem, servoD_eq, servoC_eq, pairsD_len, hLn])) | simp (disch := omega) only [wrapI, wrapU, shl1, shl1', shl1'', shrN, shrN', and_one] | ((with_reducible refine isEx2 ?_); refine ⟨(_, _), rfl, ?_, ?_⟩) | ((with_reducible refine isEx ?_); refine ⟨_, rfl, ?_, ?_⟩)
        all_goals first | omega | (simp; done) | (simp; omega) | skip
        refine pw_loopS (α := Int) (l0 := ?l2) (m0 := ?m2) (fun x => [(11, .d (.int .i64 x))]) (fun x => []) (fun x => 0 ≤ x ∧ x ≤ ask.length) (fun x => (ask.length - x).toNat) ?a2_0 ?h02 ?he2 ?he22 ?hI2 ?step2
        case h02 => (simp -implicitDefEqProofs only [go_sem, servoD_eq, servoC_eq, pairsD_len]; rfl)
        case he2 => rfl
        case he22 => rfl
        case' step2 => (rintro k hI2; try dsimp only at hI2)
        case' hI2 => try dsimp only
        · exact ⟨by omega, by omega⟩
        · obtain ⟨k1, k2⟩ := hI2
          by_cases hk : k < ask.length
          · have hT := servo_Trace_ret s nl l (ask[k.toNat]?.getD 0)
            rw [trace_any hc (by omega) hkz] at hT
            rw [servoD_eq, servoC_eq] at hT
            have hci := cin (ask[k.toNat]?.getD 0)
            rw [hmm] at hci
            obtain ⟨V, hV⟩ : ∃ V, ask[k.toNat]?.getD 0 = V := ⟨_, rfl⟩
            rw [hV] at hT hci
            by_cases v1 : V < 0
            · rw [if_neg (by omega)] at hT
              change Ret E0 _ _ (.tup [.list true [], .int .i64 1]) at hT
              (try (simp -implicitDefEqProofs only [go_sem, servoD_eq, servoC_eq, hV, v1])); repeat' first | with_reducible exact True.intro | with_reducible refine And.intro ?_ ?_ | with_reducible intro _ | (((with_reducible refine isCall ?_); first | refine call_b (cl) rfl ?_ ?_ | refine call_d (cl) rfl ?_ | refine call_sb (cl) rfl ?_ ?_ | refine call_s (cl) rfl rfl ?_ | refine call_b (hT) rfl ?_ ?_ | refine call_d (hT) rfl ?_ | refine call_sb (hT) rfl ?_ ?_ | refine call_s (hT) rfl rfl ?_) <;> try (simp -implicitDefEqProofs only [go_sem, servoD_eq, servoC_eq, hV, v1])) | (((with_reducible refine vc_b ?_ ?_) <;> intro _) <;> try (simp -implicitDefEqProofs only [go_sem, servoD_eq, servoC_eq, hV, v1])) | simp (disch := omega) only [wrapI, wrapU, shl1, shl1', shl1'', shrN, shrN', and_one] | ((with_reducible refine isEx2 ?_); refine ⟨(_, _), rfl, ?_, ?_⟩) | ((with_reducible refine isEx ?_); refine ⟨_, rfl, ?_, ?_⟩)
              all_goals first | omega | (simp; done) | (simp; omega) | skip
            · by_cases v2 : s.last < V
              · rw [if_neg (by omega)] at hT
                change Ret E0 _ _ (.tup [.list true [], .int .i64 1]) at hT
                (try (simp -implicitDefEqProofs only [go_sem, servoD_eq, servoC_eq, hV, v1, v2])); repeat' first | with_reducible exact True.intro | with_reducible refine And.intro ?_ ?_ | with_reducible intro _ | (((with_reducible refine isCall ?_); first | refine call_b (cl) rfl ?_ ?_ | refine call_d (cl) rfl ?_ | refine call_sb (cl) rfl ?_ ?_ | refine call_s (cl) rfl rfl ?_ | refine call_b (hT) rfl ?_ ?_ | refine call_d (hT) rfl ?_ | refine call_sb (hT) rfl ?_ ?_ | refine call_s (hT) rfl rfl ?_) <;> try (simp -implicitDefEqProofs only [go_sem, servoD_eq, servoC_eq, hV, v1, v2])) | (((with_reducible refine vc_b ?_ ?_) <;> intro _) <;> try (simp -implicitDefEqProofs only [go_sem, servoD_eq, servoC_eq, hV, v1, v2])) | simp (disch := omega) only [wrapI, wrapU, shl1, shl1', shl1'', shrN, shrN', and_one] | ((with_reducible refine isEx2 ?_); refine ⟨(_, _), rfl, ?_, ?_⟩) | ((with_reducible refine isEx ?_); refine ⟨_, rfl, ?_, ?_⟩)
                all_goals first | omega | (simp; done) | (simp; omega) | skip
              · rw [if_pos (by omega)] at hT
                by_cases v3 : s.wrong < (s.endL l)[V.toNat]?.getD 0
                · rw [if_pos v3] at hT
                  rw [show decide (0 ≤ V ∧ V ≤ s.last ∧ ¬ s.wrong < (s.endL l)[V.toNat]?.getD 0) = false from decide_eq_false (fun h => h.2.2 v3)] at hci
                  change Ret E0 _ _ (.tup [.list true [], .int .i64 3]) at hT
                  (try (simp -implicitDefEqProofs only [go_sem, servoD_eq, servoC_eq, hV, v1, v2])); repeat' first | with_reducible exact True.intro | with_reducible refine And.intro ?_ ?_ | with_reducible intro _ | (((with_reducible refine isCall ?_); first | refine call_b (cl) rfl ?_ ?_ | refine call_d (cl) rfl ?_ | refine call_sb (cl) rfl ?_ ?_ | refine call_s (cl) rfl rfl ?_ | refine call_b (hT) rfl ?_ ?_ | refine call_d (hT) rfl ?_ | refine call_sb (hT) rfl ?_ ?_ | refine call_s (hT) rfl rfl ?_ | refine call_b (hci) rfl ?_ ?_ | refine call_d (hci) rfl ?_ | refine call_sb (hci) rfl ?_ ?_ | refine call_s (hci) rfl rfl ?_) <;> try (simp -implicitDefEqProofs only [go_sem, servoD_eq, servoC_eq, hV, v1, v2])) | (((with_reducible refine vc_b ?_ ?_) <;> intro _) <;> try (simp -implicitDefEqProofs only [go_sem, servoD_eq, servoC_eq, hV, v1, v2])) | simp (disch := omega) only [wrapI, wrapU, shl1, shl1', shl1'', shrN, shrN', and_one] | ((with_reducible refine isEx2 ?_); refine ⟨(_, _), rfl, ?_, ?_⟩) | ((with_reducible refine isEx ?_); refine ⟨_, rfl, ?_, ?_⟩)
                  all_goals first | omega | (simp; done) | (simp; omega) | skip
                · rw [if_neg v3] at hT
                  rw [show decide (0 ≤ V ∧ V ≤ s.last ∧ ¬ s.wrong < (s.endL l)[V.toNat]?.getD 0) = true from decide_eq_true ⟨by omega, by omega, v3⟩] at hci
                  have hpp := path_path hok l (pos := V) (by omega)
                  obtain ⟨m1, m2⟩ := path_mis hok (l := l) (by omega) (pos := V) (by omega)
                  have c1 := ref02_IsPath_ret s hok nl l (s.path l V).isEmpty (s.path l V) true ⟨fun _ => hpp, fun _ => rfl⟩
                  have c2 := ref02_Misread_ret s nl l hc (s.path l V).isEmpty (s.path l V) hpp
                  have hpl := path_len s l V
                  have hlw : ¬ s.wrong < s.misread l (s.path l V) := by omega
                  rw [servoD_eq, servoC_eq] at c1 c2
                  generalize s.misread l (s.path l V) = MR at *
                  generalize s.path l V = PA at *
                  dsimp only at hT
                  have w1 : IntKind.i64.wrap ((PA.length : Int) - 1) = (PA.length : Int) - 1 := wrapI _ (by omega)
                  have e1 : ((PA.length : Int) - 1).toNat = l.length - 1 := by omega
                  (try (simp -implicitDefEqProofs only [go_sem, servoD_eq, servoC_eq, hV, v1, v2, hlw, w1, e1, m2])); repeat' first | with_reducible exact True.intro | with_reducible refine And.intro ?_ ?_ | with_reducible intro _ | (((with_reducible refine isCall ?_); first | refine call_b (cl) rfl ?_ ?_ | refine call_d (cl) rfl ?_ | refine call_sb (cl) rfl ?_ ?_ | refine call_s (cl) rfl rfl ?_ | refine call_b (hT) rfl ?_ ?_ | refine call_d (hT) rfl ?_ | refine call_sb (hT) rfl ?_ ?_ | refine call_s (hT) rfl rfl ?_ | refine call_b (hci) rfl ?_ ?_ | refine call_d (hci) rfl ?_ | refine call_sb (hci) rfl ?_ ?_ | refine call_s (hci) rfl rfl ?_ | refine call_b (c1) rfl ?_ ?_ | refine call_d (c1) rfl ?_ | refine call_sb (c1) rfl ?_ ?_ | refine call_s (c1) rfl rfl ?_ | refine call_b (c2) rfl ?_ ?_ | refine call_d (c2) rfl ?_ | refine call_sb (c2) rfl ?_ ?_ | refine call_s (c2) rfl rfl ?_) <;> try (simp -implicitDefEqProofs only [go_sem, servoD_eq, servoC_eq, hV, v1, v2, hlw, w1, e1, m2])) | (((with_reducible refine vc_b ?_ ?_) <;> intro _) <;> try (simp -implicitDefEqProofs only [go_sem, servoD_eq, servoC_eq, hV, v1, v2, hlw, w1, e1, m2])) | simp (disch := omega) only [wrapI, wrapU, shl1, shl1', shl1'', shrN, shrN', and_one] | ((with_reducible refine isEx2 ?_); refine ⟨(_, _), rfl, ?_, ?_⟩) | ((with_reducible refine isEx ?_); refine ⟨_, rfl, ?_, ?_⟩)
                  all_goals first | omega | (simp; done) | (simp; omega) | skip
          · (try (simp -implicitDefEqProofs only [go_sem, servoD_eq, servoC_eq])); repeat' first | with_reducible exact True.intro | with_reducible refine And.intro ?_ ?_ | with_reducible intro _ | (((with_reducible refine isCall ?_); first | refine call_b (cw) rfl ?_ ?_ | refine call_d (cw) rfl ?_ | refine call_sb (cw) rfl ?_ ?_ | refine call_s (cw) rfl rfl ?_) <;> try (simp -implicitDefEqProofs only [go_sem, servoD_eq, servoC_eq])) | (((with_reducible refine vc_b ?_ ?_) <;> intro _) <;> try (simp -implicitDefEqProofs only [go_sem, servoD_eq, servoC_eq])) | simp (disch := omega) only [wrapI, wrapU, shl1, shl1', shl1'', shrN, shrN', and_one] | ((with_reducible refine isEx2 ?_); refine ⟨(_, _), rfl, ?_, ?_⟩) | ((with_reducible refine isEx ?_); refine ⟨_, rfl, ?_, ?_⟩)
            all_goals first | omega | (simp; done) | (simp; omega) | skip

theorem ServoTrue_ret (s : GServo) (nl : Bool) (l : List Pair) (np : Bool) (p : List Int) (nq : Bool) (q : List Int) :
    Ret E0 F_law02_ServoTrue [servoD s, .list nl (pairsD l), .agg [.list np (ints p), .list nq (ints q)]] (.bool true) := by
  refine ret_of_pw dec_law02_ServoTrue mixed (by simp) fun hwf => ?_
  rw [enter_eq]; unfold pc_law02_ServoTrue
  have cv := law02_valid_ret s nl l
  have cw := law02_works_ret
  rw [servoD_eq, servoC_eq] at cv
  cases hv : s.valid l with
  | false =>
    rw [hv] at cv
    (try (simp -implicitDefEqProofs only [go_sem, servoD_eq, servoC_eq])); repeat' first | with_reducible exact True.intro | with_reducible refine And.intro ?_ ?_ | with_reducible intro _ | (((with_reducible refine isCall ?_); first | refine call_b (cv) rfl ?_ ?_ | refine call_d (cv) rfl ?_ | refine call_sb (cv) rfl ?_ ?_ | refine call_s (cv) rfl rfl ?_ | refine call_b (cw) rfl ?_ ?_ | refine call_d (cw) rfl ?_ | refine call_sb (cw) rfl ?_ ?_ | refine call_s (cw) rfl rfl ?_) <;> try (simp -implicitDefEqProofs only [go_sem, servoD_eq, servoC_eq])) | (((with_reducible refine vc_b ?_ ?_) <;> intro _) <;> try (simp -implicitDefEqProofs only [go_sem, servoD_eq, servoC_eq])) | simp (disch := omega) only [wrapI, wrapU, shl1, shl1', shl1'', shrN, shrN', and_one] | ((with_reducible refine isEx ?_); refine ⟨_, rfl, ?_, ?_⟩)
    all_goals first | omega | (simp; done) | (simp; omega) | skip
  | true =>
    rw [hv] at cv
    obtain ⟨hc, h8⟩ := valid_zero hv
    obtain ⟨hok, hall, h24⟩ := check_zero hc
    have hd := GServo.ok_head hok
    have hlb := last_bound hok
    by_cases g1 : s.PossP l p q
    · have cp := law02_possible_ret s nl l hc np nq p q true ⟨fun _ => g1, fun _ => rfl⟩
      rw [servoD_eq, servoC_eq] at cp
      obtain ⟨e1, e2⟩ := poss_end hc g1
      have hkz : s.known l true = 0 := known_ok hc e1 e2
      have hm := (known_zero hkz).2.2
      have hW := servo_Where_ret s nl l
      have hah : s.ahead l 0 = (s.laterL l 0, 0) := by
        have : s.known l (inR 0 0 24) = 0 := hkz
        simp only [GServo.ahead, this, if_true]
      rw [hah] at hW
      have hB := servo_Blame_ret s nl l
      have hbl : s.blame l = (s.blameK l l.length, 0) := by simp [GServo.blame, hkz]
      rw [hbl] at hB
      have hF := servo_Fewest_ret s nl l
      have hfe : s.fewest l = (minL (s.endL l), 0) := by simp [GServo.fewest, hc]
      rw [hfe] at hF
      have hflaw := fewest_law hc g1
      have hq12 := g1.2.1
      have hp40 := g1.1
      have hp0 := g1.2.2.2.2.1
      have hpl := g1.2.2.1.1
      have hpr := g1.2.2.1.2.1
      have hqr := g1.2.2.2.2.2
      have cm := ref02_Misread_ret s nl l hc np p g1.2.2.1
      have ci := law02_in_ret (s.laterL l 0).isEmpty (s.laterL l 0) (s.at p q 0)
      have hmem0 : MemP (s.laterL l 0) (s.at p q 0) := by simpa using poss_mem hc g1 (k := 0) (by omega)
      rw [(inS_iff _ _).2 hmem0] at ci
      have hat0 : s.at p q 0 = p[p.length - 1]?.getD 0 := rfl
      rw [hat0] at ci
      have hbg := fun i hi => blame_get (s := s) (l := l) (i := i) hi
      have hbu := fun i hi => blame_up (s := s) (l := l) (i := i) hi
      have hbk := blameK_len s l l.length
      have hblaw := fun k hk hg => blame_law hc g1 (k := k) hk hg
      have w1 : IntKind.i64.wrap ((p.length : Int) - 1) = (p.length : Int) - 1 := wrapI _ (by omega)
      have e3 : ((p.length : Int) - 1).toNat = p.length - 1 := by omega
      rw [servoD_eq, servoC_eq] at hW hB hF cm
      dsimp only at hW hB hF
      have n1 : ¬ s.misread l p < minL (s.endL l) := by omega
      generalize s.misread l p = MR at *
      generalize minL (s.endL l) = ML at *
      generalize s.blameK l l.length = BL at *
      have hmemk := fun k hk => poss_mem hc g1 (k := k) hk
      generalize s.laterL l 0 = L0 at *
      have n2 : ¬ (l.length : Int) < BL.length := by omega
      (try (simp -implicitDefEqProofs only [go_sem, servoD_eq, servoC_eq, pairsD_len, w1, e3, n1, n2])); repeat' first | with_reducible exact True.intro | with_reducible refine And.intro ?_ ?_ | with_reducible intro _ | (((with_reducible refine isCall ?_); first | refine call_b (cv) rfl ?_ ?_ | refine call_d (cv) rfl ?_ | refine call_sb (cv) rfl ?_ ?_ | refine call_s (cv) rfl rfl ?_ | refine call_b (cp) rfl ?_ ?_ | refine call_d (cp) rfl ?_ | refine call_sb (cp) rfl ?_ ?_ | refine call_s (cp) rfl rfl ?_ | refine call_b (cw) rfl ?_ ?_ | refine call_d (cw) rfl ?_ | refine call_sb (cw) rfl ?_ ?_ | refine call_s (cw) rfl rfl ?_ | refine call_b (hW) rfl ?_ ?_ | refine call_d (hW) rfl ?_ | refine call_sb (hW) rfl ?_ ?_ | refine call_s (hW) rfl rfl ?_ | refine call_b (hB) rfl ?_ ?_ | refine call_d (hB) rfl ?_ | refine call_sb (hB) rfl ?_ ?_ | refine call_s (hB) rfl rfl ?_ | refine call_b (hF) rfl ?_ ?_ | refine call_d (hF) rfl ?_ | refine call_sb (hF) rfl ?_ ?_ | refine call_s (hF) rfl rfl ?_ | refine call_b (ci) rfl ?_ ?_ | refine call_d (ci) rfl ?_ | refine call_sb (ci) rfl ?_ ?_ | refine call_s (ci) rfl rfl ?_ | refine call_b (cm) rfl ?_ ?_ | refine call_d (cm) rfl ?_ | refine call_sb (cm) rfl ?_ ?_ | refine call_s (cm) rfl rfl ?_) <;> try (simp -implicitDefEqProofs only [go_sem, servoD_eq, servoC_eq, pairsD_len, w1, e3, n1, n2])) | (((with_reducible refine vc_b ?_ ?_) <;> intro _) <;> try (simp -implicitDefEqProofs only [go_sem, servoD_eq, servoC_eq, pairsD_len, w1, e3, n1, n2])) | simp (disch := omega) only [wrapI, wrapU, shl1, shl1', shl1'', shrN, shrN', and_one] | ((with_reducible refine isEx ?_); refine ⟨_, rfl, ?_, ?_⟩)
      all_goals first | omega | (simp; done) | (simp; omega) | skip
      refine pw_loopS (α := Int) (l0 := ?l3) (m0 := ?m3) (fun x => [(13, .d (.int .i64 x))]) (fun x => []) (fun x => 0 ≤ x ∧ x ≤ BL.length) (fun x => (BL.length - x).toNat) ?a3_0 ?h03 ?he3 ?he23 ?hI3 ?step3
      case h03 => (simp -implicitDefEqProofs only [go_sem, servoD_eq, servoC_eq, pairsD_len, w1, e3]; rfl)
      case he3 => rfl
      case he23 => rfl
      case' step3 => (rintro i hI; try dsimp only at hI)
      case' hI3 => try dsimp only
      · exact ⟨by omega, by omega⟩
      · obtain ⟨i1, i2⟩ := hI
        by_cases hi : i < BL.length
        · obtain ⟨K, hK, hKl, hKg⟩ := hbg i.toNat (by omega)
          have hna := hblaw K hKl hKg
          have hwo := allD_iff.1 hall K hKl
          have hpk := hpr K (by omega)
          have cA := ref02_Agrees_ret s hok (l[K]?.getD default) hwo K (p[K]?.getD 0) (by omega) (by omega)
          rw [hna] at cA
          rw [servoD_eq, servoC_eq, pairD_eq] at cA
          have m1 : ¬ (K : Int) < 0 := by omega
          have m2 : ¬ (l.length : Int) ≤ K := by omega
          clear hblaw hna
          by_cases hi0 : 0 < i
          · have w2 : IntKind.i64.wrap (i - 1) = i - 1 := wrapI _ (by omega)
            have e4 : (i - 1).toNat = i.toNat - 1 := by omega
            have hup := hbu (i.toNat - 1) (by omega)
            rw [show i.toNat - 1 + 1 = i.toNat by omega, hK] at hup
            have m3 : ¬ (K : Int) ≤ BL[i.toNat - 1]?.getD 0 := by omega
            (try (simp -implicitDefEqProofs only [go_sem, servoD_eq, servoC_eq, pairsD_len, onSome_pairs, pairsD_unif, pairD_eq, hK, m1, m2, hi0, w2, e4, m3, Int.toNat_natCast])); repeat' first | with_reducible exact True.intro | with_reducible refine And.intro ?_ ?_ | with_reducible intro _ | (((with_reducible refine isCall ?_); first | refine call_b (cA) rfl ?_ ?_ | refine call_d (cA) rfl ?_ | refine call_sb (cA) rfl ?_ ?_ | refine call_s (cA) rfl rfl ?_) <;> try (simp -implicitDefEqProofs only [go_sem, servoD_eq, servoC_eq, pairsD_len, onSome_pairs, pairsD_unif, pairD_eq, hK, m1, m2, hi0, w2, e4, m3, Int.toNat_natCast])) | (((with_reducible refine vc_b ?_ ?_) <;> intro _) <;> try (simp -implicitDefEqProofs only [go_sem, servoD_eq, servoC_eq, pairsD_len, onSome_pairs, pairsD_unif, pairD_eq, hK, m1, m2, hi0, w2, e4, m3, Int.toNat_natCast])) | simp (disch := omega) only [wrapI, wrapU, shl1, shl1', shl1'', shrN, shrN', and_one] | ((with_reducible refine isEx ?_); refine ⟨_, rfl, ?_, ?_⟩)
            all_goals first | omega | (simp; done) | (simp; omega) | skip
          · (try (simp -implicitDefEqProofs only [go_sem, servoD_eq, servoC_eq, pairsD_len, onSome_pairs, pairsD_unif, pairD_eq, hK, m1, m2, hi0, Int.toNat_natCast])); repeat' first | with_reducible exact True.intro | with_reducible refine And.intro ?_ ?_ | with_reducible intro _ | (((with_reducible refine isCall ?_); first | refine call_b (cA) rfl ?_ ?_ | refine call_d (cA) rfl ?_ | refine call_sb (cA) rfl ?_ ?_ | refine call_s (cA) rfl rfl ?_) <;> try (simp -implicitDefEqProofs only [go_sem, servoD_eq, servoC_eq, pairsD_len, onSome_pairs, pairsD_unif, pairD_eq, hK, m1, m2, hi0, Int.toNat_natCast])) | (((with_reducible refine vc_b ?_ ?_) <;> intro _) <;> try (simp -implicitDefEqProofs only [go_sem, servoD_eq, servoC_eq, pairsD_len, onSome_pairs, pairsD_unif, pairD_eq, hK, m1, m2, hi0, Int.toNat_natCast])) | simp (disch := omega) only [wrapI, wrapU, shl1, shl1', shl1'', shrN, shrN', and_one] | ((with_reducible refine isEx ?_); refine ⟨_, rfl, ?_, ?_⟩)
            all_goals first | omega | (simp; done) | (simp; omega) | skip
        · clear hblaw hbg hbu
          (try (simp -implicitDefEqProofs only [go_sem, servoD_eq, servoC_eq])); repeat' first | with_reducible exact True.intro | with_reducible refine And.intro ?_ ?_ | with_reducible intro _ | (((with_reducible refine vc_b ?_ ?_) <;> intro _) <;> try (simp -implicitDefEqProofs only [go_sem, servoD_eq, servoC_eq])) | simp (disch := omega) only [wrapI, wrapU, shl1, shl1', shl1'', shrN, shrN', and_one] | ((with_reducible refine isEx ?_); refine ⟨_, rfl, ?_, ?_⟩)
          all_goals first | omega | (simp; done) | (simp; omega) | skip
          refine pw_loopS (α := Int) (l0 := ?l4) (m0 := ?m4) (fun x => [(14, .d (.int .i64 x))]) (fun x => []) (fun x => 0 ≤ x ∧ x ≤ q.length) (fun x => (q.length - x).toNat) ?a4_0 ?h04 ?he4 ?he24 ?hI4 ?step4
          case h04 => (simp -implicitDefEqProofs only [go_sem, servoD_eq, servoC_eq]; rfl)
          case he4 => rfl
          case he24 => rfl
          case' step4 => (rintro k hI2; try dsimp only at hI2)
          case' hI4 => try dsimp only
          · exact ⟨by omega, by omega⟩
          · obtain ⟨k1, k2⟩ := hI2
            by_cases hk : k < q.length
            · have w2 : IntKind.i64.wrap (k + 1) = k + 1 := wrapI _ (by omega)
              have hA := servo_Ahead_ret s nl l (k + 1)
              have hka : s.ahead l (k + 1) = (s.laterL l (k + 1), 0) := by
                have : inR (k + 1) 0 24 = true := by simp [inR]; omega
                simp only [GServo.ahead, this, hkz, if_true]
              rw [hka] at hA
              have cI := law02_in_ret (s.laterL l (k + 1)).isEmpty (s.laterL l (k + 1)) (q[k.toNat]?.getD 0)
              have hmk := hmemk (k.toNat + 1) (by omega)
              rw [show ((k.toNat + 1 : Nat) : Int) = k + 1 by omega, show s.at p q (k.toNat + 1) = q[k.toNat]?.getD 0 from rfl] at hmk
              rw [(inS_iff _ _).2 hmk] at cI
              rw [servoD_eq, servoC_eq] at hA
              dsimp only at hA
              generalize s.laterL l (k + 1) = LK at *
              (try (simp -implicitDefEqProofs only [go_sem, servoD_eq, servoC_eq, w2])); repeat' first | with_reducible exact True.intro | with_reducible refine And.intro ?_ ?_ | with_reducible intro _ | (((with_reducible refine isCall ?_); first | refine call_b (hA) rfl ?_ ?_ | refine call_d (hA) rfl ?_ | refine call_sb (hA) rfl ?_ ?_ | refine call_s (hA) rfl rfl ?_ | refine call_b (cI) rfl ?_ ?_ | refine call_d (cI) rfl ?_ | refine call_sb (cI) rfl ?_ ?_ | refine call_s (cI) rfl rfl ?_) <;> try (simp -implicitDefEqProofs only [go_sem, servoD_eq, servoC_eq, w2])) | (((with_reducible refine vc_b ?_ ?_) <;> intro _) <;> try (simp -implicitDefEqProofs only [go_sem, servoD_eq, servoC_eq, w2])) | simp (disch := omega) only [wrapI, wrapU, shl1, shl1', shl1'', shrN, shrN', and_one] | ((with_reducible refine isEx ?_); refine ⟨_, rfl, ?_, ?_⟩)
              all_goals first | omega | (simp; done) | (simp; omega) | skip
            · (try (simp -implicitDefEqProofs only [go_sem, servoD_eq, servoC_eq])); repeat' first | with_reducible exact True.intro | with_reducible refine And.intro ?_ ?_ | with_reducible intro _ | (((with_reducible refine isCall ?_); first | refine call_b (cw) rfl ?_ ?_ | refine call_d (cw) rfl ?_ | refine call_sb (cw) rfl ?_ ?_ | refine call_s (cw) rfl rfl ?_) <;> try (simp -implicitDefEqProofs only [go_sem, servoD_eq, servoC_eq])) | (((with_reducible refine vc_b ?_ ?_) <;> intro _) <;> try (simp -implicitDefEqProofs only [go_sem, servoD_eq, servoC_eq])) | simp (disch := omega) only [wrapI, wrapU, shl1, shl1', shl1'', shrN, shrN', and_one] | ((with_reducible refine isEx ?_); refine ⟨_, rfl, ?_, ?_⟩)
              all_goals first | omega | (simp; done) | (simp; omega) | skip
    · have cp := law02_possible_ret s nl l hc np nq p q false ⟨fun h => Bool.noConfusion h, fun h => absurd h g1⟩
      rw [servoD_eq, servoC_eq] at cp
      (try (simp -implicitDefEqProofs only [go_sem, servoD_eq, servoC_eq])); repeat' first | with_reducible exact True.intro | with_reducible refine And.intro ?_ ?_ | with_reducible intro _ | (((with_reducible refine isCall ?_); first | refine call_b (cv) rfl ?_ ?_ | refine call_d (cv) rfl ?_ | refine call_sb (cv) rfl ?_ ?_ | refine call_s (cv) rfl rfl ?_ | refine call_b (cp) rfl ?_ ?_ | refine call_d (cp) rfl ?_ | refine call_sb (cp) rfl ?_ ?_ | refine call_s (cp) rfl rfl ?_ | refine call_b (cw) rfl ?_ ?_ | refine call_d (cw) rfl ?_ | refine call_sb (cw) rfl ?_ ?_ | refine call_s (cw) rfl rfl ?_) <;> try (simp -implicitDefEqProofs only [go_sem, servoD_eq, servoC_eq])) | (((with_reducible refine vc_b ?_ ?_) <;> intro _) <;> try (simp -implicitDefEqProofs only [go_sem, servoD_eq, servoC_eq])) | simp (disch := omega) only [wrapI, wrapU, shl1, shl1', shl1'', shrN, shrN', and_one] | ((with_reducible refine isEx ?_); refine ⟨_, rfl, ?_, ?_⟩)
      all_goals first | omega | (simp; done) | (simp; omega) | skip
end Go.Pw
