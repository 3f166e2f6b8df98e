/- A part of the proof. -/
import Derived.Test.YtlnppoaghpbpoaaServoU
set_option linter.all false
open Go Go.Pw Go.Proofs
namespace Go.Pw
set_option linter.unusedSimpArgs false
set_option linter.unusedVariables false
set_option maxRecDepth 100000
set_option maxHeartbeats 1600000

theorem norm_mem {L : List Pair} (h : Norm L) {j : Nat} (hj : j < L.length) : (L[j]?.getD default).1 ≤ (L[j]?.getD default).2 ∧ MemP L (L[j]?.getD default).1 ∧ MemP L (L[j]?.getD default).2 := by
  have hm := getD_mem hj
  have := h.2 _ hm
  exact ⟨this, ⟨_, hm, by omega, this⟩, ⟨_, hm, this, by omega⟩⟩
theorem norm_ends {L : List Pair} (h : Norm L) {x : Int} (hx : MemP L x) : (L[0]?.getD default).1 ≤ x ∧ x ≤ (lastP L).2 := by
  constructor
  · cases L with
    | nil => exact absurd hx (memP_nil x)
    | cons q L => simpa using norm_head h hx
  · have hpos : 0 < L.length := by cases L with | nil => exact absurd hx (memP_nil x) | cons _ _ => simp
    obtain ⟨init, q, e1, e2, e3⟩ := snoc_of hpos
    rw [e2]
    rw [e1] at h hx
    obtain ⟨n1, n2, n3⟩ := (norm_snoc _ _).1 h
    rcases (memP_snoc _ _ _).1 hx with ⟨p, hp, h1, h2⟩ | h1
    · have := n2 p hp; omega
    · exact h1.2
theorem firstK_spec (p : Nat → Bool) : ∀ n k, k ≤ firstK p n k ∧ firstK p n k ≤ k + n ∧ ∀ j, k ≤ j → j < firstK p n k → p j = false
  | 0, k => ⟨Nat.le_refl _, by simp [firstK], fun j h1 h2 => by simp [firstK] at h2; omega⟩
  | n + 1, k => by
    simp only [firstK]
    by_cases hk : p k = true
    · rw [if_pos hk]; exact ⟨Nat.le_refl _, by omega, fun j h1 h2 => by omega⟩
    · rw [if_neg hk]
      obtain ⟨h1, h2, h3⟩ := firstK_spec p n (k + 1)
      refine ⟨by omega, by omega, fun j h4 h5 => ?_⟩
      rcases (show j = k ∨ k + 1 ≤ j by omega) with rfl | h
      · simpa using hk
      · exact h3 j h h5
theorem min_le_of {s : GServo} (h : s.ok = true) {l : List Pair} {p : Int} (h0 : 0 ≤ p ∧ p ≤ s.last) (hp : (s.endL l)[p.toNat]?.getD 0 ≤ s.wrong) : ¬ s.wrong < minL (s.endL l) := by
  have hz := endL_len h l
  have := (minL_spec (l := s.endL l) (by omega)).2 _ (getD_mem0 (l := s.endL l) (i := p.toNat) (by omega))
  omega
theorem known_ok {s : GServo} {l : List Pair} (hc : s.check l = 0) {p : Int} (h0 : 0 ≤ p ∧ p ≤ s.last) (hp : (s.endL l)[p.toNat]?.getD 0 ≤ s.wrong) : s.known l true = 0 := by
  simp [GServo.known, hc, min_le_of (check_zero hc).1 h0 hp]
theorem poss_end {s : GServo} {l : List Pair} (hc : s.check l = 0) {p q : List Int} (h : s.PossP l p q) : (0 ≤ s.at p q 0 ∧ s.at p q 0 ≤ s.last) ∧ (s.endL l)[(s.at p q 0).toNat]?.getD 0 ≤ s.wrong := by
  obtain ⟨h1, h2, h3, h4, h5, h6⟩ := h
  have hl := h3.1
  have e : s.at p q 0 = pathF p (l.length - 1) := by simp [GServo.at, pathF, hl]
  have := end_le (check_zero hc).1 (l := l) (P := pathF p) (by omega) (pathP_ok h3)
  have hb := h3.2.1 (l.length - 1) (by omega)
  unfold GServo.misread at h4
  rw [hl] at h4
  rw [e]
  exact ⟨hb, by omega⟩
theorem poss_at {s : GServo} {l : List Pair} (hc : s.check l = 0) {p q : List Int} (h : s.PossP l p q) : ∀ k : Nat, k ≤ q.length → (0 ≤ s.at p q k ∧ s.at p q k ≤ s.last) ∧ s.at p q k - s.at p q 0 ≤ k * s.move ∧ s.at p q 0 - s.at p q k ≤ k * s.move
  | 0, _ => ⟨(poss_end hc h).1, by simp⟩
  | k + 1, hk => by
    obtain ⟨ih1, ih2⟩ := poss_at hc h k (by omega)
    have h6 := h.2.2.2.2.2 k (by omega)
    have e : s.at p q (k + 1) = q[k]?.getD 0 := by simp [GServo.at]
    rw [← e] at h6
    have e2 : ((k + 1 : Nat) : Int) * s.move = k * s.move + s.move := by rw [Int.natCast_add, Int.add_mul]; simp
    rw [e2]
    exact ⟨⟨by omega, by omega⟩, by omega, by omega⟩
theorem poss_mem {s : GServo} {l : List Pair} (hc : s.check l = 0) {p q : List Int} (h : s.PossP l p q) {k : Nat} (hk : k ≤ q.length) : MemP (s.laterL l k) (s.at p q k) := by
  obtain ⟨h1, h2⟩ := poss_end hc h
  obtain ⟨h3, h4⟩ := poss_at hc h k hk
  exact ((later_spec (check_zero hc).1 l (more := k) (by omega)).2 _).2 ⟨h3.1, h3.2, _, ⟨h1.1, h1.2, h2⟩, h4⟩

theorem laterL_len {s : GServo} (hok : s.ok = true) (l : List Pair) (k : Int) : (s.laterL l k).length ≤ 1009 := by
  have h1 := laterOf_len (k * s.move) s.last (s.endsL l) (s.endsL l).length (by omega)
  rw [List.take_of_length_le (by omega)] at h1
  have h4 := spansOf_len (fun p => decide ((s.endL l)[p]?.getD 0 ≤ s.wrong)) (s.endL l).length
  have := endL_len hok l
  have := last_bound hok
  change (s.endsL l).length ≤ _ at h4
  change (laterOf (k * s.move) s.last (s.endsL l)).length ≤ _
  omega
/-- The track that is found again. -/
theorem found_law {s : GServo} {l : List Pair} (hc : s.check l = 0) {p : List Int} (hp : s.PathP l.length p) (hw : s.wrong < l.length)
    (ha : ∀ j : Nat, (l.length : Int) - 1 - s.wrong ≤ j → j < l.length → ¬ (l[j]?.getD default).1 = -1 ∧ s.agrees (l[j]?.getD default) j (p[j]?.getD 0) = true) {x : Int} (hx : MemP (s.laterL l 0) x) :
    p[p.length - 1]?.getD 0 - (2 * s.noise + 2 * s.move * s.wrong) ≤ x ∧ x ≤ p[p.length - 1]?.getD 0 + (2 * s.noise + 2 * s.move * s.wrong) := by
  obtain ⟨hok, hall, h24⟩ := check_zero hc
  have hd := GServo.ok_head hok
  obtain ⟨x0, x1, y, ⟨y0, y1, y2⟩, hy⟩ := ((later_spec hok l (more := 0) (by omega)).2 x).1 hx
  have : x = y := by simp at hy; omega
  subst this
  obtain ⟨P, p1, p2, p3⟩ := end_ex hok (l := l) (by omega) y0 y1
  have hn : (l.length - 1 - s.wrong.toNat) + (s.wrong.toNat + 1) = l.length := by omega
  obtain ⟨j, j1, j2, j3⟩ := some_agrees s l P (l.length - 1 - s.wrong.toNat) (s.wrong.toNat + 1) (by rw [hn, p3]; omega)
  obtain ⟨a1, a2⟩ := ha j (by omega) (by omega)
  have hq : s.cost l j (pathF p j) = 0 := by unfold GServo.cost; rw [Int.toNat_natCast, pathF_eq, a2]; rfl
  have hnear := agree_near (s := s) (l := l) (i := j) (by rw [Int.toNat_natCast]; exact a1) j3 hq
  have f1 := okP_far (by omega) p1 j (l.length - 1 - j) (by omega)
  have f2 := okP_far (by omega) (pathP_ok hp) j (l.length - 1 - j) (by omega)
  rw [show j + (l.length - 1 - j) = l.length - 1 by omega] at f1 f2
  rw [p2] at f1
  rw [pathF_eq] at f2
  rw [hp.1]
  have hm : ((l.length - 1 - j : Nat) : Int) * s.move ≤ s.wrong * s.move := Int.mul_le_mul_of_nonneg_right (by omega) (by omega)
  have hm2 : 2 * s.move * s.wrong = 2 * (s.wrong * s.move) := by rw [Int.mul_assoc, Int.mul_comm s.move]
  rw [hm2]
  omega

attribute [local congr] cg_pw cg_seqI cg_seqE cg_stepI cg_ev cg_evBin cg_condB cg_condV cg_thenQ cg_blockQ cg_onSome cg_onCells cg_onRow cg_onMap cg_onOpt cg_ghosts cg_ghost cg_evCall cg_part cg_rng cg_guardV cg_frzV cg_frpV cg_ownV cg_owcV cg_occV cg_occX cg_resK cg_res1
attribute [local irreducible] IntKind.wrap bitsOp Option.getD and or
theorem ServoFound_ret (s : GServo) (nl : Bool) (l : List Pair) (np : Bool) (p : List Int) : Ret E0 F_law02_ServoFound [servoD s, .list nl (pairsD l), .list np (ints p)] (.bool true) := by
  refine ret_of_pw dec_law02_ServoFound mixed (by simp) fun hwf => ?_
  simp only [wf_int, wf_bool, wf_ints, wf_list, wf_agg, wf_ptr, wf_fn, wf_tup, wf_all_cons, wf_all_nil, wf_all_map, inK_i64, maxLen_eq, List.length_map, ints_len, true_and, and_true, pairsD_len, servoD_eq, servoC_eq] at hwf
  rw [enter_eq]; unfold pc_law02_ServoFound
  have cv := law02_valid_ret s nl l
  have cw := law02_works_ret
  rw [servoD_eq, servoC_eq] at cv
  cases hv : s.valid l with
  | false =>
    rw [hv] at cv
    (try (simp -implicitDefEqProofs only [go_sem, servoD_eq, servoC_eq])); repeat' first | with_reducible exact True.intro | with_reducible refine And.intro ?_ ?_ | with_reducible intro _ | (((with_reducible refine isCall ?_); first | refine call_b (cv) rfl ?_ ?_ | refine call_d (cv) rfl ?_ | refine call_sb (cv) rfl ?_ ?_ | refine call_s (cv) rfl rfl ?_ | refine call_b (cw) rfl ?_ ?_ | refine call_d (cw) rfl ?_ | refine call_sb (cw) rfl ?_ ?_ | refine call_s (cw) rfl rfl ?_) <;> try (simp -implicitDefEqProofs only [go_sem, servoD_eq, servoC_eq])) | (((with_reducible refine vc_b ?_ ?_) <;> intro _) <;> try (simp -implicitDefEqProofs only [go_sem, servoD_eq, servoC_eq])) | simp (disch := omega) only [wrapI, wrapU, shl1, shl1', shl1'', shrN, shrN', and_one] | ((with_reducible refine isEx ?_); refine ⟨_, rfl, ?_, ?_⟩)
    all_goals first | omega | (simp; done) | (simp; omega) | skip
  | true =>
    rw [hv] at cv
    obtain ⟨hc, h8⟩ := valid_zero hv
    obtain ⟨hok, hall, h24⟩ := check_zero hc
    have hd := GServo.ok_head hok
    have hlb := last_bound hok
    by_cases g1 : p.length ≤ 40
    · have g1' : ¬ (40 : Int) < p.length := by omega
      by_cases g2 : s.PathP l.length p
      · have c2 := ref02_IsPath_ret s hok nl l np p true ⟨fun _ => g2, fun _ => rfl⟩
        rw [servoD_eq, servoC_eq] at c2
        by_cases g3 : s.wrong < l.length
        · have g3' : ¬ (l.length : Int) ≤ s.wrong := by omega
          have w1 : IntKind.i64.wrap ((l.length : Int) - 1) = (l.length : Int) - 1 := wrapI _ (by omega)
          have w2 : IntKind.i64.wrap ((l.length : Int) - 1 - s.wrong) = (l.length : Int) - 1 - s.wrong := wrapI _ (by omega)
          have hlen := g2.1
          (try (simp -implicitDefEqProofs only [go_sem, servoD_eq, servoC_eq, pairsD_len, g1', g3', w1, w2])); repeat' first | with_reducible exact True.intro | with_reducible refine And.intro ?_ ?_ | with_reducible intro _ | (((with_reducible refine isCall ?_); first | refine call_b (cv) rfl ?_ ?_ | refine call_d (cv) rfl ?_ | refine call_sb (cv) rfl ?_ ?_ | refine call_s (cv) rfl rfl ?_ | refine call_b (c2) rfl ?_ ?_ | refine call_d (c2) rfl ?_ | refine call_sb (c2) rfl ?_ ?_ | refine call_s (c2) rfl rfl ?_ | refine call_b (cw) rfl ?_ ?_ | refine call_d (cw) rfl ?_ | refine call_sb (cw) rfl ?_ ?_ | refine call_s (cw) rfl rfl ?_) <;> try (simp -implicitDefEqProofs only [go_sem, servoD_eq, servoC_eq, pairsD_len, g1', g3', w1, w2])) | (((with_reducible refine vc_b ?_ ?_) <;> intro _) <;> try (simp -implicitDefEqProofs only [go_sem, servoD_eq, servoC_eq, pairsD_len, g1', g3', w1, w2])) | simp (disch := omega) only [wrapI, wrapU, shl1, shl1', shl1'', shrN, shrN', and_one] | ((with_reducible refine isEx ?_); refine ⟨_, rfl, ?_, ?_⟩)
          all_goals first | omega | (simp; done) | (simp; omega) | skip
          refine pw_loopS (α := Int) (l0 := ?l1) (m0 := ?m1) (fun x => [(7, .d (.int .i64 x))]) (fun x => []) (fun x => (l.length : Int) - 1 - s.wrong ≤ x ∧ x ≤ l.length ∧ ∀ j : Nat, (l.length : Int) - 1 - s.wrong ≤ j → (j : Int) < x → ¬ (l[j]?.getD default).1 = -1 ∧ s.agrees (l[j]?.getD default) j (p[j]?.getD 0) = true) (fun x => (l.length - x).toNat) ?a1_0 ?h01 ?he1 ?he21 ?hI1 ?step1
          case h01 => (simp -implicitDefEqProofs only [go_sem, servoD_eq, servoC_eq, w1, w2, pairsD_len]; rfl)
          case he1 => rfl
          case he21 => rfl
          case' step1 => (rintro i hI; try dsimp only at hI)
          case' hI1 => try dsimp only
          · exact ⟨by omega, by omega, fun j h1 h2 => by omega⟩
          · obtain ⟨h1, h2, h3⟩ := hI
            by_cases hi : i < l.length
            · have hpi := g2.2.1 i.toNat (by omega)
              have hwo := allD_iff.1 hall i.toNat (by omega)
              have cA := ref02_Agrees_ret s hok (l[i.toNat]?.getD default) hwo i (p[i.toNat]?.getD 0) (by omega) (by omega)
              rw [servoD_eq, servoC_eq, pairD_eq] at cA
              by_cases k1 : (l[i.toNat]?.getD default).1 = -1
              · (try (simp -implicitDefEqProofs only [go_sem, servoD_eq, servoC_eq, pairsD_len, onSome_pairs, pairsD_unif, pairD_eq, k1])); repeat' first | with_reducible exact True.intro | with_reducible refine And.intro ?_ ?_ | with_reducible intro _ | (((with_reducible refine isCall ?_); first | refine call_b (cA) rfl ?_ ?_ | refine call_d (cA) rfl ?_ | refine call_sb (cA) rfl ?_ ?_ | refine call_s (cA) rfl rfl ?_ | refine call_b (cw) rfl ?_ ?_ | refine call_d (cw) rfl ?_ | refine call_sb (cw) rfl ?_ ?_ | refine call_s (cw) rfl rfl ?_) <;> try (simp -implicitDefEqProofs only [go_sem, servoD_eq, servoC_eq, pairsD_len, onSome_pairs, pairsD_unif, pairD_eq, k1])) | (((with_reducible refine vc_b ?_ ?_) <;> intro _) <;> try (simp -implicitDefEqProofs only [go_sem, servoD_eq, servoC_eq, pairsD_len, onSome_pairs, pairsD_unif, pairD_eq, k1])) | simp (disch := omega) only [wrapI, wrapU, shl1, shl1', shl1'', shrN, shrN', and_one] | ((with_reducible refine isEx ?_); refine ⟨_, rfl, ?_, ?_⟩)
                all_goals first | omega | (simp; done) | (simp; omega) | skip
              · cases k2 : s.agrees (l[i.toNat]?.getD default) i (p[i.toNat]?.getD 0) with
                | false =>
                  rw [k2] at cA
                  (try (simp -implicitDefEqProofs only [go_sem, servoD_eq, servoC_eq, pairsD_len, onSome_pairs, pairsD_unif, pairD_eq, k1])); repeat' first | with_reducible exact True.intro | with_reducible refine And.intro ?_ ?_ | with_reducible intro _ | (((with_reducible refine isCall ?_); first | refine call_b (cA) rfl ?_ ?_ | refine call_d (cA) rfl ?_ | refine call_sb (cA) rfl ?_ ?_ | refine call_s (cA) rfl rfl ?_ | refine call_b (cw) rfl ?_ ?_ | refine call_d (cw) rfl ?_ | refine call_sb (cw) rfl ?_ ?_ | refine call_s (cw) rfl rfl ?_) <;> try (simp -implicitDefEqProofs only [go_sem, servoD_eq, servoC_eq, pairsD_len, onSome_pairs, pairsD_unif, pairD_eq, k1])) | (((with_reducible refine vc_b ?_ ?_) <;> intro _) <;> try (simp -implicitDefEqProofs only [go_sem, servoD_eq, servoC_eq, pairsD_len, onSome_pairs, pairsD_unif, pairD_eq, k1])) | simp (disch := omega) only [wrapI, wrapU, shl1, shl1', shl1'', shrN, shrN', and_one] | ((with_reducible refine isEx ?_); refine ⟨_, rfl, ?_, ?_⟩)
                  all_goals first | omega | (simp; done) | (simp; omega) | skip
                | true =>
                  rw [k2] at cA
                  have hs3 : ∀ j : Nat, (l.length : Int) - 1 - s.wrong ≤ j → (j : Int) < i + 1 → ¬ (l[j]?.getD default).1 = -1 ∧ s.agrees (l[j]?.getD default) j (p[j]?.getD 0) = true := fun j hj1 hj2 => by
                    rcases (show (j : Int) < i ∨ j = i.toNat by omega) with h | h
                    · exact h3 j hj1 h
                    · rw [h, show ((i.toNat : Nat) : Int) = i by omega]; exact ⟨k1, k2⟩
                  (try (simp -implicitDefEqProofs only [go_sem, servoD_eq, servoC_eq, pairsD_len, onSome_pairs, pairsD_unif, pairD_eq, k1])); repeat' first | with_reducible exact True.intro | with_reducible refine And.intro ?_ ?_ | with_reducible intro _ | (((with_reducible refine isCall ?_); first | refine call_b (cA) rfl ?_ ?_ | refine call_d (cA) rfl ?_ | refine call_sb (cA) rfl ?_ ?_ | refine call_s (cA) rfl rfl ?_ | refine call_b (cw) rfl ?_ ?_ | refine call_d (cw) rfl ?_ | refine call_sb (cw) rfl ?_ ?_ | refine call_s (cw) rfl rfl ?_) <;> try (simp -implicitDefEqProofs only [go_sem, servoD_eq, servoC_eq, pairsD_len, onSome_pairs, pairsD_unif, pairD_eq, k1])) | (((with_reducible refine vc_b ?_ ?_) <;> intro _) <;> try (simp -implicitDefEqProofs only [go_sem, servoD_eq, servoC_eq, pairsD_len, onSome_pairs, pairsD_unif, pairD_eq, k1])) | simp (disch := omega) only [wrapI, wrapU, shl1, shl1', shl1'', shrN, shrN', and_one] | ((with_reducible refine isEx ?_); refine ⟨_, rfl, ?_, ?_⟩)
                  all_goals first | omega | (refine (hs3 _ ?_ ?_).1 <;> assumption) | (refine (hs3 _ ?_ ?_).2 <;> assumption) | (intro hk; exact (hs3 _ (by assumption) (by assumption)).1 hk) | skip
            · have hW := servo_Where_ret s nl l
              rw [servoD_eq, servoC_eq] at hW
              have hlaw := fun (x : Int) (hx : MemP (s.laterL l 0) x) => found_law hc g2 g3 (fun j h4 h5 => h3 j h4 (by omega)) hx
              have hkn : s.known l (inR 0 0 24) = if s.wrong < minL (s.endL l) then 3 else 0 := by simp [GServo.known, hc, inR]
              by_cases hm : s.wrong < minL (s.endL l)
              · have : s.ahead l 0 = ([], 3) := by simp [GServo.ahead, hkn, hm]
                rw [this] at hW
                (try (simp -implicitDefEqProofs only [go_sem, servoD_eq, servoC_eq, pairsD_len])); repeat' first | with_reducible exact True.intro | with_reducible refine And.intro ?_ ?_ | with_reducible intro _ | (((with_reducible refine isCall ?_); first | refine call_b (hW) rfl ?_ ?_ | refine call_d (hW) rfl ?_ | refine call_sb (hW) rfl ?_ ?_ | refine call_s (hW) rfl rfl ?_ | refine call_b (cw) rfl ?_ ?_ | refine call_d (cw) rfl ?_ | refine call_sb (cw) rfl ?_ ?_ | refine call_s (cw) rfl rfl ?_) <;> try (simp -implicitDefEqProofs only [go_sem, servoD_eq, servoC_eq, pairsD_len])) | (((with_reducible refine vc_b ?_ ?_) <;> intro _) <;> try (simp -implicitDefEqProofs only [go_sem, servoD_eq, servoC_eq, pairsD_len])) | simp (disch := omega) only [wrapI, wrapU, shl1, shl1', shl1'', shrN, shrN', and_one] | ((with_reducible refine isEx ?_); refine ⟨_, rfl, ?_, ?_⟩)
                all_goals first | omega | (simp; done) | (simp; omega) | skip
              · have : s.ahead l 0 = (s.laterL l 0, 0) := by simp [GServo.ahead, hkn, hm]
                rw [this] at hW
                have hno := (later_spec hok l (more := 0) (by omega)).1
                have hpos : 0 < (s.laterL l 0).length := laterOf_pos _ _ _ (ends_pos hok hm)
                have hll := laterL_len hok l 0
                have hlst := g2.2.1 (p.length - 1) (by omega)
                have hmb : 0 ≤ s.move * s.wrong ∧ s.move * s.wrong ≤ 192 := by
                  have a1 : s.move * s.wrong ≤ 64 * s.wrong := Int.mul_le_mul_of_nonneg_right (by omega) (by omega)
                  have a2 : 0 ≤ s.move * s.wrong := Int.mul_nonneg (by omega) (by omega)
                  omega
                have hmm : 2 * s.move * s.wrong = 2 * (s.move * s.wrong) := Int.mul_assoc _ _ _
                have w3 : IntKind.i64.wrap (2 * s.noise) = 2 * s.noise := wrapI _ (by omega)
                have w4 : IntKind.i64.wrap (2 * s.move) = 2 * s.move := wrapI _ (by omega)
                have w5 : IntKind.i64.wrap (2 * s.move * s.wrong) = 2 * s.move * s.wrong := wrapI _ (by omega)
                have w6 : IntKind.i64.wrap (2 * s.noise + 2 * s.move * s.wrong) = 2 * s.noise + 2 * s.move * s.wrong := wrapI _ (by omega)
                have w7 : IntKind.i64.wrap ((p.length : Int) - 1) = (p.length : Int) - 1 := wrapI _ (by omega)
                have e1 : ((p.length : Int) - 1).toNat = p.length - 1 := by omega
                obtain ⟨AT, hAT⟩ : ∃ AT, p[p.length - 1]?.getD 0 = AT := ⟨_, rfl⟩
                rw [hAT] at hlaw hlst
                obtain ⟨FAR, hFAR⟩ : ∃ FAR, 2 * s.noise + 2 * s.move * s.wrong = FAR := ⟨_, rfl⟩
                rw [hFAR] at hlaw w6
                have hFb : 0 ≤ FAR ∧ FAR ≤ 500 := by omega
                have w8 : IntKind.i64.wrap (AT - FAR) = AT - FAR := wrapI _ (by omega)
                have w9 : IntKind.i64.wrap (AT + FAR) = AT + FAR := wrapI _ (by omega)
                dsimp only at hW
                generalize s.laterL l 0 = L at *
                (try (simp -implicitDefEqProofs only [go_sem, servoD_eq, servoC_eq, pairsD_len, hFAR, w3, w4, w5, w6, w7, e1, hAT])); repeat' first | with_reducible exact True.intro | with_reducible refine And.intro ?_ ?_ | with_reducible intro _ | (((with_reducible refine isCall ?_); first | refine call_b (hW) rfl ?_ ?_ | refine call_d (hW) rfl ?_ | refine call_sb (hW) rfl ?_ ?_ | refine call_s (hW) rfl rfl ?_ | refine call_b (cw) rfl ?_ ?_ | refine call_d (cw) rfl ?_ | refine call_sb (cw) rfl ?_ ?_ | refine call_s (cw) rfl rfl ?_) <;> try (simp -implicitDefEqProofs only [go_sem, servoD_eq, servoC_eq, pairsD_len, hFAR, w3, w4, w5, w6, w7, e1, hAT])) | (((with_reducible refine vc_b ?_ ?_) <;> intro _) <;> try (simp -implicitDefEqProofs only [go_sem, servoD_eq, servoC_eq, pairsD_len, hFAR, w3, w4, w5, w6, w7, e1, hAT])) | simp (disch := omega) only [wrapI, wrapU, shl1, shl1', shl1'', shrN, shrN', and_one] | ((with_reducible refine isEx ?_); refine ⟨_, rfl, ?_, ?_⟩)
                all_goals first | omega | (simp; done) | (simp; omega) | skip
                refine pw_loopS (α := Int) (l0 := ?l2) (m0 := ?m2) (fun x => [(12, .d (.int .i64 x))]) (fun x => []) (fun x => 0 ≤ x ∧ x ≤ L.length) (fun x => (L.length - x).toNat) ?a2_0 ?h02 ?he2 ?he22 ?hI2 ?step2
                case h02 => (simp -implicitDefEqProofs only [go_sem, servoD_eq, servoC_eq, pairsD_len, hFAR, w3, w4, w5, w6, w7, e1, hAT]; rfl)
                case he2 => rfl
                case he22 => rfl
                case' step2 => (rintro i hI2; try dsimp only at hI2)
                case' hI2 => try dsimp only
                · exact ⟨by omega, by omega⟩
                · obtain ⟨i1, i2⟩ := hI2
                  by_cases hi' : i < L.length
                  · obtain ⟨m1, m2, m3⟩ := norm_mem hno (j := i.toNat) (by omega)
                    have q1 : ¬ (L[i.toNat]?.getD default).1 < AT - FAR := by have := hlaw _ m2; omega
                    have q2 : ¬ AT + FAR < (L[i.toNat]?.getD default).2 := by have := hlaw _ m3; omega
                    (try (simp -implicitDefEqProofs only [go_sem, pairsD_len, onSome_pairs, pairsD_unif, pairD_eq, w8, w9, q1, q2])); repeat' first | with_reducible exact True.intro | with_reducible refine And.intro ?_ ?_ | with_reducible intro _ | (((with_reducible refine vc_b ?_ ?_) <;> intro _) <;> try (simp -implicitDefEqProofs only [go_sem, pairsD_len, onSome_pairs, pairsD_unif, pairD_eq, w8, w9, q1, q2])) | simp (disch := omega) only [wrapI, wrapU, shl1, shl1', shl1'', shrN, shrN', and_one] | ((with_reducible refine isEx ?_); refine ⟨_, rfl, ?_, ?_⟩)
                    all_goals first | omega | (simp; done) | (simp; omega) | skip
                  · have hp0 : (0 : Int) < L.length := by omega
                    (try (simp -implicitDefEqProofs only [go_sem, pairsD_len, hp0])); repeat' first | with_reducible exact True.intro | with_reducible refine And.intro ?_ ?_ | with_reducible intro _ | (((with_reducible refine isCall ?_); first | refine call_b (cw) rfl ?_ ?_ | refine call_d (cw) rfl ?_ | refine call_sb (cw) rfl ?_ ?_ | refine call_s (cw) rfl rfl ?_) <;> try (simp -implicitDefEqProofs only [go_sem, pairsD_len, hp0])) | (((with_reducible refine vc_b ?_ ?_) <;> intro _) <;> try (simp -implicitDefEqProofs only [go_sem, pairsD_len, hp0])) | simp (disch := omega) only [wrapI, wrapU, shl1, shl1', shl1'', shrN, shrN', and_one] | ((with_reducible refine isEx ?_); refine ⟨_, rfl, ?_, ?_⟩)
                    all_goals first | omega | (simp; done) | (simp; omega) | skip
        · have g3' : (l.length : Int) ≤ s.wrong := by omega
          (try (simp -implicitDefEqProofs only [go_sem, servoD_eq, servoC_eq, pairsD_len, g1', g3'])); repeat' first | with_reducible exact True.intro | with_reducible refine And.intro ?_ ?_ | with_reducible intro _ | (((with_reducible refine isCall ?_); first | refine call_b (cv) rfl ?_ ?_ | refine call_d (cv) rfl ?_ | refine call_sb (cv) rfl ?_ ?_ | refine call_s (cv) rfl rfl ?_ | refine call_b (c2) rfl ?_ ?_ | refine call_d (c2) rfl ?_ | refine call_sb (c2) rfl ?_ ?_ | refine call_s (c2) rfl rfl ?_ | refine call_b (cw) rfl ?_ ?_ | refine call_d (cw) rfl ?_ | refine call_sb (cw) rfl ?_ ?_ | refine call_s (cw) rfl rfl ?_) <;> try (simp -implicitDefEqProofs only [go_sem, servoD_eq, servoC_eq, pairsD_len, g1', g3'])) | (((with_reducible refine vc_b ?_ ?_) <;> intro _) <;> try (simp -implicitDefEqProofs only [go_sem, servoD_eq, servoC_eq, pairsD_len, g1', g3'])) | simp (disch := omega) only [wrapI, wrapU, shl1, shl1', shl1'', shrN, shrN', and_one] | ((with_reducible refine isEx ?_); refine ⟨_, rfl, ?_, ?_⟩)
          all_goals first | omega | (simp; done) | (simp; omega) | skip
      · have c2 := ref02_IsPath_ret s hok nl l np p false ⟨fun h => Bool.noConfusion h, fun h => absurd h g2⟩
        rw [servoD_eq, servoC_eq] at c2
        (try (simp -implicitDefEqProofs only [go_sem, servoD_eq, servoC_eq, g1'])); repeat' first | with_reducible exact True.intro | with_reducible refine And.intro ?_ ?_ | with_reducible intro _ | (((with_reducible refine isCall ?_); first | refine call_b (cv) rfl ?_ ?_ | refine call_d (cv) rfl ?_ | refine call_sb (cv) rfl ?_ ?_ | refine call_s (cv) rfl rfl ?_ | refine call_b (c2) rfl ?_ ?_ | refine call_d (c2) rfl ?_ | refine call_sb (c2) rfl ?_ ?_ | refine call_s (c2) rfl rfl ?_ | refine call_b (cw) rfl ?_ ?_ | refine call_d (cw) rfl ?_ | refine call_sb (cw) rfl ?_ ?_ | refine call_s (cw) rfl rfl ?_) <;> try (simp -implicitDefEqProofs only [go_sem, servoD_eq, servoC_eq, g1'])) | (((with_reducible refine vc_b ?_ ?_) <;> intro _) <;> try (simp -implicitDefEqProofs only [go_sem, servoD_eq, servoC_eq, g1'])) | simp (disch := omega) only [wrapI, wrapU, shl1, shl1', shl1'', shrN, shrN', and_one] | ((with_reducible refine isEx ?_); refine ⟨_, rfl, ?_, ?_⟩)
        all_goals first | omega | (simp; done) | (simp; omega) | skip
    · have g1' : (40 : Int) < p.length := by omega
      (try (simp -implicitDefEqProofs only [go_sem, servoD_eq, servoC_eq, g1'])); repeat' first | with_reducible exact True.intro | with_reducible refine And.intro ?_ ?_ | with_reducible intro _ | (((with_reducible refine isCall ?_); first | refine call_b (cv) rfl ?_ ?_ | refine call_d (cv) rfl ?_ | refine call_sb (cv) rfl ?_ ?_ | refine call_s (cv) rfl rfl ?_ | refine call_b (cw) rfl ?_ ?_ | refine call_d (cw) rfl ?_ | refine call_sb (cw) rfl ?_ ?_ | refine call_s (cw) rfl rfl ?_) <;> try (simp -implicitDefEqProofs only [go_sem, servoD_eq, servoC_eq, g1'])) | (((with_reducible refine vc_b ?_ ?_) <;> intro _) <;> try (simp -implicitDefEqProofs only [go_sem, servoD_eq, servoC_eq, g1'])) | simp (disch := omega) only [wrapI, wrapU, shl1, shl1', shl1'', shrN, shrN', and_one] | ((with_reducible refine isEx ?_); refine ⟨_, rfl, ?_, ?_⟩)
      all_goals first | omega | (simp; done) | (simp; omega) | skip
end Go.Pw
