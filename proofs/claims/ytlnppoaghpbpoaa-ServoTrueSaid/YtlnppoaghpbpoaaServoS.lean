/- A part of the proof. -/
import Derived.Test.YtlnppoaghpbpoaaServoO
set_option linter.all false
open Go Go.Pw Go.Proofs
namespace Go.Pw
set_option linter.unusedSimpArgs false
set_option linter.unusedVariables false
set_option maxRecDepth 100000
set_option maxHeartbeats 1600000
attribute [local congr] cg_pw cg_seqI cg_seqE cg_stepI cg_ev cg_evBin cg_condB cg_condV cg_thenQ cg_blockQ cg_onSome cg_onCells cg_onRow cg_onMap cg_onOpt cg_ghosts cg_ghost cg_evCall cg_part cg_rng cg_guardV cg_frzV cg_frpV cg_ownV cg_owcV cg_occV cg_occX cg_resK cg_res1
attribute [local irreducible] IntKind.wrap bitsOp Option.getD and or

def GServo.far (s : GServo) (l : List Pair) : Bool := decide (40 < s.runout.length ∨ 40 < l.length ∨ (8 < l.length ∧ l.length ≤ 24) ∨ (s.ok = true ∧ (8 < s.tracks ∨ 6 < s.step)))
def GServo.valid (s : GServo) (l : List Pair) : Bool := !s.far l && decide (s.check l = 0)
theorem valid_zero {s : GServo} {l : List Pair} (h : s.valid l = true) : s.check l = 0 ∧ l.length ≤ 8 := by
  simp only [GServo.valid, GServo.far, Bool.and_eq_true, Bool.not_eq_true', decide_eq_false_iff_not, decide_eq_true_eq] at h
  have := (check_zero h.2).2.2
  exact ⟨h.2, by omega⟩

theorem law02_Far_ret (s : GServo) (nl : Bool) (l : List Pair) : Ret E0 F_law02_Far [servoD s, .list nl (pairsD l)] (.bool (s.far l)) := by
  refine ret_of_pw dec_law02_Far mixed (by simp) fun hwf => ?_
  simp only [wf_int, wf_bool, wf_ints, wf_list, wf_agg, wf_ptr, wf_fn, wf_tup, wf_all_cons, wf_all_nil, wf_all_map, inK_i64, maxLen_eq, List.length_map, ints_len, true_and, and_true, pairsD_len] at hwf
  rw [enter_eq]; unfold pc_law02_Far
  have c1 := ref02_IsServo_ret s
  rw [servoD_eq, servoC_eq] at c1
  by_cases h1 : 40 < s.runout.length
  · have hf : s.far l = true := by simp [GServo.far, h1]
    have h1' : (40 : Int) < s.runout.length := by omega
    rw [hf]
    (try (simp -implicitDefEqProofs only [go_sem, servoD_eq, servoC_eq, pairsD_len, h1'])); repeat' first | with_reducible exact True.intro | with_reducible refine And.intro ?_ ?_ | with_reducible intro _ | (((with_reducible refine vc_b ?_ ?_) <;> intro _) <;> try (simp -implicitDefEqProofs only [go_sem, servoD_eq, servoC_eq, pairsD_len, h1'])) | simp (disch := omega) only [wrapI, wrapU, shl1, shl1', shl1'', shrN, shrN', and_one] 
    all_goals first | omega | (simp; done) | (simp; omega) | skip
  · have h1' : ¬ (40 : Int) < s.runout.length := by omega
    by_cases h2 : 40 < l.length
    · have hf : s.far l = true := by simp [GServo.far, h2]
      have h2' : (40 : Int) < l.length := by omega
      rw [hf]
      (try (simp -implicitDefEqProofs only [go_sem, servoD_eq, servoC_eq, pairsD_len, h1', h2'])); repeat' first | with_reducible exact True.intro | with_reducible refine And.intro ?_ ?_ | with_reducible intro _ | (((with_reducible refine vc_b ?_ ?_) <;> intro _) <;> try (simp -implicitDefEqProofs only [go_sem, servoD_eq, servoC_eq, pairsD_len, h1', h2'])) | simp (disch := omega) only [wrapI, wrapU, shl1, shl1', shl1'', shrN, shrN', and_one] 
      all_goals first | omega | (simp; done) | (simp; omega) | skip
    · have h2' : ¬ (40 : Int) < l.length := by omega
      by_cases h3 : 8 < l.length ∧ l.length ≤ 24
      · have hf : s.far l = true := by simp [GServo.far, h3]
        have h3' : (8 : Int) < l.length := by omega
        have h3'' : (l.length : Int) ≤ 24 := by omega
        rw [hf]
        (try (simp -implicitDefEqProofs only [go_sem, servoD_eq, servoC_eq, pairsD_len, h1', h2', h3', h3''])); repeat' first | with_reducible exact True.intro | with_reducible refine And.intro ?_ ?_ | with_reducible intro _ | (((with_reducible refine vc_b ?_ ?_) <;> intro _) <;> try (simp -implicitDefEqProofs only [go_sem, servoD_eq, servoC_eq, pairsD_len, h1', h2', h3', h3''])) | simp (disch := omega) only [wrapI, wrapU, shl1, shl1', shl1'', shrN, shrN', and_one] 
        all_goals first | omega | (simp; done) | (simp; omega) | skip
      · have hf : s.far l = decide (s.ok = true ∧ (8 < s.tracks ∨ 6 < s.step)) := by
          simp only [GServo.far, h1, h2, h3, false_or]
        rw [hf]
        cases hok : s.ok with
        | false =>
          rw [hok] at c1
          simp only [Bool.false_eq_true, false_and, decide_false]
          (try (simp -implicitDefEqProofs only [go_sem, servoD_eq, servoC_eq, pairsD_len, h1', h2'])); repeat' first | with_reducible exact True.intro | with_reducible refine And.intro ?_ ?_ | with_reducible intro _ | (((with_reducible refine isCall ?_); first | refine call_b (c1) rfl ?_ ?_ | refine call_d (c1) rfl ?_ | refine call_sb (c1) rfl ?_ ?_ | refine call_s (c1) rfl rfl ?_) <;> try (simp -implicitDefEqProofs only [go_sem, servoD_eq, servoC_eq, pairsD_len, h1', h2'])) | (((with_reducible refine vc_b ?_ ?_) <;> intro _) <;> try (simp -implicitDefEqProofs only [go_sem, servoD_eq, servoC_eq, pairsD_len, h1', h2'])) | simp (disch := omega) only [wrapI, wrapU, shl1, shl1', shl1'', shrN, shrN', and_one] 
          all_goals first | omega | (simp; done) | (simp; omega) | skip
        | true =>
          rw [hok] at c1
          simp only [true_and]
          by_cases ha : 8 < s.tracks
          · simp only [ha, true_or, decide_true]
            (try (simp -implicitDefEqProofs only [go_sem, servoD_eq, servoC_eq, pairsD_len, h1', h2', ha])); repeat' first | with_reducible exact True.intro | with_reducible refine And.intro ?_ ?_ | with_reducible intro _ | (((with_reducible refine isCall ?_); first | refine call_b (c1) rfl ?_ ?_ | refine call_d (c1) rfl ?_ | refine call_sb (c1) rfl ?_ ?_ | refine call_s (c1) rfl rfl ?_) <;> try (simp -implicitDefEqProofs only [go_sem, servoD_eq, servoC_eq, pairsD_len, h1', h2', ha])) | (((with_reducible refine vc_b ?_ ?_) <;> intro _) <;> try (simp -implicitDefEqProofs only [go_sem, servoD_eq, servoC_eq, pairsD_len, h1', h2', ha])) | simp (disch := omega) only [wrapI, wrapU, shl1, shl1', shl1'', shrN, shrN', and_one] 
            all_goals first | omega | (simp; done) | (simp; omega) | skip
          · by_cases hb : 6 < s.step
            · simp only [hb, or_true, decide_true]
              (try (simp -implicitDefEqProofs only [go_sem, servoD_eq, servoC_eq, pairsD_len, h1', h2', ha, hb])); repeat' first | with_reducible exact True.intro | with_reducible refine And.intro ?_ ?_ | with_reducible intro _ | (((with_reducible refine isCall ?_); first | refine call_b (c1) rfl ?_ ?_ | refine call_d (c1) rfl ?_ | refine call_sb (c1) rfl ?_ ?_ | refine call_s (c1) rfl rfl ?_) <;> try (simp -implicitDefEqProofs only [go_sem, servoD_eq, servoC_eq, pairsD_len, h1', h2', ha, hb])) | (((with_reducible refine vc_b ?_ ?_) <;> intro _) <;> try (simp -implicitDefEqProofs only [go_sem, servoD_eq, servoC_eq, pairsD_len, h1', h2', ha, hb])) | simp (disch := omega) only [wrapI, wrapU, shl1, shl1', shl1'', shrN, shrN', and_one] 
              all_goals first | omega | (simp; done) | (simp; omega) | skip
            · simp only [ha, hb, or_false, decide_false]
              (try (simp -implicitDefEqProofs only [go_sem, servoD_eq, servoC_eq, pairsD_len, h1', h2', ha, hb])); repeat' first | with_reducible exact True.intro | with_reducible refine And.intro ?_ ?_ | with_reducible intro _ | (((with_reducible refine isCall ?_); first | refine call_b (c1) rfl ?_ ?_ | refine call_d (c1) rfl ?_ | refine call_sb (c1) rfl ?_ ?_ | refine call_s (c1) rfl rfl ?_) <;> try (simp -implicitDefEqProofs only [go_sem, servoD_eq, servoC_eq, pairsD_len, h1', h2', ha, hb])) | (((with_reducible refine vc_b ?_ ?_) <;> intro _) <;> try (simp -implicitDefEqProofs only [go_sem, servoD_eq, servoC_eq, pairsD_len, h1', h2', ha, hb])) | simp (disch := omega) only [wrapI, wrapU, shl1, shl1', shl1'', shrN, shrN', and_one] 
              all_goals first | omega | (simp; done) | (simp; omega) | skip

theorem law02_valid_ret (s : GServo) (nl : Bool) (l : List Pair) : Ret E0 F_law02_valid [servoD s, .list nl (pairsD l)] (.bool (s.valid l)) := by
  refine ret_of_pw dec_law02_valid mixed (by simp) fun hwf => ?_
  rw [enter_eq]; unfold pc_law02_valid
  have c1 := law02_Far_ret s nl l
  have c2 := ref02_Check_ret s nl l
  rw [servoD_eq, servoC_eq] at c1 c2
  unfold GServo.valid
  cases hf : s.far l with
  | true =>
    rw [hf] at c1
    simp only [Bool.not_true, Bool.false_and]
    (try (simp -implicitDefEqProofs only [go_sem, servoD_eq, servoC_eq])); repeat' first | with_reducible exact True.intro | with_reducible refine And.intro ?_ ?_ | with_reducible intro _ | (((with_reducible refine isCall ?_); first | refine call_b (c1) rfl ?_ ?_ | refine call_d (c1) rfl ?_ | refine call_sb (c1) rfl ?_ ?_ | refine call_s (c1) rfl rfl ?_) <;> try (simp -implicitDefEqProofs only [go_sem, servoD_eq, servoC_eq])) | (((with_reducible refine vc_b ?_ ?_) <;> intro _) <;> try (simp -implicitDefEqProofs only [go_sem, servoD_eq, servoC_eq])) | simp (disch := omega) only [wrapI, wrapU, shl1, shl1', shl1'', shrN, shrN', and_one] 
    all_goals first | omega | (simp; done) | (simp; omega) | skip
  | false =>
    rw [hf] at c1
    simp only [Bool.not_false, Bool.true_and]
    (try (simp -implicitDefEqProofs only [go_sem, servoD_eq, servoC_eq])); repeat' first | with_reducible exact True.intro | with_reducible refine And.intro ?_ ?_ | with_reducible intro _ | (((with_reducible refine isCall ?_); first | refine call_b (c1) rfl ?_ ?_ | refine call_d (c1) rfl ?_ | refine call_sb (c1) rfl ?_ ?_ | refine call_s (c1) rfl rfl ?_ | refine call_b (c2) rfl ?_ ?_ | refine call_d (c2) rfl ?_ | refine call_sb (c2) rfl ?_ ?_ | refine call_s (c2) rfl rfl ?_) <;> try (simp -implicitDefEqProofs only [go_sem, servoD_eq, servoC_eq])) | (((with_reducible refine vc_b ?_ ?_) <;> intro _) <;> try (simp -implicitDefEqProofs only [go_sem, servoD_eq, servoC_eq])) | simp (disch := omega) only [wrapI, wrapU, shl1, shl1', shl1'', shrN, shrN', and_one] 
    all_goals first | omega | (simp; done) | (simp; omega) | skip

def inS (l : List Pair) (x : Int) : Bool := l.any fun q => decide (q.1 ≤ x ∧ x ≤ q.2)
theorem anyD_of {α : Type} [Inhabited α] {l : List α} {p : α → Bool} {j : Nat} (hj : j < l.length) (h : p (l[j]?.getD default) = true) : l.any p = true := by
  rw [List.any_eq_true]; exact ⟨_, getD_mem hj, h⟩
theorem anyD_not {α : Type} [Inhabited α] {l : List α} {p : α → Bool} (h : ∀ j : Nat, j < l.length → p (l[j]?.getD default) = false) : l.any p = false := by
  rw [List.any_eq_false]
  intro x hx
  obtain ⟨j, hj, rfl⟩ := List.getElem_of_mem hx
  have := h j hj
  rw [List.getElem?_eq_getElem hj, Option.getD_some] at this
  simp [this]

theorem law02_in_ret (nl : Bool) (l : List Pair) (pos : Int) : Ret E0 F_law02_in [.list nl (pairsD l), .int .i64 pos] (.bool (inS l pos)) := by
  refine ret_of_pw dec_law02_in mixed (by simp) fun hwf => ?_
  simp only [wf_int, wf_bool, wf_ints, wf_list, wf_agg, wf_ptr, wf_fn, wf_tup, wf_all_cons, wf_all_nil, wf_all_map, inK_i64, maxLen_eq, List.length_map, ints_len, true_and, and_true, pairsD_len] at hwf
  rw [enter_eq]; unfold pc_law02_in
  (try (simp -implicitDefEqProofs only [go_sem])); repeat' first | with_reducible exact True.intro | with_reducible refine And.intro ?_ ?_ | with_reducible intro _ | (((with_reducible refine vc_b ?_ ?_) <;> intro _) <;> try (simp -implicitDefEqProofs only [go_sem])) | simp (disch := omega) only [wrapI, wrapU, shl1, shl1', shl1'', shrN, shrN', and_one] | ((with_reducible refine isEx ?_); refine ⟨_, rfl, ?_, ?_⟩)
  refine pw_loopS (α := Int) (l0 := ?l1) (m0 := ?m1) (fun x => [(5, .d (.int .i64 x))]) (fun x => []) (fun x => 0 ≤ x ∧ x ≤ l.length ∧ ∀ j : Nat, (j : Int) < x → decide ((l[j]?.getD default).1 ≤ pos ∧ pos ≤ (l[j]?.getD default).2) = false) (fun x => (l.length - x).toNat) ?a1_0 ?h01 ?he1 ?he21 ?hI1 ?step1
  case h01 => (simp -implicitDefEqProofs only [go_sem]; rfl)
  case he1 => rfl
  case he21 => rfl
  case' step1 => (rintro i hI; try dsimp only at hI)
  case' hI1 => try dsimp only
  · exact ⟨by omega, by omega, fun j hj => by omega⟩
  · obtain ⟨h1, h2, h3⟩ := hI
    by_cases hi : i < l.length
    · by_cases hq : (l[i.toNat]?.getD default).1 ≤ pos ∧ pos ≤ (l[i.toNat]?.getD default).2
      · have : inS l pos = true := anyD_of (j := i.toNat) (by omega) (by simpa using hq)
        rw [this]
        obtain ⟨hq1, hq2⟩ := hq
        (try (simp -implicitDefEqProofs only [go_sem, pairsD_len, onSome_pairs, pairsD_unif, pairD_eq, hq1, hq2])); repeat' first | with_reducible exact True.intro | with_reducible refine And.intro ?_ ?_ | with_reducible intro _ | (((with_reducible refine vc_b ?_ ?_) <;> intro _) <;> try (simp -implicitDefEqProofs only [go_sem, pairsD_len, onSome_pairs, pairsD_unif, pairD_eq, hq1, hq2])) | simp (disch := omega) only [wrapI, wrapU, shl1, shl1', shl1'', shrN, shrN', and_one] | ((with_reducible refine isEx ?_); refine ⟨_, rfl, ?_, ?_⟩)
        all_goals first | omega | (simp; done) | (simp; omega) | skip
      · have hstep : ∀ j : Nat, (j : Int) < i + 1 → decide ((l[j]?.getD default).1 ≤ pos ∧ pos ≤ (l[j]?.getD default).2) = false := fun j hj => by
          rcases (show (j : Int) < i ∨ j = i.toNat by omega) with h | h
          · exact h3 j h
          · rw [h]; simpa using hq
        by_cases hq1 : (l[i.toNat]?.getD default).1 ≤ pos
        · have hq2 : ¬ pos ≤ (l[i.toNat]?.getD default).2 := fun h => hq ⟨hq1, h⟩
          (try (simp -implicitDefEqProofs only [go_sem, pairsD_len, onSome_pairs, pairsD_unif, pairD_eq, hq1, hq2])); repeat' first | with_reducible exact True.intro | with_reducible refine And.intro ?_ ?_ | with_reducible intro _ | (((with_reducible refine vc_b ?_ ?_) <;> intro _) <;> try (simp -implicitDefEqProofs only [go_sem, pairsD_len, onSome_pairs, pairsD_unif, pairD_eq, hq1, hq2])) | simp (disch := omega) only [wrapI, wrapU, shl1, shl1', shl1'', shrN, shrN', and_one] | ((with_reducible refine isEx ?_); refine ⟨_, rfl, ?_, ?_⟩)
          all_goals first | (apply hstep; assumption) | omega | skip
        · (try (simp -implicitDefEqProofs only [go_sem, pairsD_len, onSome_pairs, pairsD_unif, pairD_eq, hq1])); repeat' first | with_reducible exact True.intro | with_reducible refine And.intro ?_ ?_ | with_reducible intro _ | (((with_reducible refine vc_b ?_ ?_) <;> intro _) <;> try (simp -implicitDefEqProofs only [go_sem, pairsD_len, onSome_pairs, pairsD_unif, pairD_eq, hq1])) | simp (disch := omega) only [wrapI, wrapU, shl1, shl1', shl1'', shrN, shrN', and_one] | ((with_reducible refine isEx ?_); refine ⟨_, rfl, ?_, ?_⟩)
          all_goals first | (apply hstep; assumption) | omega | skip
    · have : inS l pos = false := anyD_not fun j hj => h3 j (by omega)
      rw [this]
      (try (simp -implicitDefEqProofs only [go_sem, pairsD_len])); repeat' first | with_reducible exact True.intro | with_reducible refine And.intro ?_ ?_ | with_reducible intro _ | (((with_reducible refine vc_b ?_ ?_) <;> intro _) <;> try (simp -implicitDefEqProofs only [go_sem, pairsD_len])) | simp (disch := omega) only [wrapI, wrapU, shl1, shl1', shl1'', shrN, shrN', and_one] | ((with_reducible refine isEx ?_); refine ⟨_, rfl, ?_, ?_⟩)
      all_goals first | omega | (simp; done) | (simp; omega) | skip

/-- Positions that are a path for n wedges. -/
def GServo.PathP (s : GServo) (n : Nat) (p : List Int) : Prop := p.length = n ∧ (∀ j : Nat, j < p.length → 0 ≤ p[j]?.getD 0 ∧ p[j]?.getD 0 ≤ s.last) ∧ ∀ j : Nat, j + 1 < p.length → p[j + 1]?.getD 0 - p[j]?.getD 0 ≤ s.move ∧ p[j]?.getD 0 - p[j + 1]?.getD 0 ≤ s.move

theorem ref02_IsPath_ret (s : GServo) (h : s.ok = true) (nl : Bool) (l : List Pair) (np : Bool) (p : List Int) (b : Bool) (hb : b = true ↔ s.PathP l.length p) :
    Ret E0 F_ref02_IsPath [servoD s, .list nl (pairsD l), .list np (ints p)] (.bool b) := by
  refine ret_of_pw dec_ref02_IsPath mixed (by simp) fun hwf => ?_
  simp only [wf_int, wf_bool, wf_ints, wf_list, wf_agg, wf_ptr, wf_fn, wf_tup, wf_all_cons, wf_all_nil, wf_all_map, inK_i64, maxLen_eq, List.length_map, ints_len, true_and, and_true, pairsD_len, servoD_eq, servoC_eq] at hwf
  have hd := GServo.ok_head h
  have hlb := last_bound h
  have c1 := ref02_Last_ret s h
  rw [servoD_eq, servoC_eq] at c1
  have hbad : ¬ s.PathP l.length p → b = false := fun hn => by
    cases hbb : b with
    | false => rfl
    | true => exact absurd (hb.1 hbb) hn
  rw [enter_eq]; unfold pc_ref02_IsPath
  (try (simp -implicitDefEqProofs only [go_sem, servoD_eq, servoC_eq])); repeat' first | with_reducible exact True.intro | with_reducible refine And.intro ?_ ?_ | with_reducible intro _ | (((with_reducible refine vc_b ?_ ?_) <;> intro _) <;> try (simp -implicitDefEqProofs only [go_sem, servoD_eq, servoC_eq])) | simp (disch := omega) only [wrapI, wrapU, shl1, shl1', shl1'', shrN, shrN', and_one] | ((with_reducible refine isEx ?_); refine ⟨_, rfl, ?_, ?_⟩)
  refine pw_loopS (α := Int) (l0 := ?l2) (m0 := ?m2) (fun x => [(7, .d (.int .i64 x))]) (fun x => []) (fun x => 0 ≤ x ∧ x ≤ p.length ∧ (∀ j : Nat, (j : Int) < x → 0 ≤ p[j]?.getD 0 ∧ p[j]?.getD 0 ≤ s.last) ∧ ∀ j : Nat, (j : Int) + 1 < x → p[j + 1]?.getD 0 - p[j]?.getD 0 ≤ s.move ∧ p[j]?.getD 0 - p[j + 1]?.getD 0 ≤ s.move) (fun x => (p.length - x).toNat) ?a2_0 ?h02 ?he2 ?he22 ?hI2 ?step2
  case h02 => (simp -implicitDefEqProofs only [go_sem, servoD_eq, servoC_eq]; rfl)
  case he2 => rfl
  case he22 => rfl
  case' step2 => (rintro i hI; try dsimp only at hI)
  case' hI2 => try dsimp only
  · exact ⟨by omega, by omega, fun j hj => by omega, fun j hj => by omega⟩
  · obtain ⟨h1, h2, h3, h4⟩ := hI
    by_cases hi : i < p.length
    · have cw := ref02_within_ret (p[i.toNat]?.getD 0) 0 s.last
      by_cases hin : 0 ≤ p[i.toNat]?.getD 0 ∧ p[i.toNat]?.getD 0 ≤ s.last
      · rw [show inR (p[i.toNat]?.getD 0) 0 s.last = true by simpa [inR] using hin] at cw
        have hs3 : ∀ j : Nat, (j : Int) < i + 1 → 0 ≤ p[j]?.getD 0 ∧ p[j]?.getD 0 ≤ s.last := fun j hj => by
          rcases (show (j : Int) < i ∨ j = i.toNat by omega) with h | h
          · exact h3 j h
          · rw [h]; exact hin
        by_cases hi0 : 0 < i
        · have hpr := h3 (i.toNat - 1) (by omega)
          have e1 : (i - 1).toNat = i.toNat - 1 := by omega
          have w1 : IntKind.i64.wrap (i - 1) = i - 1 := wrapI _ (by omega)
          have w2 : IntKind.i64.wrap (p[i.toNat]?.getD 0 - p[i.toNat - 1]?.getD 0) = p[i.toNat]?.getD 0 - p[i.toNat - 1]?.getD 0 := wrapI _ (by omega)
          have ca := ref02_abs_ret (p[i.toNat]?.getD 0 - p[i.toNat - 1]?.getD 0) (by omega)
          by_cases hmv : s.move < max (p[i.toNat]?.getD 0 - p[i.toNat - 1]?.getD 0) (-(p[i.toNat]?.getD 0 - p[i.toNat - 1]?.getD 0))
          · have := hbad fun hp => by
              have := hp.2.2 (i.toNat - 1) (by omega)
              rw [show i.toNat - 1 + 1 = i.toNat by omega] at this
              omega
            rw [this]
            (try (simp -implicitDefEqProofs only [go_sem, servoD_eq, servoC_eq, hi0, e1, w1, w2, hmv])); repeat' first | with_reducible exact True.intro | with_reducible refine And.intro ?_ ?_ | with_reducible intro _ | (((with_reducible refine isCall ?_); first | refine call_b (c1) rfl ?_ ?_ | refine call_d (c1) rfl ?_ | refine call_sb (c1) rfl ?_ ?_ | refine call_s (c1) rfl rfl ?_ | refine call_b (cw) rfl ?_ ?_ | refine call_d (cw) rfl ?_ | refine call_sb (cw) rfl ?_ ?_ | refine call_s (cw) rfl rfl ?_ | refine call_b (ca) rfl ?_ ?_ | refine call_d (ca) rfl ?_ | refine call_sb (ca) rfl ?_ ?_ | refine call_s (ca) rfl rfl ?_) <;> try (simp -implicitDefEqProofs only [go_sem, servoD_eq, servoC_eq, hi0, e1, w1, w2, hmv])) | (((with_reducible refine vc_b ?_ ?_) <;> intro _) <;> try (simp -implicitDefEqProofs only [go_sem, servoD_eq, servoC_eq, hi0, e1, w1, w2, hmv])) | simp (disch := omega) only [wrapI, wrapU, shl1, shl1', shl1'', shrN, shrN', and_one] | ((with_reducible refine isEx ?_); refine ⟨_, rfl, ?_, ?_⟩)
            all_goals first | omega | (simp; done) | (simp; omega) | skip
          · have hs4 : ∀ j : Nat, (j : Int) + 1 < i + 1 → p[j + 1]?.getD 0 - p[j]?.getD 0 ≤ s.move ∧ p[j]?.getD 0 - p[j + 1]?.getD 0 ≤ s.move := fun j hj => by
              rcases (show (j : Int) + 1 < i ∨ j + 1 = i.toNat by omega) with h | h
              · exact h4 j h
              · rw [h, show j = i.toNat - 1 by omega]; omega
            (try (simp -implicitDefEqProofs only [go_sem, servoD_eq, servoC_eq, hi0, e1, w1, w2, hmv])); repeat' first | with_reducible exact True.intro | with_reducible refine And.intro ?_ ?_ | with_reducible intro _ | (((with_reducible refine isCall ?_); first | refine call_b (c1) rfl ?_ ?_ | refine call_d (c1) rfl ?_ | refine call_sb (c1) rfl ?_ ?_ | refine call_s (c1) rfl rfl ?_ | refine call_b (cw) rfl ?_ ?_ | refine call_d (cw) rfl ?_ | refine call_sb (cw) rfl ?_ ?_ | refine call_s (cw) rfl rfl ?_ | refine call_b (ca) rfl ?_ ?_ | refine call_d (ca) rfl ?_ | refine call_sb (ca) rfl ?_ ?_ | refine call_s (ca) rfl rfl ?_) <;> try (simp -implicitDefEqProofs only [go_sem, servoD_eq, servoC_eq, hi0, e1, w1, w2, hmv])) | (((with_reducible refine vc_b ?_ ?_) <;> intro _) <;> try (simp -implicitDefEqProofs only [go_sem, servoD_eq, servoC_eq, hi0, e1, w1, w2, hmv])) | simp (disch := omega) only [wrapI, wrapU, shl1, shl1', shl1'', shrN, shrN', and_one] | ((with_reducible refine isEx ?_); refine ⟨_, rfl, ?_, ?_⟩)
            all_goals first | omega | (refine (hs3 _ ?_).1; assumption) | (refine (hs3 _ ?_).2; assumption) | (refine (hs4 _ ?_).1; assumption) | (refine (hs4 _ ?_).2; assumption) | skip
        · have hs4 : ∀ j : Nat, (j : Int) + 1 < i + 1 → p[j + 1]?.getD 0 - p[j]?.getD 0 ≤ s.move ∧ p[j]?.getD 0 - p[j + 1]?.getD 0 ≤ s.move := fun j hj => by omega
          (try (simp -implicitDefEqProofs only [go_sem, servoD_eq, servoC_eq, hi0])); repeat' first | with_reducible exact True.intro | with_reducible refine And.intro ?_ ?_ | with_reducible intro _ | (((with_reducible refine isCall ?_); first | refine call_b (c1) rfl ?_ ?_ | refine call_d (c1) rfl ?_ | refine call_sb (c1) rfl ?_ ?_ | refine call_s (c1) rfl rfl ?_ | refine call_b (cw) rfl ?_ ?_ | refine call_d (cw) rfl ?_ | refine call_sb (cw) rfl ?_ ?_ | refine call_s (cw) rfl rfl ?_) <;> try (simp -implicitDefEqProofs only [go_sem, servoD_eq, servoC_eq, hi0])) | (((with_reducible refine vc_b ?_ ?_) <;> intro _) <;> try (simp -implicitDefEqProofs only [go_sem, servoD_eq, servoC_eq, hi0])) | simp (disch := omega) only [wrapI, wrapU, shl1, shl1', shl1'', shrN, shrN', and_one] | ((with_reducible refine isEx ?_); refine ⟨_, rfl, ?_, ?_⟩)
          all_goals first | omega | (refine (hs3 _ ?_).1; assumption) | (refine (hs3 _ ?_).2; assumption) | (refine (hs4 _ ?_).1; assumption) | (refine (hs4 _ ?_).2; assumption) | skip
      · rw [show inR (p[i.toNat]?.getD 0) 0 s.last = false by simpa [inR] using hin] at cw
        have := hbad fun hp => hin (hp.2.1 i.toNat (by omega))
        rw [this]
        (try (simp -implicitDefEqProofs only [go_sem, servoD_eq, servoC_eq])); repeat' first | with_reducible exact True.intro | with_reducible refine And.intro ?_ ?_ | with_reducible intro _ | (((with_reducible refine isCall ?_); first | refine call_b (c1) rfl ?_ ?_ | refine call_d (c1) rfl ?_ | refine call_sb (c1) rfl ?_ ?_ | refine call_s (c1) rfl rfl ?_ | refine call_b (cw) rfl ?_ ?_ | refine call_d (cw) rfl ?_ | refine call_sb (cw) rfl ?_ ?_ | refine call_s (cw) rfl rfl ?_) <;> try (simp -implicitDefEqProofs only [go_sem, servoD_eq, servoC_eq])) | (((with_reducible refine vc_b ?_ ?_) <;> intro _) <;> try (simp -implicitDefEqProofs only [go_sem, servoD_eq, servoC_eq])) | simp (disch := omega) only [wrapI, wrapU, shl1, shl1', shl1'', shrN, shrN', and_one] | ((with_reducible refine isEx ?_); refine ⟨_, rfl, ?_, ?_⟩)
        all_goals first | omega | (simp; done) | (simp; omega) | skip
    · have hbb : b = decide (p.length = l.length) := by
        by_cases hpl : p.length = l.length
        · rw [show decide (p.length = l.length) = true by simpa using hpl]
          exact hb.2 ⟨hpl, fun j hj => h3 j (by omega), fun j hj => h4 j (by omega)⟩
        · rw [show decide (p.length = l.length) = false by simpa using hpl]
          exact hbad fun hp => hpl hp.1
      rw [hbb]
      (try (simp -implicitDefEqProofs only [go_sem, servoD_eq, servoC_eq, pairsD_len])); repeat' first | with_reducible exact True.intro | with_reducible refine And.intro ?_ ?_ | with_reducible intro _ | (((with_reducible refine vc_b ?_ ?_) <;> intro _) <;> try (simp -implicitDefEqProofs only [go_sem, servoD_eq, servoC_eq, pairsD_len])) | simp (disch := omega) only [wrapI, wrapU, shl1, shl1', shl1'', shrN, shrN', and_one] | ((with_reducible refine isEx ?_); refine ⟨_, rfl, ?_, ?_⟩)
      all_goals first | omega | (rw [show decide (p.length = l.length) = true from decide_eq_true (by omega)]) | (rw [show decide (p.length = l.length) = false from decide_eq_false (by omega)]) | skip
end Go.Pw
