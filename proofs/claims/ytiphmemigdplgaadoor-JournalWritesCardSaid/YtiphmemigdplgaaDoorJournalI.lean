/- A part of the proof. -/
import Derived.Test.YtiphmemigdplgaaDoorPgJournalG
set_option linter.all false
open Go Go.Pw Go.Proofs
namespace Go.Pw
set_option linter.unusedSimpArgs false
set_option linter.unusedVariables false
set_option maxRecDepth 100000
set_option maxHeartbeats 3200000
def exD : GDisk := ⟨2, 60, false, [(2, 6), (1, 5)], 10, 25, 4, 12, 20, 30⟩
def exL : GLog := ⟨exD, 3, 24, false, [⟨4, 0, 7, 3, false⟩, ⟨5, 1, 8, 3, false⟩, ⟨2, 0, 5, 1, false⟩, ⟨3, 2, 6, 2, false⟩]⟩
theorem exL_open : exL.openE = 0 := by kernel_rfl
theorem exL_rec : exL.recE = [⟨3, 2, 6, 2, false⟩, ⟨4, 0, 7, 3, false⟩, ⟨5, 1, 8, 3, false⟩] := by kernel_rfl
theorem exL_room : exL.room = 1 := by kernel_rfl
theorem exL_rep : exL.repL [1, 1, 1] = [7, 8, 6] := by kernel_rfl
theorem exL_repE : exL.replayE [1, 1, 1] = 0 := by kernel_rfl
def GDisk.far (d : GDisk) : Bool := decide (20 < (d.zones.length : Int)) || (d.ok && (decide (200 < d.size) || decide (120 < d.turn)))
def GLog.far (l : GLog) : Bool := l.disk.far || decide (40 < (l.slots.length : Int))
theorem far_len {d : GDisk} (h : d.far = false) : d.zones.length ≤ 1000 := by
  unfold GDisk.far at h
  have : ¬ 20 < (d.zones.length : Int) := by
    intro hh; rw [decide_eq_true hh] at h; simp at h
  omega
theorem lfar_len {l : GLog} (h : l.far = false) : l.disk.far = false ∧ l.slots.length ≤ 40 := by
  unfold GLog.far at h
  rw [Bool.or_eq_false_iff] at h
  refine ⟨h.1, ?_⟩
  have := h.2; simp at this; omega
/-- The reference's copy. -/
def GLog.cpy (l : GLog) : GLog := { l with disk := l.disk.cp, sn := false }
theorem sameI_at {a b : List Int} {i : Nat} (h : ∀ j : Nat, j < i → a[j]?.getD 0 = b[j]?.getD 0) (he : a[i]?.getD 0 = b[i]?.getD 0) : ∀ j : Nat, j < i + 1 → a[j]?.getD 0 = b[j]?.getD 0 := fun j hj => by
  rcases (show j < i ∨ j = i by omega) with h1 | h1
  · exact h j h1
  · subst h1; exact he
theorem ext_getD {a b : List Int} (hl : a.length = b.length) (h : ∀ j : Nat, j < a.length → a[j]?.getD 0 = b[j]?.getD 0) : a = b := by
  apply List.ext_getElem hl
  intro i h1 h2
  have := h i h1
  rwa [List.getElem?_eq_getElem h1, List.getElem?_eq_getElem h2, Option.getD_some, Option.getD_some] at this
theorem cpy_allOk (l : GLog) : ∀ n, l.cpy.allOk n = l.allOk n
  | 0 => rfl
  | n + 1 => by rw [GLog.allOk, GLog.allOk, cpy_allOk l n]; rfl
theorem cpy_check (l : GLog) : l.cpy.check = l.check := by
  unfold GLog.check GLog.head
  rw [show l.cpy.disk.ok = l.disk.ok from rfl, show l.cpy.slots = l.slots from rfl, show l.cpy.disk.size = l.disk.size from (same_cp l.disk).size, cpy_allOk]; rfl
theorem cpy_whole (l : GLog) (t : Int) : ∀ n, l.cpy.whole t n = l.whole t n
  | 0 => rfl
  | n + 1 => by rw [GLog.whole, GLog.whole, cpy_whole l t n]; rfl
theorem cpy_full (l : GLog) : l.cpy.full = l.full := cpy_whole l _ _
theorem cpy_open (l : GLog) : l.cpy.openE = l.openE := by unfold GLog.openE; rw [cpy_check, cpy_full]
theorem cpy_recE (l : GLog) : l.cpy.recE = l.recE := by unfold GLog.recE; rw [cpy_open]; rfl
theorem cpy_room (l : GLog) : l.cpy.room = l.room := by unfold GLog.room; rw [cpy_open]; rfl
attribute [local congr] cg_pw cg_seqI cg_seqE cg_stepI cg_ev cg_evBin cg_condB cg_condV cg_thenQ cg_blockQ cg_onSome cg_onCells cg_onRow cg_onMap cg_onOpt cg_ghosts cg_ghost cg_evCall cg_part cg_rng cg_guardV cg_frzV cg_frpV cg_ownV cg_owcV cg_occV cg_occX cg_resK cg_res1 cg_yldP cg_rndE cg_onlyN cg_onHist
attribute [local irreducible] IntKind.wrap bitsOp Option.getD and or

theorem law16_sameInts_ret (na nb : Bool) (a b : List Int) : Ret E0 F_law16_sameInts [.list na (ints a), .list nb (ints b)] (.bool (decide (a = b))) := by
  refine ret_of_pw dec_law16_sameInts mixed (by simp) fun hwf => ?_
  simp only [wf_int, wf_bool, wf_ints, wf_list, wf_agg, wf_ptr, wf_fn, wf_tup, wf_all_cons, wf_all_nil, wf_all_map, inK_i64, maxLen_eq, List.length_map, ints_len, true_and, and_true] at hwf
  rw [enter_eq]; unfold pc_law16_sameInts
  by_cases hl : a.length = b.length
  · have hl2 : (a.length : Int) = b.length := by omega
    (try (simp -implicitDefEqProofs only [go_sem, eq_true hl2])); repeat' first | with_reducible exact True.intro | with_reducible refine And.intro ?_ ?_ | with_reducible intro _ | (((with_reducible refine vc_b ?_ ?_) <;> intro _) <;> try (simp -implicitDefEqProofs only [go_sem, eq_true hl2])) | simp (disch := omega) only [wrapI, wrapU, shl1, shl1', shl1'', shrN, shrN', and_one] | ((with_reducible refine isEx ?_); refine ⟨_, rfl, ?_, ?_⟩)
    all_goals first | omega | (simp; done) | (simp; omega) | skip
    refine pw_loopS (α := Int) (l0 := ?l1) (m0 := ?m1) (fun x => [(5, .d (.int .i64 x))]) (fun x => []) (fun x => (0 ≤ x ∧ x ≤ a.length) ∧ ∀ j : Nat, j < x.toNat → a[j]?.getD 0 = b[j]?.getD 0) (fun x => (a.length - x).toNat) ?a1_0 ?h01 ?he1 ?he21 ?hI1 ?step1
    case h01 => (simp -implicitDefEqProofs only [go_sem]; rfl)
    case he1 => rfl
    case he21 => rfl
    case' step1 => (rintro i hI; try dsimp only at hI)
    case' hI1 => try dsimp only
    · exact ⟨⟨by omega, by omega⟩, fun j hj => by omega⟩
    · obtain ⟨⟨q1, q2⟩, q3⟩ := hI
      by_cases hi : i < a.length
      · have hib : i < b.length := by omega
        have w1 : IntKind.i64.wrap (i + 1) = i + 1 := wrapI _ (by omega)
        by_cases he : a[i.toNat]?.getD 0 = b[i.toNat]?.getD 0
        · have hn := sameI_at q3 he
          rw [show i.toNat + 1 = (i + 1).toNat by omega] at hn
          (try (simp -implicitDefEqProofs only [go_sem, hi, hib, q1, w1, eq_true he])); repeat' first | with_reducible exact True.intro | with_reducible refine And.intro ?_ ?_ | with_reducible intro _ | (((with_reducible refine vc_b ?_ ?_) <;> intro _) <;> try (simp -implicitDefEqProofs only [go_sem, hi, hib, q1, w1, eq_true he])) | simp (disch := omega) only [wrapI, wrapU, shl1, shl1', shl1'', shrN, shrN', and_one] | ((with_reducible refine isEx ?_); refine ⟨_, rfl, ?_, ?_⟩)
          all_goals first | omega | (apply hn; assumption) | skip
        · have hne : ¬ a = b := fun h => he (by rw [h])
          rw [decide_eq_false hne]
          (try (simp -implicitDefEqProofs only [go_sem, hi, hib, q1, w1, he])); repeat' first | with_reducible exact True.intro | with_reducible refine And.intro ?_ ?_ | with_reducible intro _ | (((with_reducible refine vc_b ?_ ?_) <;> intro _) <;> try (simp -implicitDefEqProofs only [go_sem, hi, hib, q1, w1, he])) | simp (disch := omega) only [wrapI, wrapU, shl1, shl1', shl1'', shrN, shrN', and_one] | ((with_reducible refine isEx ?_); refine ⟨_, rfl, ?_, ?_⟩)
          all_goals first | omega | (simp; done) | (simp; omega) | skip
      · have he : a = b := ext_getD hl fun j hj => q3 j (by omega)
        rw [decide_eq_true he]
        (try (simp -implicitDefEqProofs only [go_sem, hi])); repeat' first | with_reducible exact True.intro | with_reducible refine And.intro ?_ ?_ | with_reducible intro _ | (((with_reducible refine vc_b ?_ ?_) <;> intro _) <;> try (simp -implicitDefEqProofs only [go_sem, hi])) | simp (disch := omega) only [wrapI, wrapU, shl1, shl1', shl1'', shrN, shrN', and_one] | ((with_reducible refine isEx ?_); refine ⟨_, rfl, ?_, ?_⟩)
  · have hl2 : ¬ (a.length : Int) = b.length := by omega
    have hne : ¬ a = b := fun h => hl (by rw [h])
    rw [decide_eq_false hne]
    (try (simp -implicitDefEqProofs only [go_sem, hl2])); repeat' first | with_reducible exact True.intro | with_reducible refine And.intro ?_ ?_ | with_reducible intro _ | (((with_reducible refine vc_b ?_ ?_) <;> intro _) <;> try (simp -implicitDefEqProofs only [go_sem, hl2])) | simp (disch := omega) only [wrapI, wrapU, shl1, shl1', shl1'', shrN, shrN', and_one] | ((with_reducible refine isEx ?_); refine ⟨_, rfl, ?_, ?_⟩)
    all_goals first | omega | (simp; done) | (simp; omega) | skip

theorem law16_sameRecords_refl (na nb : Bool) (a : List GRec) : Ret E0 F_law16_sameRecords [.list na (recsD a), .list nb (recsD a)] (.bool true) := by
  refine ret_of_pw dec_law16_sameRecords mixed (by simp) fun hwf => ?_
  simp only [wf_int, wf_bool, wf_ints, wf_list, wf_agg, wf_ptr, wf_fn, wf_tup, wf_all_cons, wf_all_nil, wf_all_map, inK_i64, maxLen_eq, List.length_map, ints_len, true_and, and_true, recsD_len] at hwf
  rw [enter_eq]; unfold pc_law16_sameRecords
  (try (simp -implicitDefEqProofs only [go_sem, recsD_len])); repeat' first | with_reducible exact True.intro | with_reducible refine And.intro ?_ ?_ | with_reducible intro _ | (((with_reducible refine vc_b ?_ ?_) <;> intro _) <;> try (simp -implicitDefEqProofs only [go_sem, recsD_len])) | simp (disch := omega) only [wrapI, wrapU, shl1, shl1', shl1'', shrN, shrN', and_one] | ((with_reducible refine isEx ?_); refine ⟨_, rfl, ?_, ?_⟩)
  all_goals first | omega | (simp; done) | (simp; omega) | skip
  refine pw_loopS (α := Int) (l0 := ?l2) (m0 := ?m2) (fun x => [(5, .d (.int .i64 x))]) (fun x => []) (fun x => 0 ≤ x ∧ x ≤ a.length) (fun x => (a.length - x).toNat) ?a2_0 ?h02 ?he2 ?he22 ?hI2 ?step2
  case h02 => (simp -implicitDefEqProofs only [go_sem, recsD_len]; rfl)
  case he2 => rfl
  case he22 => rfl
  case' step2 => (rintro i hI; try dsimp only at hI)
  case' hI2 => try dsimp only
  · exact ⟨by omega, by omega⟩
  · by_cases hi : i < a.length
    · have w1 : IntKind.i64.wrap (i + 1) = i + 1 := wrapI _ (by omega)
      obtain ⟨r, hr⟩ : ∃ r, a[i.toNat]?.getD default = r := ⟨_, rfl⟩
      (try (simp -implicitDefEqProofs only [go_sem, recsD_len, onSome_recs, hr, recD_eq, recC_eq, recsD_unif, w1, hi, hI.1])); repeat' first | with_reducible exact True.intro | with_reducible refine And.intro ?_ ?_ | with_reducible intro _ | (((with_reducible refine vc_b ?_ ?_) <;> intro _) <;> try (simp -implicitDefEqProofs only [go_sem, recsD_len, onSome_recs, hr, recD_eq, recC_eq, recsD_unif, w1, hi, hI.1])) | simp (disch := omega) only [wrapI, wrapU, shl1, shl1', shl1'', shrN, shrN', and_one] | ((with_reducible refine isEx ?_); refine ⟨_, rfl, ?_, ?_⟩)
      all_goals first | omega | (simp; done) | skip
    · (try (simp -implicitDefEqProofs only [go_sem, recsD_len, hi])); repeat' first | with_reducible exact True.intro | with_reducible refine And.intro ?_ ?_ | with_reducible intro _ | (((with_reducible refine vc_b ?_ ?_) <;> intro _) <;> try (simp -implicitDefEqProofs only [go_sem, recsD_len, hi])) | simp (disch := omega) only [wrapI, wrapU, shl1, shl1', shl1'', shrN, shrN', and_one] | ((with_reducible refine isEx ?_); refine ⟨_, rfl, ?_, ?_⟩)
      all_goals first | omega | (simp; done) | (simp; omega) | skip

theorem ref16_Copy_ret (l : GLog) (hl : l.slots.length ≤ 1000) (hz : l.disk.zones.length ≤ 1000) : Ret E0 F_ref16_Copy [logD l] (logD l.cpy) := by
  refine ret_of_pw dec_ref16_Copy mixed (by simp) fun hwf => ?_
  have c1 := ref01_Copy_ret l.disk hz
  rw [diskD_eq, diskC_eq] at c1
  rw [enter_eq]; unfold pc_ref16_Copy
  (try (simp -implicitDefEqProofs only [go_sem, logD_eq, logC_eq, recsD_len, recsD_unif, GDisk.cp, GLog.cpy, diskD_eq, diskC_eq])); repeat' first | with_reducible exact True.intro | with_reducible refine And.intro ?_ ?_ | with_reducible intro _ | (((with_reducible refine isCall ?_); first | refine call_b (c1) rfl ?_ ?_ | refine call_d (c1) rfl ?_ | refine call_sb (c1) rfl ?_ ?_ | refine call_s (c1) rfl rfl ?_) <;> try (simp -implicitDefEqProofs only [go_sem, logD_eq, logC_eq, recsD_len, recsD_unif, GDisk.cp, GLog.cpy, diskD_eq, diskC_eq])) | (((with_reducible refine vc_b ?_ ?_) <;> intro _) <;> try (simp -implicitDefEqProofs only [go_sem, logD_eq, logC_eq, recsD_len, recsD_unif, GDisk.cp, GLog.cpy, diskD_eq, diskC_eq])) | simp (disch := omega) only [wrapI, wrapU, shl1, shl1', shl1'', shrN, shrN', and_one] 
  all_goals first | omega | rfl | (simp; done) | (rename_i hx; rw [hx])

theorem J_span_ret (a b : Int) : Ret E0 F_law01_span [.int .i64 a, .int .i64 b] (.agg [.int .i64 a, .int .i64 b]) := by
  refine ret_of_pw dec_law01_span mixed (by simp) fun hwf => ?_
  rw [enter_eq]; unfold pc_law01_span
  (try (simp -implicitDefEqProofs only [go_sem])); repeat' first | with_reducible exact True.intro | with_reducible refine And.intro ?_ ?_ | with_reducible intro _ | (((with_reducible refine vc_b ?_ ?_) <;> intro _) <;> try (simp -implicitDefEqProofs only [go_sem])) | simp (disch := omega) only [wrapI, wrapU, shl1, shl1', shl1'', shrN, shrN', and_one] 
theorem J_Example01_ret : Ret E0 F_law01_Example [] (diskD exD) := by
  refine ret_of_pw dec_law01_Example mixed (by simp) fun hwf => ?_
  have c1 := J_span_ret 4 12
  have c2 := J_span_ret 20 30
  rw [enter_eq]; unfold pc_law01_Example
  (try (simp -implicitDefEqProofs only [go_sem])); repeat' first | with_reducible exact True.intro | with_reducible refine And.intro ?_ ?_ | with_reducible intro _ | (((with_reducible refine isCall ?_); first | refine call_b (c1) rfl ?_ ?_ | refine call_d (c1) rfl ?_ | refine call_sb (c1) rfl ?_ ?_ | refine call_s (c1) rfl rfl ?_ | refine call_b (c2) rfl ?_ ?_ | refine call_d (c2) rfl ?_ | refine call_sb (c2) rfl ?_ ?_ | refine call_s (c2) rfl rfl ?_) <;> try (simp -implicitDefEqProofs only [go_sem])) | (((with_reducible refine vc_b ?_ ?_) <;> intro _) <;> try (simp -implicitDefEqProofs only [go_sem])) | simp (disch := omega) only [wrapI, wrapU, shl1, shl1', shl1'', shrN, shrN', and_one] 
  all_goals rfl
theorem law16_Example_ret : Ret E0 F_law16_Example [] (logD exL) := by
  refine ret_of_pw dec_law16_Example mixed (by simp) fun hwf => ?_
  have c1 := J_Example01_ret
  rw [diskD_eq, diskC_eq] at c1
  rw [enter_eq]; unfold pc_law16_Example
  (try (simp -implicitDefEqProofs only [go_sem])); repeat' first | with_reducible exact True.intro | with_reducible refine And.intro ?_ ?_ | with_reducible intro _ | (((with_reducible refine isCall ?_); first | refine call_b (c1) rfl ?_ ?_ | refine call_d (c1) rfl ?_ | refine call_sb (c1) rfl ?_ ?_ | refine call_s (c1) rfl rfl ?_) <;> try (simp -implicitDefEqProofs only [go_sem])) | (((with_reducible refine vc_b ?_ ?_) <;> intro _) <;> try (simp -implicitDefEqProofs only [go_sem])) | simp (disch := omega) only [wrapI, wrapU, shl1, shl1', shl1'', shrN, shrN', and_one] 
  all_goals rfl
theorem J_Far01_ret (d : GDisk) : Ret E0 F_law01_Far [diskD d] (.bool d.far) := by
  refine ret_of_pw dec_law01_Far mixed (by simp) fun hwf => ?_
  have c1 := ref01_Check_ret d
  rw [enter_eq]; unfold pc_law01_Far GDisk.far
  unfold GDisk.check at c1
  by_cases hz : 20 < (d.zones.length : Int)
  · rw [decide_eq_true hz]
    (try (simp -implicitDefEqProofs only [go_sem, diskD_eq, diskC_eq, zpsD_len, hz])); repeat' first | with_reducible exact True.intro | with_reducible refine And.intro ?_ ?_ | with_reducible intro _ | (((with_reducible refine isCall ?_); first | refine call_b (c1) rfl ?_ ?_ | refine call_d (c1) rfl ?_ | refine call_sb (c1) rfl ?_ ?_ | refine call_s (c1) rfl rfl ?_) <;> try (simp -implicitDefEqProofs only [go_sem, diskD_eq, diskC_eq, zpsD_len, hz])) | (((with_reducible refine vc_b ?_ ?_) <;> intro _) <;> try (simp -implicitDefEqProofs only [go_sem, diskD_eq, diskC_eq, zpsD_len, hz])) | simp (disch := omega) only [wrapI, wrapU, shl1, shl1', shl1'', shrN, shrN', and_one] 
    all_goals first | rfl | simp
  · rw [decide_eq_false hz]
    cases h : d.ok with
    | false =>
      rw [h] at c1
      (try (simp -implicitDefEqProofs only [go_sem, diskD_eq, diskC_eq, zpsD_len, hz])); repeat' first | with_reducible exact True.intro | with_reducible refine And.intro ?_ ?_ | with_reducible intro _ | (((with_reducible refine isCall ?_); first | refine call_b (c1) rfl ?_ ?_ | refine call_d (c1) rfl ?_ | refine call_sb (c1) rfl ?_ ?_ | refine call_s (c1) rfl rfl ?_) <;> try (simp -implicitDefEqProofs only [go_sem, diskD_eq, diskC_eq, zpsD_len, hz])) | (((with_reducible refine vc_b ?_ ?_) <;> intro _) <;> try (simp -implicitDefEqProofs only [go_sem, diskD_eq, diskC_eq, zpsD_len, hz])) | simp (disch := omega) only [wrapI, wrapU, shl1, shl1', shl1'', shrN, shrN', and_one] 
      all_goals first | rfl | simp
    | true =>
      rw [h] at c1
      have c2 := ref01_Count_ret d h
      by_cases h2 : 200 < d.size
      · rw [decide_eq_true h2]
        (try (simp -implicitDefEqProofs only [go_sem, diskD_eq, diskC_eq, zpsD_len, hz, h2])); repeat' first | with_reducible exact True.intro | with_reducible refine And.intro ?_ ?_ | with_reducible intro _ | (((with_reducible refine isCall ?_); first | refine call_b (c1) rfl ?_ ?_ | refine call_d (c1) rfl ?_ | refine call_sb (c1) rfl ?_ ?_ | refine call_s (c1) rfl rfl ?_ | refine call_b (c2) rfl ?_ ?_ | refine call_d (c2) rfl ?_ | refine call_sb (c2) rfl ?_ ?_ | refine call_s (c2) rfl rfl ?_) <;> try (simp -implicitDefEqProofs only [go_sem, diskD_eq, diskC_eq, zpsD_len, hz, h2])) | (((with_reducible refine vc_b ?_ ?_) <;> intro _) <;> try (simp -implicitDefEqProofs only [go_sem, diskD_eq, diskC_eq, zpsD_len, hz, h2])) | simp (disch := omega) only [wrapI, wrapU, shl1, shl1', shl1'', shrN, shrN', and_one] 
        all_goals first | rfl | simp
      · rw [decide_eq_false h2]
        by_cases h3 : 120 < d.turn
        · rw [decide_eq_true h3]
          (try (simp -implicitDefEqProofs only [go_sem, diskD_eq, diskC_eq, zpsD_len, hz, h2, h3])); repeat' first | with_reducible exact True.intro | with_reducible refine And.intro ?_ ?_ | with_reducible intro _ | (((with_reducible refine isCall ?_); first | refine call_b (c1) rfl ?_ ?_ | refine call_d (c1) rfl ?_ | refine call_sb (c1) rfl ?_ ?_ | refine call_s (c1) rfl rfl ?_ | refine call_b (c2) rfl ?_ ?_ | refine call_d (c2) rfl ?_ | refine call_sb (c2) rfl ?_ ?_ | refine call_s (c2) rfl rfl ?_) <;> try (simp -implicitDefEqProofs only [go_sem, diskD_eq, diskC_eq, zpsD_len, hz, h2, h3])) | (((with_reducible refine vc_b ?_ ?_) <;> intro _) <;> try (simp -implicitDefEqProofs only [go_sem, diskD_eq, diskC_eq, zpsD_len, hz, h2, h3])) | simp (disch := omega) only [wrapI, wrapU, shl1, shl1', shl1'', shrN, shrN', and_one] 
          all_goals first | rfl | simp
        · rw [decide_eq_false h3]
          (try (simp -implicitDefEqProofs only [go_sem, diskD_eq, diskC_eq, zpsD_len, hz, h2, h3])); repeat' first | with_reducible exact True.intro | with_reducible refine And.intro ?_ ?_ | with_reducible intro _ | (((with_reducible refine isCall ?_); first | refine call_b (c1) rfl ?_ ?_ | refine call_d (c1) rfl ?_ | refine call_sb (c1) rfl ?_ ?_ | refine call_s (c1) rfl rfl ?_ | refine call_b (c2) rfl ?_ ?_ | refine call_d (c2) rfl ?_ | refine call_sb (c2) rfl ?_ ?_ | refine call_s (c2) rfl rfl ?_) <;> try (simp -implicitDefEqProofs only [go_sem, diskD_eq, diskC_eq, zpsD_len, hz, h2, h3])) | (((with_reducible refine vc_b ?_ ?_) <;> intro _) <;> try (simp -implicitDefEqProofs only [go_sem, diskD_eq, diskC_eq, zpsD_len, hz, h2, h3])) | simp (disch := omega) only [wrapI, wrapU, shl1, shl1', shl1'', shrN, shrN', and_one] 
          all_goals first | rfl | simp
theorem law16_Far_ret (l : GLog) : Ret E0 F_law16_Far [logD l] (.bool l.far) := by
  refine ret_of_pw dec_law16_Far mixed (by simp) fun hwf => ?_
  have c1 := J_Far01_ret l.disk
  rw [diskD_eq, diskC_eq] at c1
  rw [enter_eq]; unfold pc_law16_Far GLog.far
  cases hf : l.disk.far with
  | true =>
    rw [hf] at c1
    (try (simp -implicitDefEqProofs only [go_sem, logD_eq, logC_eq, recsD_len])); repeat' first | with_reducible exact True.intro | with_reducible refine And.intro ?_ ?_ | with_reducible intro _ | (((with_reducible refine isCall ?_); first | refine call_b (c1) rfl ?_ ?_ | refine call_d (c1) rfl ?_ | refine call_sb (c1) rfl ?_ ?_ | refine call_s (c1) rfl rfl ?_) <;> try (simp -implicitDefEqProofs only [go_sem, logD_eq, logC_eq, recsD_len])) | (((with_reducible refine vc_b ?_ ?_) <;> intro _) <;> try (simp -implicitDefEqProofs only [go_sem, logD_eq, logC_eq, recsD_len])) | simp (disch := omega) only [wrapI, wrapU, shl1, shl1', shl1'', shrN, shrN', and_one] 
    all_goals first | rfl | (simp; done)
  | false =>
    rw [hf] at c1
    by_cases h40 : 40 < (l.slots.length : Int)
    · (try (simp -implicitDefEqProofs only [go_sem, logD_eq, logC_eq, recsD_len, h40])); repeat' first | with_reducible exact True.intro | with_reducible refine And.intro ?_ ?_ | with_reducible intro _ | (((with_reducible refine isCall ?_); first | refine call_b (c1) rfl ?_ ?_ | refine call_d (c1) rfl ?_ | refine call_sb (c1) rfl ?_ ?_ | refine call_s (c1) rfl rfl ?_) <;> try (simp -implicitDefEqProofs only [go_sem, logD_eq, logC_eq, recsD_len, h40])) | (((with_reducible refine vc_b ?_ ?_) <;> intro _) <;> try (simp -implicitDefEqProofs only [go_sem, logD_eq, logC_eq, recsD_len, h40])) | simp (disch := omega) only [wrapI, wrapU, shl1, shl1', shl1'', shrN, shrN', and_one] 
      all_goals first | rfl | (simp [h40]; done)
    · (try (simp -implicitDefEqProofs only [go_sem, logD_eq, logC_eq, recsD_len, h40])); repeat' first | with_reducible exact True.intro | with_reducible refine And.intro ?_ ?_ | with_reducible intro _ | (((with_reducible refine isCall ?_); first | refine call_b (c1) rfl ?_ ?_ | refine call_d (c1) rfl ?_ | refine call_sb (c1) rfl ?_ ?_ | refine call_s (c1) rfl rfl ?_) <;> try (simp -implicitDefEqProofs only [go_sem, logD_eq, logC_eq, recsD_len, h40])) | (((with_reducible refine vc_b ?_ ?_) <;> intro _) <;> try (simp -implicitDefEqProofs only [go_sem, logD_eq, logC_eq, recsD_len, h40])) | simp (disch := omega) only [wrapI, wrapU, shl1, shl1', shl1'', shrN, shrN', and_one] 
      all_goals first | rfl | (simp [h40]; done)

theorem law16_works_ret : Ret E0 F_law16_works [] (.bool true) := by
  refine ret_of_pw dec_law16_works mixed (by simp) fun hwf => ?_
  have c1 := law16_Example_ret
  have c2 := journal_Recover_ret exL (by intro h; cases h) (by intro h; cases h)
  have c3 := journal_Room_ret exL (by intro h; cases h) (by intro h; cases h)
  have c4 := journal_Replay_ret exL (by intro h; cases h) (by intro h; cases h) false [1, 1, 1] (by intro h; cases h)
  have c5 := law16_sameInts_ret false false [7, 8, 6] [7, 8, 6]
  rw [exL_open, exL_rec] at c2
  rw [exL_open, exL_room] at c3
  rw [exL_repE, exL_rep, if_pos rfl] at c4
  rw [decide_eq_true rfl] at c5
  rw [enter_eq]; unfold pc_law16_works
  rw [logD_eq, logC_eq] at c1 c2 c3 c4
  (try (simp -implicitDefEqProofs only [go_sem, recsD_len, onSome_recs, recD_eq, recC_eq, recsD_unif])); repeat' first | with_reducible exact True.intro | with_reducible refine And.intro ?_ ?_ | with_reducible intro _ | (((with_reducible refine isCall ?_); first | refine call_b (c1) rfl ?_ ?_ | refine call_d (c1) rfl ?_ | refine call_sb (c1) rfl ?_ ?_ | refine call_s (c1) rfl rfl ?_ | refine call_b (c2) rfl ?_ ?_ | refine call_d (c2) rfl ?_ | refine call_sb (c2) rfl ?_ ?_ | refine call_s (c2) rfl rfl ?_ | refine call_b (c3) rfl ?_ ?_ | refine call_d (c3) rfl ?_ | refine call_sb (c3) rfl ?_ ?_ | refine call_s (c3) rfl rfl ?_ | refine call_b (c4) rfl ?_ ?_ | refine call_d (c4) rfl ?_ | refine call_sb (c4) rfl ?_ ?_ | refine call_s (c4) rfl rfl ?_ | refine call_b (c5) rfl ?_ ?_ | refine call_d (c5) rfl ?_ | refine call_sb (c5) rfl ?_ ?_ | refine call_s (c5) rfl rfl ?_) <;> try (simp -implicitDefEqProofs only [go_sem, recsD_len, onSome_recs, recD_eq, recC_eq, recsD_unif])) | (((with_reducible refine vc_b ?_ ?_) <;> intro _) <;> try (simp -implicitDefEqProofs only [go_sem, recsD_len, onSome_recs, recD_eq, recC_eq, recsD_unif])) | simp (disch := omega) only [wrapI, wrapU, shl1, shl1', shl1'', shrN, shrN', and_one] 
  all_goals first | (simp; done) | (simp_all; done)
end Go.Pw
