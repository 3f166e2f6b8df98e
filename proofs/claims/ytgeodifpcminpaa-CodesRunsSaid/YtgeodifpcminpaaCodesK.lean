/- A part of the proof. -/
import Derived.Test.YtgeodifpcminpaaCodesJ
set_option linter.all false
open Go Go.Pw Go.Proofs
namespace Go.Pw
set_option linter.unusedSimpArgs false
set_option linter.unusedVariables false
set_option maxRecDepth 100000
set_option maxHeartbeats 800000
attribute [local congr] cg_pw cg_seqI cg_seqE cg_stepI cg_ev cg_evBin cg_condB cg_condV cg_thenQ cg_blockQ cg_onSome cg_onCells cg_onRow cg_onMap cg_onOpt cg_ghosts cg_ghost cg_evCall cg_part cg_rng cg_guardV cg_frzV cg_frpV cg_ownV cg_owcV cg_occV cg_occX cg_resK cg_res1
attribute [local irreducible] IntKind.wrap bitsOp Option.getD and or

def nextS (s : Int) : Int := (2 * s + (s / 64 % 2 + s / 32 % 2) % 2) % 128
def scramL : Int → List Int → List Int
  | _, [] => []
  | s, x :: l => ((x + s / 64 % 2) % 2) :: scramL (nextS s) l
def scramOk (s : Int) (l : List Int) : Bool := inR s 1 127 && decide (l.length ≤ 128) && areBits l
def scram (s : Int) (l : List Int) : List Int × Int := if scramOk s l then (scramL s l, 0) else ([], 1)
theorem scram_ok {s : Int} {l : List Int} (h : scramOk s l = true) : scram s l = (scramL s l, 0) := by simp [scram, h]
theorem scram_bad {s : Int} {l : List Int} (h : scramOk s l = false) : scram s l = ([], 1) := by simp [scram, h]
theorem scramL_length (s : Int) (l : List Int) : (scramL s l).length = l.length := by
  induction l generalizing s with
  | nil => rfl
  | cons x l ih => simp [scramL, ih]
theorem scram_long {s : Int} {l : List Int} (h : ¬ l.length ≤ 128) : scramOk s l = false := by simp [scramOk, h]
theorem nextS_bound (s : Int) : 0 ≤ nextS s ∧ nextS s ≤ 127 := by simp only [nextS]; omega

theorem scr_next : ∀ s : Fin 128, bitsOp .or .i64 (bitsOp .and .i64 (IntKind.i64.wrap ((s.val : Int) * 2 ^ min 1 64)) 127) (bitsOp .xor .i64 ((s.val : Int).fdiv (2 ^ min 6 64) % 2) ((s.val : Int).fdiv (2 ^ min 5 64) % 2)) = nextS s.val := by decide +kernel
theorem scr_next' {s : Int} (h : 0 ≤ s ∧ s ≤ 127) : bitsOp .or .i64 (bitsOp .and .i64 (IntKind.i64.wrap (s * 2 ^ min 1 64)) 127) (bitsOp .xor .i64 (s.fdiv (2 ^ min 6 64) % 2) (s.fdiv (2 ^ min 5 64) % 2)) = nextS s := by
  have := scr_next ⟨s.toNat, by omega⟩
  simp only [Int.toNat_of_nonneg h.1] at this
  exact this
theorem fdiv6 {s : Int} : s.fdiv (2 ^ min 6 64) = s / 64 := by
  rw [shr_eq]; rfl
theorem scr_out {x s : Int} (hx : x = 0 ∨ x = 1) : bitsOp .xor .i64 x (s.fdiv (2 ^ min 6 64) % 2) = (x + s / 64 % 2) % 2 := by
  rw [fdiv6, xor_bit hx (by omega)]
  split <;> omega
theorem ref_next : ∀ s : Fin 128, (IntKind.i64.wrap (2 * (s.val : Int) + (IntKind.i64.wrap ((IntKind.i64.wrap ((s.val : Int).tdiv 64)).tmod 2 + (IntKind.i64.wrap ((s.val : Int).tdiv 32)).tmod 2)).tmod 2)).tmod 128 = nextS s.val := by decide +kernel
theorem ref_next' {s : Int} (h : 0 ≤ s ∧ s ≤ 127) : (IntKind.i64.wrap (2 * s + (IntKind.i64.wrap ((IntKind.i64.wrap (s.tdiv 64)).tmod 2 + (IntKind.i64.wrap (s.tdiv 32)).tmod 2)).tmod 2)).tmod 128 = nextS s := by
  have := ref_next ⟨s.toNat, by omega⟩
  simp only [Int.toNat_of_nonneg h.1] at this
  exact this
theorem ref_out0 : ∀ s : Fin 128, ∀ x : Fin 2, (IntKind.i64.wrap ((x.val : Int) + (IntKind.i64.wrap ((s.val : Int).tdiv 64)).tmod 2)).tmod 2 = ((x.val : Int) + (s.val : Int) / 64 % 2) % 2 := by decide +kernel
theorem ref_out {x s : Int} (hx : x = 0 ∨ x = 1) (h : 0 ≤ s ∧ s ≤ 127) : (IntKind.i64.wrap (x + (IntKind.i64.wrap (s.tdiv 64)).tmod 2)).tmod 2 = (x + s / 64 % 2) % 2 := by
  have := ref_out0 ⟨s.toNat, by omega⟩ ⟨x.toNat, by omega⟩
  simp only [Int.toNat_of_nonneg h.1, Int.toNat_of_nonneg (show 0 ≤ x by omega)] at this
  exact this

theorem ref04_AreBits_ret (nl : Bool) (xs : List Int) : Ret E0 F_ref04_AreBits [.list nl (ints xs)] (.bool (areBits xs)) := by
  refine ret_of_pw dec_ref04_AreBits mixed (by simp) fun hwf => ?_
  simp only [wf_int, wf_bool, wf_ints, wf_list, wf_agg, wf_ptr, wf_fn, wf_tup, wf_all_cons, wf_all_nil, wf_all_map, inK_i64, maxLen_eq, List.length_map, ints_len, true_and, and_true] at hwf
  rw [enter_eq]; unfold pc_ref04_AreBits
  simp -implicitDefEqProofs only [go_sem]
  refine pw_loopS (α := Int) (l0 := ?l1) (m0 := ?m1) (fun x => [(3, .d (.int .i64 x))]) (fun x => []) (fun x => 0 ≤ x ∧ x ≤ xs.length ∧ areBits (xs.drop x.toNat) = areBits xs) (fun x => (xs.length - x).toNat) ?a1_0 ?h01 ?he1 ?he21 ?hI1 ?step1
  case h01 => (simp -implicitDefEqProofs only [go_sem]; rfl)
  case he1 => rfl
  case he21 => rfl
  case' step1 => (rintro i hI; try dsimp only at hI)
  case' hI1 => try dsimp only
  · simp
  · by_cases hi : i < xs.length
    · have hd : areBits (xs.drop i.toNat) = (inR (xs[i.toNat]?.getD 0) 0 1 && areBits (xs.drop (i + 1).toNat)) := by
        rw [drop_get (xs := xs) (i := i.toNat) (by omega), show (i + 1).toNat = i.toNat + 1 by omega]; rfl
      (try (simp -implicitDefEqProofs only [go_sem])); repeat' first | with_reducible exact True.intro | with_reducible refine And.intro ?_ ?_ | with_reducible intro _ | (((with_reducible refine isCall ?_); first | refine call_b (ref04_within_ret _ _ _) rfl ?_ ?_ | refine call_d (ref04_within_ret _ _ _) rfl ?_ | refine call_sb (ref04_within_ret _ _ _) rfl ?_ ?_ | refine call_s (ref04_within_ret _ _ _) rfl rfl ?_) <;> try (simp -implicitDefEqProofs only [go_sem])) | (((with_reducible refine vc_b ?_ ?_) <;> intro _) <;> try (simp -implicitDefEqProofs only [go_sem])) | simp (disch := omega) only [wrapI, wrapU, shl1, shl1', shl1'', shrN, shrN', and_one] | ((with_reducible refine isEx8 ?_); refine ⟨(_, _, _, _, _, _, _, _), rfl, ?_, ?_⟩) | ((with_reducible refine isEx7 ?_); refine ⟨(_, _, _, _, _, _, _), rfl, ?_, ?_⟩) | ((with_reducible refine isEx6 ?_); refine ⟨(_, _, _, _, _, _), rfl, ?_, ?_⟩) | ((with_reducible refine isEx5 ?_); refine ⟨(_, _, _, _, _), rfl, ?_, ?_⟩) | ((with_reducible refine isEx4 ?_); refine ⟨(_, _, _, _), rfl, ?_, ?_⟩) | ((with_reducible refine isEx3 ?_); refine ⟨(_, _, _), rfl, ?_, ?_⟩) | ((with_reducible refine isEx2 ?_); refine ⟨(_, _), rfl, ?_, ?_⟩) | ((with_reducible refine isEx ?_); refine ⟨_, rfl, ?_, ?_⟩)
      all_goals (first | omega | skip)
      all_goals simp_all
    · (try (simp -implicitDefEqProofs only [go_sem])); repeat' first | with_reducible exact True.intro | with_reducible refine And.intro ?_ ?_ | with_reducible intro _ | (((with_reducible refine vc_b ?_ ?_) <;> intro _) <;> try (simp -implicitDefEqProofs only [go_sem])) | simp (disch := omega) only [wrapI, wrapU, shl1, shl1', shl1'', shrN, shrN', and_one] | ((with_reducible refine isEx8 ?_); refine ⟨(_, _, _, _, _, _, _, _), rfl, ?_, ?_⟩) | ((with_reducible refine isEx7 ?_); refine ⟨(_, _, _, _, _, _, _), rfl, ?_, ?_⟩) | ((with_reducible refine isEx6 ?_); refine ⟨(_, _, _, _, _, _), rfl, ?_, ?_⟩) | ((with_reducible refine isEx5 ?_); refine ⟨(_, _, _, _, _), rfl, ?_, ?_⟩) | ((with_reducible refine isEx4 ?_); refine ⟨(_, _, _, _), rfl, ?_, ?_⟩) | ((with_reducible refine isEx3 ?_); refine ⟨(_, _, _), rfl, ?_, ?_⟩) | ((with_reducible refine isEx2 ?_); refine ⟨(_, _), rfl, ?_, ?_⟩) | ((with_reducible refine isEx ?_); refine ⟨_, rfl, ?_, ?_⟩)
      all_goals first | omega | (simp; done) | (simp; omega) | skip
      have h0 : xs.drop i.toNat = [] := List.drop_eq_nil_of_le (by omega)
      rw [h0] at hI
      rw [← hI.2.2]; rfl

theorem codes_Scramble_ret (s : Int) (nl : Bool) (l : List Int) : Ret E0 F_codes_Scramble [.int .i64 s, .list nl (ints l)]
    (.tup [.list (scram s l).1.isEmpty (ints (scram s l).1), .int .i64 (scram s l).2]) := by
  refine ret_of_pw dec_codes_Scramble mixed (by simp) fun hwf => ?_
  simp only [wf_int, wf_bool, wf_ints, wf_list, wf_agg, wf_ptr, wf_fn, wf_tup, wf_all_cons, wf_all_nil, wf_all_map, inK_i64, maxLen_eq, List.length_map, ints_len, true_and, and_true] at hwf
  rw [enter_eq]; unfold pc_codes_Scramble
  (try (simp -implicitDefEqProofs only [go_sem])); repeat' first | with_reducible exact True.intro | with_reducible refine And.intro ?_ ?_ | with_reducible intro _ | (((with_reducible refine isCall ?_); first | refine call_b (codes_are_ret _ _) rfl ?_ ?_ | refine call_d (codes_are_ret _ _) rfl ?_ | refine call_sb (codes_are_ret _ _) rfl ?_ ?_ | refine call_s (codes_are_ret _ _) rfl rfl ?_ | refine call_b (codes_within_ret _ _ _) rfl ?_ ?_ | refine call_d (codes_within_ret _ _ _) rfl ?_ | refine call_sb (codes_within_ret _ _ _) rfl ?_ ?_ | refine call_s (codes_within_ret _ _ _) rfl rfl ?_) <;> try (simp -implicitDefEqProofs only [go_sem])) | (((with_reducible refine vc_b ?_ ?_) <;> intro _) <;> try (simp -implicitDefEqProofs only [go_sem])) | simp (disch := omega) only [wrapI, wrapU, shl1, shl1', shl1'', shrN, shrN', and_one] | ((with_reducible refine isEx8 ?_); refine ⟨(_, _, _, _, _, _, _, _), rfl, ?_, ?_⟩) | ((with_reducible refine isEx7 ?_); refine ⟨(_, _, _, _, _, _, _), rfl, ?_, ?_⟩) | ((with_reducible refine isEx6 ?_); refine ⟨(_, _, _, _, _, _), rfl, ?_, ?_⟩) | ((with_reducible refine isEx5 ?_); refine ⟨(_, _, _, _, _), rfl, ?_, ?_⟩) | ((with_reducible refine isEx4 ?_); refine ⟨(_, _, _, _), rfl, ?_, ?_⟩) | ((with_reducible refine isEx3 ?_); refine ⟨(_, _, _), rfl, ?_, ?_⟩) | ((with_reducible refine isEx2 ?_); refine ⟨(_, _), rfl, ?_, ?_⟩) | ((with_reducible refine isEx ?_); refine ⟨_, rfl, ?_, ?_⟩)
  all_goals first
    | (have hx : scramOk s l = false := by (simp_all [scramOk]; done)
       rw [scram_bad hx]; rfl)
    | (have h9 : ¬ l.length ≤ 128 := by omega
       rw [scram_bad (scram_long h9)]; rfl)
    | skip
  have hb : areBits l = true := by assumption
  have h128 : l.length ≤ 128 := by omega
  have hr : inR s 1 127 = true := by assumption
  have hg : scramOk s l = true := by simp [scramOk, hb, h128, hr]
  have hs : 1 ≤ s ∧ s ≤ 127 := by simp [scramOk, inR] at hg; omega
  rw [scram_ok hg]
  refine pw_loopS (α := Int × Int × Bool × (List Int)) (l0 := ?l2) (m0 := ?m2) (fun x => [(25, .d (.int .i64 x.1)), (0, .d (.int .i64 x.2.1))]) (fun x => [(37, .row T_int 1 x.2.2.1 (ints x.2.2.2))]) (fun x => 0 ≤ x.1 ∧ x.1 ≤ l.length ∧ 0 ≤ x.2.1 ∧ x.2.1 ≤ 127 ∧ x.2.2.2.length = x.1.toNat ∧ x.2.2.1 = x.2.2.2.isEmpty ∧ x.2.2.2 ++ scramL x.2.1 (l.drop x.1.toNat) = scramL s l) (fun x => (l.length - x.1).toNat) (?a2_0, ?a2_1, ?a2_2, []) ?h02 ?he2 ?he22 ?hI2 ?step2
  case h02 => (simp -implicitDefEqProofs only [go_sem]; rfl)
  case he2 => rfl
  case he22 => rfl
  case' step2 => (rintro ⟨i, t, nl', acc⟩ hI; try dsimp only at hI)
  case' hI2 => try dsimp only
  · simp; omega
  · by_cases hi : i < l.length
    · have hbit := areBits_get hb (i := i.toNat) (by omega)
      have hstep : scramL t (l.drop i.toNat) = ((l[i.toNat]?.getD 0 + t / 64 % 2) % 2) :: scramL (nextS t) (l.drop (i + 1).toNat) := by
        rw [drop_get (xs := l) (i := i.toNat) (by omega), scramL, show (i + 1).toNat = i.toNat + 1 by omega]
      have hx := scr_out (s := t) hbit
      have hnx := scr_next' (s := t) (by omega)
      have hnb := nextS_bound t
      (try (simp -implicitDefEqProofs only [go_sem])); repeat' first | with_reducible exact True.intro | with_reducible refine And.intro ?_ ?_ | with_reducible intro _ | (((with_reducible refine vc_b ?_ ?_) <;> intro _) <;> try (simp -implicitDefEqProofs only [go_sem])) | simp (disch := omega) only [wrapI, wrapU, shl1, shl1', shl1'', shrN, shrN', and_one] | ((with_reducible refine isEx8 ?_); refine ⟨(_, _, _, _, _, _, _, _), rfl, ?_, ?_⟩) | ((with_reducible refine isEx7 ?_); refine ⟨(_, _, _, _, _, _, _), rfl, ?_, ?_⟩) | ((with_reducible refine isEx6 ?_); refine ⟨(_, _, _, _, _, _), rfl, ?_, ?_⟩) | ((with_reducible refine isEx5 ?_); refine ⟨(_, _, _, _, _), rfl, ?_, ?_⟩) | ((with_reducible refine isEx4 ?_); refine ⟨(_, _, _, _), rfl, ?_, ?_⟩) | ((with_reducible refine isEx3 ?_); refine ⟨(_, _, _), rfl, ?_, ?_⟩) | ((with_reducible refine isEx2 ?_); refine ⟨(_, _), rfl, ?_, ?_⟩) | ((with_reducible refine isEx ?_); refine ⟨_, rfl, ?_, ?_⟩)
      all_goals (try simp only [hx, hnx])
      all_goals first | omega | (simp; done) | (simp; omega) | skip
      rw [← hI.2.2.2.2.2.2, hstep]; simp
    · (try (simp -implicitDefEqProofs only [go_sem])); repeat' first | with_reducible exact True.intro | with_reducible refine And.intro ?_ ?_ | with_reducible intro _ | (((with_reducible refine vc_b ?_ ?_) <;> intro _) <;> try (simp -implicitDefEqProofs only [go_sem])) | simp (disch := omega) only [wrapI, wrapU, shl1, shl1', shl1'', shrN, shrN', and_one] | ((with_reducible refine isEx8 ?_); refine ⟨(_, _, _, _, _, _, _, _), rfl, ?_, ?_⟩) | ((with_reducible refine isEx7 ?_); refine ⟨(_, _, _, _, _, _, _), rfl, ?_, ?_⟩) | ((with_reducible refine isEx6 ?_); refine ⟨(_, _, _, _, _, _), rfl, ?_, ?_⟩) | ((with_reducible refine isEx5 ?_); refine ⟨(_, _, _, _, _), rfl, ?_, ?_⟩) | ((with_reducible refine isEx4 ?_); refine ⟨(_, _, _, _), rfl, ?_, ?_⟩) | ((with_reducible refine isEx3 ?_); refine ⟨(_, _, _), rfl, ?_, ?_⟩) | ((with_reducible refine isEx2 ?_); refine ⟨(_, _), rfl, ?_, ?_⟩) | ((with_reducible refine isEx ?_); refine ⟨_, rfl, ?_, ?_⟩)
      all_goals first | omega | (simp; done) | (simp; omega) | skip
      have h0 : l.drop i.toNat = [] := List.drop_eq_nil_of_le (by omega)
      have h1 := hI.2.2.2.2.2.2
      rw [h0, scramL, List.append_nil] at h1
      rw [← h1, hI.2.2.2.2.2.1]

theorem ref04_Scramble_ret (s : Int) (nl : Bool) (l : List Int) : Ret E0 F_ref04_Scramble [.int .i64 s, .list nl (ints l)]
    (.tup [.list (scram s l).1.isEmpty (ints (scram s l).1), .int .i64 (scram s l).2]) := by
  refine ret_of_pw dec_ref04_Scramble mixed (by simp) fun hwf => ?_
  simp only [wf_int, wf_bool, wf_ints, wf_list, wf_agg, wf_ptr, wf_fn, wf_tup, wf_all_cons, wf_all_nil, wf_all_map, inK_i64, maxLen_eq, List.length_map, ints_len, true_and, and_true] at hwf
  rw [enter_eq]; unfold pc_ref04_Scramble
  (try (simp -implicitDefEqProofs only [go_sem])); repeat' first | with_reducible exact True.intro | with_reducible refine And.intro ?_ ?_ | with_reducible intro _ | (((with_reducible refine isCall ?_); first | refine call_b (ref04_AreBits_ret _ _) rfl ?_ ?_ | refine call_d (ref04_AreBits_ret _ _) rfl ?_ | refine call_sb (ref04_AreBits_ret _ _) rfl ?_ ?_ | refine call_s (ref04_AreBits_ret _ _) rfl rfl ?_ | refine call_b (ref04_within_ret _ _ _) rfl ?_ ?_ | refine call_d (ref04_within_ret _ _ _) rfl ?_ | refine call_sb (ref04_within_ret _ _ _) rfl ?_ ?_ | refine call_s (ref04_within_ret _ _ _) rfl rfl ?_) <;> try (simp -implicitDefEqProofs only [go_sem])) | (((with_reducible refine vc_b ?_ ?_) <;> intro _) <;> try (simp -implicitDefEqProofs only [go_sem])) | simp (disch := omega) only [wrapI, wrapU, shl1, shl1', shl1'', shrN, shrN', and_one] | ((with_reducible refine isEx8 ?_); refine ⟨(_, _, _, _, _, _, _, _), rfl, ?_, ?_⟩) | ((with_reducible refine isEx7 ?_); refine ⟨(_, _, _, _, _, _, _), rfl, ?_, ?_⟩) | ((with_reducible refine isEx6 ?_); refine ⟨(_, _, _, _, _, _), rfl, ?_, ?_⟩) | ((with_reducible refine isEx5 ?_); refine ⟨(_, _, _, _, _), rfl, ?_, ?_⟩) | ((with_reducible refine isEx4 ?_); refine ⟨(_, _, _, _), rfl, ?_, ?_⟩) | ((with_reducible refine isEx3 ?_); refine ⟨(_, _, _), rfl, ?_, ?_⟩) | ((with_reducible refine isEx2 ?_); refine ⟨(_, _), rfl, ?_, ?_⟩) | ((with_reducible refine isEx ?_); refine ⟨_, rfl, ?_, ?_⟩)
  all_goals first
    | (have hx : scramOk s l = false := by (simp_all [scramOk]; done)
       rw [scram_bad hx]; rfl)
    | (have h9 : ¬ l.length ≤ 128 := by omega
       rw [scram_bad (scram_long h9)]; rfl)
    | skip
  have hb : areBits l = true := by assumption
  have h128 : l.length ≤ 128 := by omega
  have hr : inR s 1 127 = true := by assumption
  have hg : scramOk s l = true := by simp [scramOk, hb, h128, hr]
  have hs : 1 ≤ s ∧ s ≤ 127 := by simp [scramOk, inR] at hg; omega
  rw [scram_ok hg]
  refine pw_loopS (α := Int × Int × Bool × (List Int)) (l0 := ?l3) (m0 := ?m3) (fun x => [(8, .d (.int .i64 x.1)), (7, .d (.int .i64 x.2.1))]) (fun x => [(46, .row T_int 1 x.2.2.1 (ints x.2.2.2))]) (fun x => 0 ≤ x.1 ∧ x.1 ≤ l.length ∧ 0 ≤ x.2.1 ∧ x.2.1 ≤ 127 ∧ x.2.2.2.length = x.1.toNat ∧ x.2.2.1 = x.2.2.2.isEmpty ∧ x.2.2.2 ++ scramL x.2.1 (l.drop x.1.toNat) = scramL s l) (fun x => (l.length - x.1).toNat) (?a3_0, ?a3_1, ?a3_2, []) ?h03 ?he3 ?he23 ?hI3 ?step3
  case h03 => (simp -implicitDefEqProofs only [go_sem]; rfl)
  case he3 => rfl
  case he23 => rfl
  case' step3 => (rintro ⟨i, t, nl', acc⟩ hI; try dsimp only at hI)
  case' hI3 => try dsimp only
  · simp; omega
  · by_cases hi : i < l.length
    · have hbit := areBits_get hb (i := i.toNat) (by omega)
      have hstep : scramL t (l.drop i.toNat) = ((l[i.toNat]?.getD 0 + t / 64 % 2) % 2) :: scramL (nextS t) (l.drop (i + 1).toNat) := by
        rw [drop_get (xs := l) (i := i.toNat) (by omega), scramL, show (i + 1).toNat = i.toNat + 1 by omega]
      have hx := ref_out (s := t) hbit (by omega)
      have hnx := ref_next' (s := t) (by omega)
      have hnb := nextS_bound t
      have hny := hnx
      rw [Int.tmod.eq_def _ 128] at hny
      (try (simp -implicitDefEqProofs only [go_sem, hx, hnx])); repeat' first | with_reducible exact True.intro | with_reducible refine And.intro ?_ ?_ | with_reducible intro _ | (((with_reducible refine vc_b ?_ ?_) <;> intro _) <;> try (simp -implicitDefEqProofs only [go_sem, hx, hnx])) | simp (disch := omega) only [wrapI, wrapU, shl1, shl1', shl1'', shrN, shrN', and_one] | ((with_reducible refine isEx8 ?_); refine ⟨(_, _, _, _, _, _, _, _), rfl, ?_, ?_⟩) | ((with_reducible refine isEx7 ?_); refine ⟨(_, _, _, _, _, _, _), rfl, ?_, ?_⟩) | ((with_reducible refine isEx6 ?_); refine ⟨(_, _, _, _, _, _), rfl, ?_, ?_⟩) | ((with_reducible refine isEx5 ?_); refine ⟨(_, _, _, _, _), rfl, ?_, ?_⟩) | ((with_reducible refine isEx4 ?_); refine ⟨(_, _, _, _), rfl, ?_, ?_⟩) | ((with_reducible refine isEx3 ?_); refine ⟨(_, _, _), rfl, ?_, ?_⟩) | ((with_reducible refine isEx2 ?_); refine ⟨(_, _), rfl, ?_, ?_⟩) | ((with_reducible refine isEx ?_); refine ⟨_, rfl, ?_, ?_⟩)
      all_goals (try rw [hny])
      all_goals (try rw [hx])
      all_goals first | omega | (simp; done) | (simp; omega) | skip
      rw [← hI.2.2.2.2.2.2, hstep]; simp
    · (try (simp -implicitDefEqProofs only [go_sem])); repeat' first | with_reducible exact True.intro | with_reducible refine And.intro ?_ ?_ | with_reducible intro _ | (((with_reducible refine vc_b ?_ ?_) <;> intro _) <;> try (simp -implicitDefEqProofs only [go_sem])) | simp (disch := omega) only [wrapI, wrapU, shl1, shl1', shl1'', shrN, shrN', and_one] | ((with_reducible refine isEx8 ?_); refine ⟨(_, _, _, _, _, _, _, _), rfl, ?_, ?_⟩) | ((with_reducible refine isEx7 ?_); refine ⟨(_, _, _, _, _, _, _), rfl, ?_, ?_⟩) | ((with_reducible refine isEx6 ?_); refine ⟨(_, _, _, _, _, _), rfl, ?_, ?_⟩) | ((with_reducible refine isEx5 ?_); refine ⟨(_, _, _, _, _), rfl, ?_, ?_⟩) | ((with_reducible refine isEx4 ?_); refine ⟨(_, _, _, _), rfl, ?_, ?_⟩) | ((with_reducible refine isEx3 ?_); refine ⟨(_, _, _), rfl, ?_, ?_⟩) | ((with_reducible refine isEx2 ?_); refine ⟨(_, _), rfl, ?_, ?_⟩) | ((with_reducible refine isEx ?_); refine ⟨_, rfl, ?_, ?_⟩)
      all_goals first | omega | (simp; done) | (simp; omega) | skip
      have h0 : l.drop i.toNat = [] := List.drop_eq_nil_of_le (by omega)
      have h1 := hI.2.2.2.2.2.2
      rw [h0, scramL, List.append_nil] at h1
      rw [← h1, hI.2.2.2.2.2.1]

/-! the plain law -/
theorem scramL_bits (s : Int) (l : List Int) : areBits (scramL s l) = true := by
  induction l generalizing s with
  | nil => rfl
  | cons x l ih =>
    have h1 := ih (nextS s)
    have e : inR ((x + s / 64 % 2) % 2) 0 1 = true := by simp only [inR, decide_eq_true_eq]; omega
    simp only [areBits] at h1
    simp only [scramL, areBits, List.all_cons, h1, e, Bool.and_true]
theorem scramL_twice (s : Int) (l : List Int) (h : areBits l = true) : scramL s (scramL s l) = l := by
  induction l generalizing s with
  | nil => rfl
  | cons x l ih =>
    simp only [areBits, List.all_cons, Bool.and_eq_true, inR, decide_eq_true_eq] at h
    have h1 := h.1
    rw [scramL, scramL, ih _ (by simpa [areBits, inR] using h.2)]
    have : (((x + s / 64 % 2) % 2 + s / 64 % 2) % 2) = x := by omega
    rw [this]
theorem scramL_apart (s : Int) (l m : List Int) (hl : areBits l = true) (hm : areBits m = true) (h : l.length = m.length) (i : Nat) :
    ((scramL s l)[i]?.getD 0 = (scramL s m)[i]?.getD 0) ↔ (l[i]?.getD 0 = m[i]?.getD 0) := by
  induction l generalizing s m i with
  | nil => have : m = [] := by cases m <;> simp_all
           subst this; simp
  | cons x l ih =>
    cases m with
    | nil => simp at h
    | cons y m =>
      simp only [areBits, List.all_cons, Bool.and_eq_true, inR, decide_eq_true_eq] at hl hm
      cases i with
      | zero => simp only [scramL, List.getElem?_cons_zero, Option.getD_some]; omega
      | succ i => simpa [scramL] using ih (nextS s) m (by simpa [areBits, inR] using hl.2) (by simpa [areBits, inR] using hm.2) (by simpa using h) i

end Go.Pw
