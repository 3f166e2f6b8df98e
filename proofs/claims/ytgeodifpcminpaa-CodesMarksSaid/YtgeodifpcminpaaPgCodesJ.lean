/- A part of the proof. -/
import Derived.Test.YtgeodifpcminpaaPgCodesF
import Derived.Test.YtgeodifpcminpaaPwLaw
set_option linter.all false
section
open Go Go.Pw Go.Proofs
namespace Go.Pw
set_option linter.unusedSimpArgs false
set_option linter.unusedVariables false
set_option maxRecDepth 100000
set_option maxHeartbeats 1600000
attribute [local congr] cg_pw cg_seqI cg_seqE cg_stepI cg_ev cg_evBin cg_condB cg_condV cg_thenQ cg_blockQ cg_onSome cg_onCells cg_onRow cg_onRow2 cg_frhV cg_frhO cg_onMap cg_onOpt cg_ghosts cg_ghost cg_evCall cg_part cg_rng cg_guardV cg_frzV cg_frpV cg_ownV cg_owcV cg_occV cg_occX cg_resK cg_res1 cg_yldP cg_rndE cg_onlyN cg_onHist
attribute [local irreducible] IntKind.wrap bitsOp Option.getD and or

theorem stream_append (c : GCode) : ∀ (l : List Int) (s : Int) (r : List Int), c.stream s (l ++ r) = ((c.stream s l).1 ++ (c.stream (c.stream s l).2 r).1, (c.stream (c.stream s l).2 r).2)
  | [], s, r => by simp [GCode.stream]
  | w :: l, s, r => by
    rw [List.cons_append, GCode.stream, stream_append c l (c.nxt s w) r]
    simp [GCode.stream]
theorem stream_len (c : GCode) : ∀ (l : List Int) (s : Int), (c.stream s l).1.length = l.length * c.out.toNat
  | [], s => by simp [GCode.stream]
  | w :: l, s => by
    simp only [GCode.stream, List.length_append, bitsOf_length, stream_len c l, List.length_cons, Nat.succ_mul]
    omega
theorem stream_state (c : GCode) (h : c.ok = true) : ∀ (l : List Int) (s : Int), c.isState s = true → (∀ w, w ∈ l → c.isWord w = true) → c.isState (c.stream s l).2 = true
  | [], s, hs, _ => by simpa [GCode.stream] using hs
  | w :: l, s, hs, hw => by
    simp only [GCode.stream]
    exact stream_state c h l _ (GCode.nxt_state h hs (hw w (by simp))) fun v hv => hw v (by simp [hv])
theorem isData_take {c : GCode} {l : List Int} (h : c.isData l = true) (n : Nat) : c.isData (l.take n) = true := by
  simp only [GCode.isData, Bool.and_eq_true, decide_eq_true_eq, List.all_eq_true] at *
  exact ⟨by simp; omega, fun x hx => h.2 x (List.mem_of_mem_take hx)⟩
theorem isData_drop {c : GCode} {l : List Int} (h : c.isData l = true) (n : Nat) : c.isData (l.drop n) = true := by
  simp only [GCode.isData, Bool.and_eq_true, decide_eq_true_eq, List.all_eq_true] at *
  exact ⟨by simp; omega, fun x hx => h.2 x (List.mem_of_mem_drop hx)⟩

theorem CodesJoined_ret (c : GCode) (s : Int) (n1 n2 : Bool) (data bits : List Int) (cut : Int) :
    Ret E0 F_law04_CodesJoined [codeD c, .agg [.int .i64 s, .list n1 (ints data), .list n2 (ints bits)], .int .i64 cut] (.bool true) := by
  refine ret_of_pw dec_law04_CodesJoined mixed (by simp) fun hwf => ?_
  simp only [wf_int, wf_bool, wf_ints, wf_list, wf_agg, wf_ptr, wf_fn, wf_tup, wf_all_cons, wf_all_nil, wf_all_map, inK_i64, maxLen_eq, List.length_map, ints_len, true_and, and_true, codeD_eq, codeC_eq, rowsD_eq] at hwf
  rw [enter_eq]; unfold pc_law04_CodesJoined
  by_cases hv : (!c.far && (c.ok && c.isState s)) = true
  · have hv' := hv
    simp only [Bool.and_eq_true, Bool.not_eq_true'] at hv'
    obtain ⟨hfar, hok, hst⟩ := hv'
    have hd := GCode.ok_head hok
    have cid := ref04_IsData_ret c n1 data (by omega)
    by_cases hdt : c.isData data = true
    · by_cases hcut : 0 ≤ cut ∧ cut ≤ data.length
      · have hword : ∀ w, w ∈ data → c.isWord w = true := by simp only [GCode.isData, Bool.and_eq_true, List.all_eq_true] at hdt; exact hdt.2
        have henc : ∀ t l, c.isState t = true → c.isData l = true → c.encode t l = ((c.stream t l).1, (c.stream t l).2, 0) := fun t l h1 h2 => by simp [GCode.encode, hok, h1, h2]
        have ce1 := codes_Encode_ret c s n1 data
        have ce2 := codes_Encode_ret c s n1 (data.take cut.toNat)
        have hs2 : c.isState (c.stream s (data.take cut.toNat)).2 = true := stream_state c hok _ _ hst fun w hw => hword w (List.mem_of_mem_take hw)
        have ce3 := codes_Encode_ret c (c.stream s (data.take cut.toNat)).2 n1 (data.drop cut.toNat)
        rw [henc _ _ hst hdt] at ce1
        rw [henc _ _ hst (isData_take hdt _)] at ce2
        rw [henc _ _ hs2 (isData_drop hdt _)] at ce3
        have hj := stream_append c (data.take cut.toNat) s (data.drop cut.toNat)
        rw [List.take_append_drop] at hj
        have hl1 := stream_len c (data.take cut.toNat) s
        have hl2 := stream_len c (data.drop cut.toNat) (c.stream s (data.take cut.toNat)).2
        have hl3 := stream_len c data s
        have ccs := ref04_CheckState_ret c (c.stream s (data.take cut.toNat)).2
        have h24 : data.length ≤ 24 := by simp [GCode.isData] at hdt; omega
        rw [hj] at ce1
        have hcm : cut * c.out = ((c.stream s (data.take cut.toNat)).1.length : Int) := by
          rw [hl1, List.length_take, show min cut.toNat data.length = cut.toNat by omega]
          have e1 : (cut.toNat : Int) = cut := by omega
          have e2 : (c.out.toNat : Int) = c.out := by omega
          rw [Int.natCast_mul, e1, e2]
        have hb1 : (c.stream s (data.take cut.toNat)).1.length ≤ 120 := by
          rw [hl1]; exact Nat.mul_le_mul (show (data.take cut.toNat).length ≤ 24 by simp; omega) (show c.out.toNat ≤ 5 by omega)
        have hb2 : (c.stream (c.stream s (data.take cut.toNat)).2 (data.drop cut.toNat)).1.length ≤ 120 := by
          rw [hl2]; exact Nat.mul_le_mul (show (data.drop cut.toNat).length ≤ 24 by simp; omega) (show c.out.toNat ≤ 5 by omega)
        dsimp only at ce1 ce2 ce3
        clear hj hl1 hl2 hl3 henc
        generalize hS : (c.stream s (data.take cut.toNat)).2 = S at *
        generalize (c.stream s (data.take cut.toNat)).1 = A at *
        generalize (c.stream S (data.drop cut.toNat)).2 = S' at *
        generalize (c.stream S (data.drop cut.toNat)).1 = B at *
        have csn := fun n xs => law04_sameInts_ret n false xs []
        have hwr : IntKind.i64.wrap (cut * c.out) = (A.length : Int) := by rw [hcm, wrapI]; omega
        (try (simp -implicitDefEqProofs only [go_sem, codeD_eq, codeC_eq])); repeat' first | with_reducible exact True.intro | with_reducible refine And.intro ?_ ?_ | with_reducible intro _ | (((with_reducible refine isCall ?_); first | refine call_b (law04_valid_ret c s) rfl ?_ ?_ | refine call_d (law04_valid_ret c s) rfl ?_ | refine call_sb (law04_valid_ret c s) rfl ?_ ?_ | refine call_s (law04_valid_ret c s) rfl rfl ?_ | refine call_b (cid) rfl ?_ ?_ | refine call_d (cid) rfl ?_ | refine call_sb (cid) rfl ?_ ?_ | refine call_s (cid) rfl rfl ?_ | refine call_b (law04_works_ret) rfl ?_ ?_ | refine call_d (law04_works_ret) rfl ?_ | refine call_sb (law04_works_ret) rfl ?_ ?_ | refine call_s (law04_works_ret) rfl rfl ?_ | refine call_b (ce1) rfl ?_ ?_ | refine call_d (ce1) rfl ?_ | refine call_sb (ce1) rfl ?_ ?_ | refine call_s (ce1) rfl rfl ?_ | refine call_b (ce2) rfl ?_ ?_ | refine call_d (ce2) rfl ?_ | refine call_sb (ce2) rfl ?_ ?_ | refine call_s (ce2) rfl rfl ?_ | refine call_b (ce3) rfl ?_ ?_ | refine call_d (ce3) rfl ?_ | refine call_sb (ce3) rfl ?_ ?_ | refine call_s (ce3) rfl rfl ?_ | refine call_b (ccs) rfl ?_ ?_ | refine call_d (ccs) rfl ?_ | refine call_sb (ccs) rfl ?_ ?_ | refine call_s (ccs) rfl rfl ?_ | refine call_b (law04_sameInts_ret _ _ _ _) rfl ?_ ?_ | refine call_d (law04_sameInts_ret _ _ _ _) rfl ?_ | refine call_sb (law04_sameInts_ret _ _ _ _) rfl ?_ ?_ | refine call_s (law04_sameInts_ret _ _ _ _) rfl rfl ?_ | refine call_b (csn _ _) rfl ?_ ?_ | refine call_d (csn _ _) rfl ?_ | refine call_sb (csn _ _) rfl ?_ ?_ | refine call_s (csn _ _) rfl rfl ?_) <;> try (simp -implicitDefEqProofs only [go_sem, codeD_eq, codeC_eq])) | (((with_reducible refine vc_b ?_ ?_) <;> intro _) <;> try (simp -implicitDefEqProofs only [go_sem, codeD_eq, codeC_eq])) | simp (disch := omega) only [wrapI, wrapU, shl1, shl1', shl1'', shrN, shrN', and_one] 
        all_goals first | omega | (simp; done) | (simp; omega) | skip
        all_goals clear ce1 ce2 ce3 csn ccs cid hcm hwr
        all_goals first
          | (rename_i hA hB hx; subst hA hB; simp at hx; done)
          | (rename_i hA hB hx; subst hA; simp at hx; done)
          | (rename_i hA hB hx; subst hB; simp at hx; done)
          | (rename_i hx; simp at hx; done)
          | (rename_i hx; simp [hok, hs2] at hx; done)
      · (try (simp -implicitDefEqProofs only [go_sem, codeD_eq, codeC_eq])); repeat' first | with_reducible exact True.intro | with_reducible refine And.intro ?_ ?_ | with_reducible intro _ | (((with_reducible refine isCall ?_); first | refine call_b (law04_valid_ret c s) rfl ?_ ?_ | refine call_d (law04_valid_ret c s) rfl ?_ | refine call_sb (law04_valid_ret c s) rfl ?_ ?_ | refine call_s (law04_valid_ret c s) rfl rfl ?_ | refine call_b (cid) rfl ?_ ?_ | refine call_d (cid) rfl ?_ | refine call_sb (cid) rfl ?_ ?_ | refine call_s (cid) rfl rfl ?_ | refine call_b (law04_works_ret) rfl ?_ ?_ | refine call_d (law04_works_ret) rfl ?_ | refine call_sb (law04_works_ret) rfl ?_ ?_ | refine call_s (law04_works_ret) rfl rfl ?_) <;> try (simp -implicitDefEqProofs only [go_sem, codeD_eq, codeC_eq])) | (((with_reducible refine vc_b ?_ ?_) <;> intro _) <;> try (simp -implicitDefEqProofs only [go_sem, codeD_eq, codeC_eq])) | simp (disch := omega) only [wrapI, wrapU, shl1, shl1', shl1'', shrN, shrN', and_one] 
        all_goals first | omega | simp_all
    · (try (simp -implicitDefEqProofs only [go_sem, codeD_eq, codeC_eq])); repeat' first | with_reducible exact True.intro | with_reducible refine And.intro ?_ ?_ | with_reducible intro _ | (((with_reducible refine isCall ?_); first | refine call_b (law04_valid_ret c s) rfl ?_ ?_ | refine call_d (law04_valid_ret c s) rfl ?_ | refine call_sb (law04_valid_ret c s) rfl ?_ ?_ | refine call_s (law04_valid_ret c s) rfl rfl ?_ | refine call_b (cid) rfl ?_ ?_ | refine call_d (cid) rfl ?_ | refine call_sb (cid) rfl ?_ ?_ | refine call_s (cid) rfl rfl ?_ | refine call_b (law04_works_ret) rfl ?_ ?_ | refine call_d (law04_works_ret) rfl ?_ | refine call_sb (law04_works_ret) rfl ?_ ?_ | refine call_s (law04_works_ret) rfl rfl ?_) <;> try (simp -implicitDefEqProofs only [go_sem, codeD_eq, codeC_eq])) | (((with_reducible refine vc_b ?_ ?_) <;> intro _) <;> try (simp -implicitDefEqProofs only [go_sem, codeD_eq, codeC_eq])) | simp (disch := omega) only [wrapI, wrapU, shl1, shl1', shl1'', shrN, shrN', and_one] 
      all_goals first | omega | simp_all
  · (try (simp -implicitDefEqProofs only [go_sem, codeD_eq, codeC_eq])); repeat' first | with_reducible exact True.intro | with_reducible refine And.intro ?_ ?_ | with_reducible intro _ | (((with_reducible refine isCall ?_); first | refine call_b (law04_valid_ret c s) rfl ?_ ?_ | refine call_d (law04_valid_ret c s) rfl ?_ | refine call_sb (law04_valid_ret c s) rfl ?_ ?_ | refine call_s (law04_valid_ret c s) rfl rfl ?_ | refine call_b (law04_works_ret) rfl ?_ ?_ | refine call_d (law04_works_ret) rfl ?_ | refine call_sb (law04_works_ret) rfl ?_ ?_ | refine call_s (law04_works_ret) rfl rfl ?_) <;> try (simp -implicitDefEqProofs only [go_sem, codeD_eq, codeC_eq])) | (((with_reducible refine vc_b ?_ ?_) <;> intro _) <;> try (simp -implicitDefEqProofs only [go_sem, codeD_eq, codeC_eq])) | simp (disch := omega) only [wrapI, wrapU, shl1, shl1', shl1'', shrN, shrN', and_one] 
    all_goals first | omega | simp_all

theorem typed_int {k : IntKind} {cs : List D} (h : TypedC (.int k) cs) : ∃ n, cs = [.int k n] := by cases h with | int _ n _ => exact ⟨n, rfl⟩
theorem typed_ints {cs : List D} (h : TypedC (.list (.int .i64)) cs) : ∃ nl l, cs = [.list nl (ints l)] := by
  cases h with | list _ nl xs h0 h1 h2 =>
  have : ∃ l, xs = ints l := by
    clear h0
    induction xs with
    | nil => exact ⟨[], rfl⟩
    | cons x xs ih =>
      obtain ⟨l, rfl⟩ := ih (fun y hy => h1 y (by simp [hy])) fun y hy => h2 y (by simp [hy])
      obtain ⟨n, hn⟩ := typed_int (h1 x (by simp))
      have := h2 x (by simp)
      rw [hn] at this
      exact ⟨n :: l, by rw [this]; rfl⟩
  obtain ⟨l, rfl⟩ := this
  exact ⟨nl, l, rfl⟩
theorem typed_rows {cs : List D} (h : TypedC (.list (.list (.int .i64))) cs) : ∃ nl l, cs = [.list nl (rowsD l)] := by
  cases h with | list _ nl xs h0 h1 h2 =>
  have : ∃ l, xs = rowsD l := by
    clear h0
    induction xs with
    | nil => exact ⟨[], rfl⟩
    | cons x xs ih =>
      obtain ⟨l, rfl⟩ := ih (fun y hy => h1 y (by simp [hy])) fun y hy => h2 y (by simp [hy])
      obtain ⟨b, n, hn⟩ := typed_ints (h1 x (by simp))
      have := h2 x (by simp)
      rw [hn] at this
      exact ⟨(b, n) :: l, by rw [this]; rfl⟩
  obtain ⟨l, rfl⟩ := this
  exact ⟨nl, l, rfl⟩
theorem typed_cons {T : Ty} {Ts : List Ty} {cs : List D} (h : TypedC (.str (T :: Ts)) cs) : ∃ a b, cs = a ++ b ∧ TypedC T a ∧ TypedC (.str Ts) b := by
  cases h with | cons _ _ a b h1 h2 => exact ⟨a, b, rfl, h1, h2⟩
theorem typed_nil {cs : List D} (h : TypedC (.str []) cs) : cs = [] := by cases h; rfl
def codeT : Ty := .str [.int .i64, .int .i64, .int .i64, .int .i64, .list (.list (.int .i64)), .list (.list (.int .i64))]
def textT : Ty := .str [.int .i64, .list (.int .i64), .list (.int .i64)]
theorem typed_code {x : D} (h : TypedV codeT x) : ∃ c, x = codeD c := by
  obtain ⟨h, hx⟩ := h
  obtain ⟨_, _, e1, h1, h⟩ := typed_cons h
  obtain ⟨_, _, e2, h2, h⟩ := typed_cons h
  obtain ⟨_, _, e3, h3, h⟩ := typed_cons h
  obtain ⟨_, _, e4, h4, h⟩ := typed_cons h
  obtain ⟨_, _, e5, h5, h⟩ := typed_cons h
  obtain ⟨_, _, e6, h6, h⟩ := typed_cons h
  obtain rfl := typed_nil h
  obtain ⟨n1, rfl⟩ := typed_int h1
  obtain ⟨n2, rfl⟩ := typed_int h2
  obtain ⟨n3, rfl⟩ := typed_int h3
  obtain ⟨n4, rfl⟩ := typed_int h4
  obtain ⟨nw, w, rfl⟩ := typed_rows h5
  obtain ⟨nn, v, rfl⟩ := typed_rows h6
  subst e6 e5 e4 e3 e2
  rw [e1] at hx
  exact ⟨⟨n1, n2, n3, n4, nw, w, nn, v⟩, hx⟩
theorem typed_text {x : D} (h : TypedV textT x) : ∃ s n1 l n2 m, x = .agg [.int .i64 s, .list n1 (ints l), .list n2 (ints m)] := by
  obtain ⟨h, hx⟩ := h
  obtain ⟨_, _, e1, h1, h⟩ := typed_cons h
  obtain ⟨_, _, e2, h2, h⟩ := typed_cons h
  obtain ⟨_, _, e3, h3, h⟩ := typed_cons h
  obtain rfl := typed_nil h
  obtain ⟨n1, rfl⟩ := typed_int h1
  obtain ⟨b1, l1, rfl⟩ := typed_ints h2
  obtain ⟨b2, l2, rfl⟩ := typed_ints h3
  subst e3 e2
  rw [e1] at hx
  exact ⟨n1, b1, l1, b2, l2, hx⟩
theorem typed_intV {x : D} (h : TypedV (.int .i64) x) : ∃ n, x = .int .i64 n := by
  obtain ⟨h, hx⟩ := h
  obtain ⟨n, hn⟩ := typed_int h
  rw [hn] at hx
  exact ⟨n, hx⟩
end Go.Pw
end
section
open Go Go.Pw Go.Proofs
namespace Go.Pw
set_option linter.unusedSimpArgs false
set_option linter.unusedVariables false
set_option maxRecDepth 100000
set_option maxHeartbeats 800000
attribute [local congr] cg_pw cg_seqI cg_seqE cg_stepI cg_ev cg_evBin cg_condB cg_condV cg_thenQ cg_blockQ cg_onSome cg_onCells cg_onRow cg_onRow2 cg_frhV cg_frhO cg_onMap cg_onOpt cg_ghosts cg_ghost cg_evCall cg_part cg_rng cg_guardV cg_frzV cg_frpV cg_ownV cg_owcV cg_occV cg_occX cg_resK cg_res1 cg_yldP cg_rndE cg_onlyN cg_onHist
attribute [local irreducible] IntKind.wrap bitsOp Option.getD and or

def nextS (s : Int) : Int := (2 * s + (s / 64 % 2 + s / 32 % 2) % 2) % 128
def scramL : Int → List Int → List Int
  | _, [] => []
  | s, x :: l => ((x + s / 64 % 2) % 2) :: scramL (nextS s) l
def scramOk (s : Int) (l : List Int) : Bool := inR s 1 127 && decide (l.length ≤ 128) && areBits l
def scram (s : Int) (l : List Int) : List Int × Int := if scramOk s l then (scramL s l, 0) else ([], 1)
theorem scram_ok {s : Int} {l : List Int} (h : scramOk s l = true) : scram s l = (scramL s l, 0) := by simp [scram, h]
theorem scram_bad {s : Int} {l : List Int} (h : scramOk s l = false) : scram s l = ([], 1) := by simp [scram, h]
theorem scramL_length (s : Int) (l : List Int) : (scramL s l).length = l.length := by
  induction l generalizing s with
  | nil => rfl
  | cons x l ih => simp [scramL, ih]
theorem scram_long {s : Int} {l : List Int} (h : ¬ l.length ≤ 128) : scramOk s l = false := by simp [scramOk, h]
theorem nextS_bound (s : Int) : 0 ≤ nextS s ∧ nextS s ≤ 127 := by simp only [nextS]; omega

theorem scr_next : ∀ s : Fin 128, bitsOp .or .i64 (bitsOp .and .i64 (IntKind.i64.wrap ((s.val : Int) * 2 ^ min 1 64)) 127) (bitsOp .xor .i64 ((s.val : Int).fdiv (2 ^ min 6 64) % 2) ((s.val : Int).fdiv (2 ^ min 5 64) % 2)) = nextS s.val := by decide +kernel
theorem scr_next' {s : Int} (h : 0 ≤ s ∧ s ≤ 127) : bitsOp .or .i64 (bitsOp .and .i64 (IntKind.i64.wrap (s * 2 ^ min 1 64)) 127) (bitsOp .xor .i64 (s.fdiv (2 ^ min 6 64) % 2) (s.fdiv (2 ^ min 5 64) % 2)) = nextS s := by
  have := scr_next ⟨s.toNat, by omega⟩
  simp only [Int.toNat_of_nonneg h.1] at this
  exact this
theorem fdiv6 {s : Int} : s.fdiv (2 ^ min 6 64) = s / 64 := by
  rw [shr_eq]; rfl
theorem scr_out {x s : Int} (hx : x = 0 ∨ x = 1) : bitsOp .xor .i64 x (s.fdiv (2 ^ min 6 64) % 2) = (x + s / 64 % 2) % 2 := by
  rw [fdiv6, xor_bit hx (by omega)]
  split <;> omega
theorem ref_next : ∀ s : Fin 128, (IntKind.i64.wrap (2 * (s.val : Int) + (IntKind.i64.wrap ((IntKind.i64.wrap ((s.val : Int).tdiv 64)).tmod 2 + (IntKind.i64.wrap ((s.val : Int).tdiv 32)).tmod 2)).tmod 2)).tmod 128 = nextS s.val := by decide +kernel
theorem ref_next' {s : Int} (h : 0 ≤ s ∧ s ≤ 127) : (IntKind.i64.wrap (2 * s + (IntKind.i64.wrap ((IntKind.i64.wrap (s.tdiv 64)).tmod 2 + (IntKind.i64.wrap (s.tdiv 32)).tmod 2)).tmod 2)).tmod 128 = nextS s := by
  have := ref_next ⟨s.toNat, by omega⟩
  simp only [Int.toNat_of_nonneg h.1] at this
  exact this
theorem ref_out0 : ∀ s : Fin 128, ∀ x : Fin 2, (IntKind.i64.wrap ((x.val : Int) + (IntKind.i64.wrap ((s.val : Int).tdiv 64)).tmod 2)).tmod 2 = ((x.val : Int) + (s.val : Int) / 64 % 2) % 2 := by decide +kernel
theorem ref_out {x s : Int} (hx : x = 0 ∨ x = 1) (h : 0 ≤ s ∧ s ≤ 127) : (IntKind.i64.wrap (x + (IntKind.i64.wrap (s.tdiv 64)).tmod 2)).tmod 2 = (x + s / 64 % 2) % 2 := by
  have := ref_out0 ⟨s.toNat, by omega⟩ ⟨x.toNat, by omega⟩
  simp only [Int.toNat_of_nonneg h.1, Int.toNat_of_nonneg (show 0 ≤ x by omega)] at this
  exact this

theorem ref04_AreBits_ret (nl : Bool) (xs : List Int) : Ret E0 F_ref04_AreBits [.list nl (ints xs)] (.bool (areBits xs)) := by
  refine ret_of_pw dec_ref04_AreBits mixed (by simp) fun hwf => ?_
  simp only [wf_int, wf_bool, wf_ints, wf_list, wf_agg, wf_ptr, wf_fn, wf_tup, wf_all_cons, wf_all_nil, wf_all_map, inK_i64, maxLen_eq, List.length_map, ints_len, true_and, and_true] at hwf
  rw [enter_eq]; unfold pc_ref04_AreBits
  simp -implicitDefEqProofs only [go_sem]
  refine pw_loopS (α := Int) (l0 := ?l1) (m0 := ?m1) (fun x => [(3, .d (.int .i64 x))]) (fun x => []) (fun x => 0 ≤ x ∧ x ≤ xs.length ∧ areBits (xs.drop x.toNat) = areBits xs) (fun x => (xs.length - x).toNat) ?a1_0 ?h01 ?he1 ?he21 ?hI1 ?step1
  case h01 => (simp -implicitDefEqProofs only [go_sem]; rfl)
  case he1 => rfl
  case he21 => rfl
  case' step1 => (rintro i hI; try dsimp only at hI)
  case' hI1 => try dsimp only
  · simp
  · by_cases hi : i < xs.length
    · have hd : areBits (xs.drop i.toNat) = (inR (xs[i.toNat]?.getD 0) 0 1 && areBits (xs.drop (i + 1).toNat)) := by
        rw [drop_get (xs := xs) (i := i.toNat) (by omega), show (i + 1).toNat = i.toNat + 1 by omega]; rfl
      (try (simp -implicitDefEqProofs only [go_sem])); repeat' first | with_reducible exact True.intro | with_reducible refine And.intro ?_ ?_ | with_reducible intro _ | (((with_reducible refine isCall ?_); first | refine call_b (ref04_within_ret _ _ _) rfl ?_ ?_ | refine call_d (ref04_within_ret _ _ _) rfl ?_ | refine call_sb (ref04_within_ret _ _ _) rfl ?_ ?_ | refine call_s (ref04_within_ret _ _ _) rfl rfl ?_) <;> try (simp -implicitDefEqProofs only [go_sem])) | (((with_reducible refine vc_b ?_ ?_) <;> intro _) <;> try (simp -implicitDefEqProofs only [go_sem])) | simp (disch := omega) only [wrapI, wrapU, shl1, shl1', shl1'', shrN, shrN', and_one] | ((with_reducible refine isEx ?_); refine ⟨_, rfl, ?_, ?_⟩)
      all_goals (first | omega | skip)
      all_goals simp_all
    · (try (simp -implicitDefEqProofs only [go_sem])); repeat' first | with_reducible exact True.intro | with_reducible refine And.intro ?_ ?_ | with_reducible intro _ | (((with_reducible refine vc_b ?_ ?_) <;> intro _) <;> try (simp -implicitDefEqProofs only [go_sem])) | simp (disch := omega) only [wrapI, wrapU, shl1, shl1', shl1'', shrN, shrN', and_one] | ((with_reducible refine isEx ?_); refine ⟨_, rfl, ?_, ?_⟩)
      all_goals first | omega | (simp; done) | (simp; omega) | skip
      have h0 : xs.drop i.toNat = [] := List.drop_eq_nil_of_le (by omega)
      rw [h0] at hI
      rw [← hI.2.2]; rfl

theorem codes_Scramble_ret (s : Int) (nl : Bool) (l : List Int) : Ret E0 F_codes_Scramble [.int .i64 s, .list nl (ints l)]
    (.tup [.list (scram s l).1.isEmpty (ints (scram s l).1), .int .i64 (scram s l).2]) := by
  refine ret_of_pw dec_codes_Scramble mixed (by simp) fun hwf => ?_
  simp only [wf_int, wf_bool, wf_ints, wf_list, wf_agg, wf_ptr, wf_fn, wf_tup, wf_all_cons, wf_all_nil, wf_all_map, inK_i64, maxLen_eq, List.length_map, ints_len, true_and, and_true] at hwf
  rw [enter_eq]; unfold pc_codes_Scramble
  (try (simp -implicitDefEqProofs only [go_sem])); repeat' first | with_reducible exact True.intro | with_reducible refine And.intro ?_ ?_ | with_reducible intro _ | (((with_reducible refine isCall ?_); first | refine call_b (codes_are_ret _ _) rfl ?_ ?_ | refine call_d (codes_are_ret _ _) rfl ?_ | refine call_sb (codes_are_ret _ _) rfl ?_ ?_ | refine call_s (codes_are_ret _ _) rfl rfl ?_ | refine call_b (codes_within_ret _ _ _) rfl ?_ ?_ | refine call_d (codes_within_ret _ _ _) rfl ?_ | refine call_sb (codes_within_ret _ _ _) rfl ?_ ?_ | refine call_s (codes_within_ret _ _ _) rfl rfl ?_) <;> try (simp -implicitDefEqProofs only [go_sem])) | (((with_reducible refine vc_b ?_ ?_) <;> intro _) <;> try (simp -implicitDefEqProofs only [go_sem])) | simp (disch := omega) only [wrapI, wrapU, shl1, shl1', shl1'', shrN, shrN', and_one] | ((with_reducible refine isEx4 ?_); refine ⟨(_, _, _, _), rfl, ?_, ?_⟩)
  all_goals first
    | (have hx : scramOk s l = false := by (simp_all [scramOk]; done)
       rw [scram_bad hx]; rfl)
    | (have h9 : ¬ l.length ≤ 128 := by omega
       rw [scram_bad (scram_long h9)]; rfl)
    | skip
  have hb : areBits l = true := by assumption
  have h128 : l.length ≤ 128 := by omega
  have hr : inR s 1 127 = true := by assumption
  have hg : scramOk s l = true := by simp [scramOk, hb, h128, hr]
  have hs : 1 ≤ s ∧ s ≤ 127 := by simp [scramOk, inR] at hg; omega
  rw [scram_ok hg]
  refine pw_loopS (α := Int × Int × Bool × (List Int)) (l0 := ?l2) (m0 := ?m2) (fun x => [(25, .d (.int .i64 x.1)), (0, .d (.int .i64 x.2.1))]) (fun x => [(37, .row T_int 1 x.2.2.1 (ints x.2.2.2))]) (fun x => 0 ≤ x.1 ∧ x.1 ≤ l.length ∧ 0 ≤ x.2.1 ∧ x.2.1 ≤ 127 ∧ x.2.2.2.length = x.1.toNat ∧ x.2.2.1 = x.2.2.2.isEmpty ∧ x.2.2.2 ++ scramL x.2.1 (l.drop x.1.toNat) = scramL s l) (fun x => (l.length - x.1).toNat) (?a2_0, ?a2_1, ?a2_2, []) ?h02 ?he2 ?he22 ?hI2 ?step2
  case h02 => (simp -implicitDefEqProofs only [go_sem]; rfl)
  case he2 => rfl
  case he22 => rfl
  case' step2 => (rintro ⟨i, t, nl', acc⟩ hI; try dsimp only at hI)
  case' hI2 => try dsimp only
  · simp; omega
  · by_cases hi : i < l.length
    · have hbit := areBits_get hb (i := i.toNat) (by omega)
      have hstep : scramL t (l.drop i.toNat) = ((l[i.toNat]?.getD 0 + t / 64 % 2) % 2) :: scramL (nextS t) (l.drop (i + 1).toNat) := by
        rw [drop_get (xs := l) (i := i.toNat) (by omega), scramL, show (i + 1).toNat = i.toNat + 1 by omega]
      have hx := scr_out (s := t) hbit
      have hnx := scr_next' (s := t) (by omega)
      have hnb := nextS_bound t
      (try (simp -implicitDefEqProofs only [go_sem])); repeat' first | with_reducible exact True.intro | with_reducible refine And.intro ?_ ?_ | with_reducible intro _ | (((with_reducible refine vc_b ?_ ?_) <;> intro _) <;> try (simp -implicitDefEqProofs only [go_sem])) | simp (disch := omega) only [wrapI, wrapU, shl1, shl1', shl1'', shrN, shrN', and_one] | ((with_reducible refine isEx4 ?_); refine ⟨(_, _, _, _), rfl, ?_, ?_⟩)
      all_goals (try simp only [hx, hnx])
      all_goals first | omega | (simp; done) | (simp; omega) | skip
      rw [← hI.2.2.2.2.2.2, hstep]; simp
    · (try (simp -implicitDefEqProofs only [go_sem])); repeat' first | with_reducible exact True.intro | with_reducible refine And.intro ?_ ?_ | with_reducible intro _ | (((with_reducible refine vc_b ?_ ?_) <;> intro _) <;> try (simp -implicitDefEqProofs only [go_sem])) | simp (disch := omega) only [wrapI, wrapU, shl1, shl1', shl1'', shrN, shrN', and_one] | ((with_reducible refine isEx4 ?_); refine ⟨(_, _, _, _), rfl, ?_, ?_⟩)
      all_goals first | omega | (simp; done) | (simp; omega) | skip
      have h0 : l.drop i.toNat = [] := List.drop_eq_nil_of_le (by omega)
      have h1 := hI.2.2.2.2.2.2
      rw [h0, scramL, List.append_nil] at h1
      rw [← h1, hI.2.2.2.2.2.1]

theorem ref04_Scramble_ret (s : Int) (nl : Bool) (l : List Int) : Ret E0 F_ref04_Scramble [.int .i64 s, .list nl (ints l)]
    (.tup [.list (scram s l).1.isEmpty (ints (scram s l).1), .int .i64 (scram s l).2]) := by
  refine ret_of_pw dec_ref04_Scramble mixed (by simp) fun hwf => ?_
  simp only [wf_int, wf_bool, wf_ints, wf_list, wf_agg, wf_ptr, wf_fn, wf_tup, wf_all_cons, wf_all_nil, wf_all_map, inK_i64, maxLen_eq, List.length_map, ints_len, true_and, and_true] at hwf
  rw [enter_eq]; unfold pc_ref04_Scramble
  (try (simp -implicitDefEqProofs only [go_sem])); repeat' first | with_reducible exact True.intro | with_reducible refine And.intro ?_ ?_ | with_reducible intro _ | (((with_reducible refine isCall ?_); first | refine call_b (ref04_AreBits_ret _ _) rfl ?_ ?_ | refine call_d (ref04_AreBits_ret _ _) rfl ?_ | refine call_sb (ref04_AreBits_ret _ _) rfl ?_ ?_ | refine call_s (ref04_AreBits_ret _ _) rfl rfl ?_ | refine call_b (ref04_within_ret _ _ _) rfl ?_ ?_ | refine call_d (ref04_within_ret _ _ _) rfl ?_ | refine call_sb (ref04_within_ret _ _ _) rfl ?_ ?_ | refine call_s (ref04_within_ret _ _ _) rfl rfl ?_) <;> try (simp -implicitDefEqProofs only [go_sem])) | (((with_reducible refine vc_b ?_ ?_) <;> intro _) <;> try (simp -implicitDefEqProofs only [go_sem])) | simp (disch := omega) only [wrapI, wrapU, shl1, shl1', shl1'', shrN, shrN', and_one] | ((with_reducible refine isEx4 ?_); refine ⟨(_, _, _, _), rfl, ?_, ?_⟩)
  all_goals first
    | (have hx : scramOk s l = false := by (simp_all [scramOk]; done)
       rw [scram_bad hx]; rfl)
    | (have h9 : ¬ l.length ≤ 128 := by omega
       rw [scram_bad (scram_long h9)]; rfl)
    | skip
  have hb : areBits l = true := by assumption
  have h128 : l.length ≤ 128 := by omega
  have hr : inR s 1 127 = true := by assumption
  have hg : scramOk s l = true := by simp [scramOk, hb, h128, hr]
  have hs : 1 ≤ s ∧ s ≤ 127 := by simp [scramOk, inR] at hg; omega
  rw [scram_ok hg]
  refine pw_loopS (α := Int × Int × Bool × (List Int)) (l0 := ?l3) (m0 := ?m3) (fun x => [(8, .d (.int .i64 x.1)), (7, .d (.int .i64 x.2.1))]) (fun x => [(46, .row T_int 1 x.2.2.1 (ints x.2.2.2))]) (fun x => 0 ≤ x.1 ∧ x.1 ≤ l.length ∧ 0 ≤ x.2.1 ∧ x.2.1 ≤ 127 ∧ x.2.2.2.length = x.1.toNat ∧ x.2.2.1 = x.2.2.2.isEmpty ∧ x.2.2.2 ++ scramL x.2.1 (l.drop x.1.toNat) = scramL s l) (fun x => (l.length - x.1).toNat) (?a3_0, ?a3_1, ?a3_2, []) ?h03 ?he3 ?he23 ?hI3 ?step3
  case h03 => (simp -implicitDefEqProofs only [go_sem]; rfl)
  case he3 => rfl
  case he23 => rfl
  case' step3 => (rintro ⟨i, t, nl', acc⟩ hI; try dsimp only at hI)
  case' hI3 => try dsimp only
  · simp; omega
  · by_cases hi : i < l.length
    · have hbit := areBits_get hb (i := i.toNat) (by omega)
      have hstep : scramL t (l.drop i.toNat) = ((l[i.toNat]?.getD 0 + t / 64 % 2) % 2) :: scramL (nextS t) (l.drop (i + 1).toNat) := by
        rw [drop_get (xs := l) (i := i.toNat) (by omega), scramL, show (i + 1).toNat = i.toNat + 1 by omega]
      have hx := ref_out (s := t) hbit (by omega)
      have hnx := ref_next' (s := t) (by omega)
      have hnb := nextS_bound t
      have hny := hnx
      rw [Int.tmod.eq_def _ 128] at hny
      (try (simp -implicitDefEqProofs only [go_sem, hx, hnx])); repeat' first | with_reducible exact True.intro | with_reducible refine And.intro ?_ ?_ | with_reducible intro _ | (((with_reducible refine vc_b ?_ ?_) <;> intro _) <;> try (simp -implicitDefEqProofs only [go_sem, hx, hnx])) | simp (disch := omega) only [wrapI, wrapU, shl1, shl1', shl1'', shrN, shrN', and_one] | ((with_reducible refine isEx4 ?_); refine ⟨(_, _, _, _), rfl, ?_, ?_⟩)
      all_goals (try rw [hny])
      all_goals (try rw [hx])
      all_goals first | omega | (simp; done) | (simp; omega) | skip
      rw [← hI.2.2.2.2.2.2, hstep]; simp
    · (try (simp -implicitDefEqProofs only [go_sem])); repeat' first | with_reducible exact True.intro | with_reducible refine And.intro ?_ ?_ | with_reducible intro _ | (((with_reducible refine vc_b ?_ ?_) <;> intro _) <;> try (simp -implicitDefEqProofs only [go_sem])) | simp (disch := omega) only [wrapI, wrapU, shl1, shl1', shl1'', shrN, shrN', and_one] | ((with_reducible refine isEx4 ?_); refine ⟨(_, _, _, _), rfl, ?_, ?_⟩)
      all_goals first | omega | (simp; done) | (simp; omega) | skip
      have h0 : l.drop i.toNat = [] := List.drop_eq_nil_of_le (by omega)
      have h1 := hI.2.2.2.2.2.2
      rw [h0, scramL, List.append_nil] at h1
      rw [← h1, hI.2.2.2.2.2.1]

/-! the plain law -/
theorem scramL_bits (s : Int) (l : List Int) : areBits (scramL s l) = true := by
  induction l generalizing s with
  | nil => rfl
  | cons x l ih =>
    have h1 := ih (nextS s)
    have e : inR ((x + s / 64 % 2) % 2) 0 1 = true := by simp only [inR, decide_eq_true_eq]; omega
    simp only [areBits] at h1
    simp only [scramL, areBits, List.all_cons, h1, e, Bool.and_true]
theorem scramL_twice (s : Int) (l : List Int) (h : areBits l = true) : scramL s (scramL s l) = l := by
  induction l generalizing s with
  | nil => rfl
  | cons x l ih =>
    simp only [areBits, List.all_cons, Bool.and_eq_true, inR, decide_eq_true_eq] at h
    have h1 := h.1
    rw [scramL, scramL, ih _ (by simpa [areBits, inR] using h.2)]
    have : (((x + s / 64 % 2) % 2 + s / 64 % 2) % 2) = x := by omega
    rw [this]
theorem scramL_apart (s : Int) (l m : List Int) (hl : areBits l = true) (hm : areBits m = true) (h : l.length = m.length) (i : Nat) :
    ((scramL s l)[i]?.getD 0 = (scramL s m)[i]?.getD 0) ↔ (l[i]?.getD 0 = m[i]?.getD 0) := by
  induction l generalizing s m i with
  | nil => have : m = [] := by cases m <;> simp_all
           subst this; simp
  | cons x l ih =>
    cases m with
    | nil => simp at h
    | cons y m =>
      simp only [areBits, List.all_cons, Bool.and_eq_true, inR, decide_eq_true_eq] at hl hm
      cases i with
      | zero => simp only [scramL, List.getElem?_cons_zero, Option.getD_some]; omega
      | succ i => simpa [scramL] using ih (nextS s) m (by simpa [areBits, inR] using hl.2) (by simpa [areBits, inR] using hm.2) (by simpa using h) i

end Go.Pw
end
