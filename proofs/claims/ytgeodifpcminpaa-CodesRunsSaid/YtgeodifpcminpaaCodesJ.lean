/- A part of the proof. -/
import Derived.Test.YtgeodifpcminpaaCodesH
import Derived.Test.YtgeodifpcminpaaPwLaw
set_option linter.all false
open Go Go.Pw Go.Proofs
namespace Go.Pw
set_option linter.unusedSimpArgs false
set_option linter.unusedVariables false
set_option maxRecDepth 100000
set_option maxHeartbeats 1600000
attribute [local congr] cg_pw cg_seqI cg_seqE cg_stepI cg_ev cg_evBin cg_condB cg_condV cg_thenQ cg_blockQ cg_onSome cg_onCells cg_onRow cg_onMap cg_onOpt cg_ghosts cg_ghost cg_evCall cg_part cg_rng cg_guardV cg_frzV cg_frpV cg_ownV cg_owcV cg_occV cg_occX cg_resK cg_res1
attribute [local irreducible] IntKind.wrap bitsOp Option.getD and or

theorem stream_append (c : GCode) : ∀ (l : List Int) (s : Int) (r : List Int), c.stream s (l ++ r) = ((c.stream s l).1 ++ (c.stream (c.stream s l).2 r).1, (c.stream (c.stream s l).2 r).2)
  | [], s, r => by simp [GCode.stream]
  | w :: l, s, r => by
    rw [List.cons_append, GCode.stream, stream_append c l (c.nxt s w) r]
    simp [GCode.stream]
theorem stream_len (c : GCode) : ∀ (l : List Int) (s : Int), (c.stream s l).1.length = l.length * c.out.toNat
  | [], s => by simp [GCode.stream]
  | w :: l, s => by
    simp only [GCode.stream, List.length_append, bitsOf_length, stream_len c l, List.length_cons, Nat.succ_mul]
    omega
theorem stream_state (c : GCode) (h : c.ok = true) : ∀ (l : List Int) (s : Int), c.isState s = true → (∀ w, w ∈ l → c.isWord w = true) → c.isState (c.stream s l).2 = true
  | [], s, hs, _ => by simpa [GCode.stream] using hs
  | w :: l, s, hs, hw => by
    simp only [GCode.stream]
    exact stream_state c h l _ (GCode.nxt_state h hs (hw w (by simp))) fun v hv => hw v (by simp [hv])
theorem isData_take {c : GCode} {l : List Int} (h : c.isData l = true) (n : Nat) : c.isData (l.take n) = true := by
  simp only [GCode.isData, Bool.and_eq_true, decide_eq_true_eq, List.all_eq_true] at *
  exact ⟨by simp; omega, fun x hx => h.2 x (List.mem_of_mem_take hx)⟩
theorem isData_drop {c : GCode} {l : List Int} (h : c.isData l = true) (n : Nat) : c.isData (l.drop n) = true := by
  simp only [GCode.isData, Bool.and_eq_true, decide_eq_true_eq, List.all_eq_true] at *
  exact ⟨by simp; omega, fun x hx => h.2 x (List.mem_of_mem_drop hx)⟩

theorem CodesJoined_ret (c : GCode) (s : Int) (n1 n2 : Bool) (data bits : List Int) (cut : Int) :
    Ret E0 F_law04_CodesJoined [codeD c, .agg [.int .i64 s, .list n1 (ints data), .list n2 (ints bits)], .int .i64 cut] (.bool true) := by
  refine ret_of_pw dec_law04_CodesJoined mixed (by simp) fun hwf => ?_
  simp only [wf_int, wf_bool, wf_ints, wf_list, wf_agg, wf_ptr, wf_fn, wf_tup, wf_all_cons, wf_all_nil, wf_all_map, inK_i64, maxLen_eq, List.length_map, ints_len, true_and, and_true, codeD_eq, codeC_eq, rowsD_eq] at hwf
  rw [enter_eq]; unfold pc_law04_CodesJoined
  by_cases hv : (!c.far && (c.ok && c.isState s)) = true
  · have hv' := hv
    simp only [Bool.and_eq_true, Bool.not_eq_true'] at hv'
    obtain ⟨hfar, hok, hst⟩ := hv'
    have hd := GCode.ok_head hok
    have cid := ref04_IsData_ret c n1 data (by omega)
    by_cases hdt : c.isData data = true
    · by_cases hcut : 0 ≤ cut ∧ cut ≤ data.length
      · have hword : ∀ w, w ∈ data → c.isWord w = true := by simp only [GCode.isData, Bool.and_eq_true, List.all_eq_true] at hdt; exact hdt.2
        have henc : ∀ t l, c.isState t = true → c.isData l = true → c.encode t l = ((c.stream t l).1, (c.stream t l).2, 0) := fun t l h1 h2 => by simp [GCode.encode, hok, h1, h2]
        have ce1 := codes_Encode_ret c s n1 data
        have ce2 := codes_Encode_ret c s n1 (data.take cut.toNat)
        have hs2 : c.isState (c.stream s (data.take cut.toNat)).2 = true := stream_state c hok _ _ hst fun w hw => hword w (List.mem_of_mem_take hw)
        have ce3 := codes_Encode_ret c (c.stream s (data.take cut.toNat)).2 n1 (data.drop cut.toNat)
        rw [henc _ _ hst hdt] at ce1
        rw [henc _ _ hst (isData_take hdt _)] at ce2
        rw [henc _ _ hs2 (isData_drop hdt _)] at ce3
        have hj := stream_append c (data.take cut.toNat) s (data.drop cut.toNat)
        rw [List.take_append_drop] at hj
        have hl1 := stream_len c (data.take cut.toNat) s
        have hl2 := stream_len c (data.drop cut.toNat) (c.stream s (data.take cut.toNat)).2
        have hl3 := stream_len c data s
        have ccs := ref04_CheckState_ret c (c.stream s (data.take cut.toNat)).2
        have h24 : data.length ≤ 24 := by simp [GCode.isData] at hdt; omega
        rw [hj] at ce1
        have hcm : cut * c.out = ((c.stream s (data.take cut.toNat)).1.length : Int) := by
          rw [hl1, List.length_take, show min cut.toNat data.length = cut.toNat by omega]
          have e1 : (cut.toNat : Int) = cut := by omega
          have e2 : (c.out.toNat : Int) = c.out := by omega
          rw [Int.natCast_mul, e1, e2]
        have hb1 : (c.stream s (data.take cut.toNat)).1.length ≤ 120 := by
          rw [hl1]; exact Nat.mul_le_mul (show (data.take cut.toNat).length ≤ 24 by simp; omega) (show c.out.toNat ≤ 5 by omega)
        have hb2 : (c.stream (c.stream s (data.take cut.toNat)).2 (data.drop cut.toNat)).1.length ≤ 120 := by
          rw [hl2]; exact Nat.mul_le_mul (show (data.drop cut.toNat).length ≤ 24 by simp; omega) (show c.out.toNat ≤ 5 by omega)
        dsimp only at ce1 ce2 ce3
        clear hj hl1 hl2 hl3 henc
        generalize hS : (c.stream s (data.take cut.toNat)).2 = S at *
        generalize (c.stream s (data.take cut.toNat)).1 = A at *
        generalize (c.stream S (data.drop cut.toNat)).2 = S' at *
        generalize (c.stream S (data.drop cut.toNat)).1 = B at *
        have csn := fun n xs => law04_sameInts_ret n false xs []
        have hwr : IntKind.i64.wrap (cut * c.out) = (A.length : Int) := by rw [hcm, wrapI]; omega
        (try (simp -implicitDefEqProofs only [go_sem, codeD_eq, codeC_eq])); repeat' first | with_reducible exact True.intro | with_reducible refine And.intro ?_ ?_ | with_reducible intro _ | (((with_reducible refine isCall ?_); first | refine call_b (law04_valid_ret c s) rfl ?_ ?_ | refine call_d (law04_valid_ret c s) rfl ?_ | refine call_sb (law04_valid_ret c s) rfl ?_ ?_ | refine call_s (law04_valid_ret c s) rfl rfl ?_ | refine call_b (cid) rfl ?_ ?_ | refine call_d (cid) rfl ?_ | refine call_sb (cid) rfl ?_ ?_ | refine call_s (cid) rfl rfl ?_ | refine call_b (law04_works_ret) rfl ?_ ?_ | refine call_d (law04_works_ret) rfl ?_ | refine call_sb (law04_works_ret) rfl ?_ ?_ | refine call_s (law04_works_ret) rfl rfl ?_ | refine call_b (ce1) rfl ?_ ?_ | refine call_d (ce1) rfl ?_ | refine call_sb (ce1) rfl ?_ ?_ | refine call_s (ce1) rfl rfl ?_ | refine call_b (ce2) rfl ?_ ?_ | refine call_d (ce2) rfl ?_ | refine call_sb (ce2) rfl ?_ ?_ | refine call_s (ce2) rfl rfl ?_ | refine call_b (ce3) rfl ?_ ?_ | refine call_d (ce3) rfl ?_ | refine call_sb (ce3) rfl ?_ ?_ | refine call_s (ce3) rfl rfl ?_ | refine call_b (ccs) rfl ?_ ?_ | refine call_d (ccs) rfl ?_ | refine call_sb (ccs) rfl ?_ ?_ | refine call_s (ccs) rfl rfl ?_ | refine call_b (law04_sameInts_ret _ _ _ _) rfl ?_ ?_ | refine call_d (law04_sameInts_ret _ _ _ _) rfl ?_ | refine call_sb (law04_sameInts_ret _ _ _ _) rfl ?_ ?_ | refine call_s (law04_sameInts_ret _ _ _ _) rfl rfl ?_ | refine call_b (csn _ _) rfl ?_ ?_ | refine call_d (csn _ _) rfl ?_ | refine call_sb (csn _ _) rfl ?_ ?_ | refine call_s (csn _ _) rfl rfl ?_) <;> try (simp -implicitDefEqProofs only [go_sem, codeD_eq, codeC_eq])) | (((with_reducible refine vc_b ?_ ?_) <;> intro _) <;> try (simp -implicitDefEqProofs only [go_sem, codeD_eq, codeC_eq])) | simp (disch := omega) only [wrapI, wrapU, shl1, shl1', shl1'', shrN, shrN', and_one] | ((with_reducible refine isEx8 ?_); refine ⟨(_, _, _, _, _, _, _, _), rfl, ?_, ?_⟩) | ((with_reducible refine isEx7 ?_); refine ⟨(_, _, _, _, _, _, _), rfl, ?_, ?_⟩) | ((with_reducible refine isEx6 ?_); refine ⟨(_, _, _, _, _, _), rfl, ?_, ?_⟩) | ((with_reducible refine isEx5 ?_); refine ⟨(_, _, _, _, _), rfl, ?_, ?_⟩) | ((with_reducible refine isEx4 ?_); refine ⟨(_, _, _, _), rfl, ?_, ?_⟩) | ((with_reducible refine isEx3 ?_); refine ⟨(_, _, _), rfl, ?_, ?_⟩) | ((with_reducible refine isEx2 ?_); refine ⟨(_, _), rfl, ?_, ?_⟩) | ((with_reducible refine isEx ?_); refine ⟨_, rfl, ?_, ?_⟩)
        all_goals first | omega | (simp; done) | (simp; omega) | skip
        all_goals clear ce1 ce2 ce3 csn ccs cid hcm hwr
        all_goals first
          | (rename_i hA hB hx; subst hA hB; simp at hx; done)
          | (rename_i hA hB hx; subst hA; simp at hx; done)
          | (rename_i hA hB hx; subst hB; simp at hx; done)
          | (rename_i hx; simp at hx; done)
          | (rename_i hx; simp [hok, hs2] at hx; done)
      · (try (simp -implicitDefEqProofs only [go_sem, codeD_eq, codeC_eq])); repeat' first | with_reducible exact True.intro | with_reducible refine And.intro ?_ ?_ | with_reducible intro _ | (((with_reducible refine isCall ?_); first | refine call_b (law04_valid_ret c s) rfl ?_ ?_ | refine call_d (law04_valid_ret c s) rfl ?_ | refine call_sb (law04_valid_ret c s) rfl ?_ ?_ | refine call_s (law04_valid_ret c s) rfl rfl ?_ | refine call_b (cid) rfl ?_ ?_ | refine call_d (cid) rfl ?_ | refine call_sb (cid) rfl ?_ ?_ | refine call_s (cid) rfl rfl ?_ | refine call_b (law04_works_ret) rfl ?_ ?_ | refine call_d (law04_works_ret) rfl ?_ | refine call_sb (law04_works_ret) rfl ?_ ?_ | refine call_s (law04_works_ret) rfl rfl ?_) <;> try (simp -implicitDefEqProofs only [go_sem, codeD_eq, codeC_eq])) | (((with_reducible refine vc_b ?_ ?_) <;> intro _) <;> try (simp -implicitDefEqProofs only [go_sem, codeD_eq, codeC_eq])) | simp (disch := omega) only [wrapI, wrapU, shl1, shl1', shl1'', shrN, shrN', and_one] | ((with_reducible refine isEx8 ?_); refine ⟨(_, _, _, _, _, _, _, _), rfl, ?_, ?_⟩) | ((with_reducible refine isEx7 ?_); refine ⟨(_, _, _, _, _, _, _), rfl, ?_, ?_⟩) | ((with_reducible refine isEx6 ?_); refine ⟨(_, _, _, _, _, _), rfl, ?_, ?_⟩) | ((with_reducible refine isEx5 ?_); refine ⟨(_, _, _, _, _), rfl, ?_, ?_⟩) | ((with_reducible refine isEx4 ?_); refine ⟨(_, _, _, _), rfl, ?_, ?_⟩) | ((with_reducible refine isEx3 ?_); refine ⟨(_, _, _), rfl, ?_, ?_⟩) | ((with_reducible refine isEx2 ?_); refine ⟨(_, _), rfl, ?_, ?_⟩) | ((with_reducible refine isEx ?_); refine ⟨_, rfl, ?_, ?_⟩)
        all_goals first | omega | simp_all
    · (try (simp -implicitDefEqProofs only [go_sem, codeD_eq, codeC_eq])); repeat' first | with_reducible exact True.intro | with_reducible refine And.intro ?_ ?_ | with_reducible intro _ | (((with_reducible refine isCall ?_); first | refine call_b (law04_valid_ret c s) rfl ?_ ?_ | refine call_d (law04_valid_ret c s) rfl ?_ | refine call_sb (law04_valid_ret c s) rfl ?_ ?_ | refine call_s (law04_valid_ret c s) rfl rfl ?_ | refine call_b (cid) rfl ?_ ?_ | refine call_d (cid) rfl ?_ | refine call_sb (cid) rfl ?_ ?_ | refine call_s (cid) rfl rfl ?_ | refine call_b (law04_works_ret) rfl ?_ ?_ | refine call_d (law04_works_ret) rfl ?_ | refine call_sb (law04_works_ret) rfl ?_ ?_ | refine call_s (law04_works_ret) rfl rfl ?_) <;> try (simp -implicitDefEqProofs only [go_sem, codeD_eq, codeC_eq])) | (((with_reducible refine vc_b ?_ ?_) <;> intro _) <;> try (simp -implicitDefEqProofs only [go_sem, codeD_eq, codeC_eq])) | simp (disch := omega) only [wrapI, wrapU, shl1, shl1', shl1'', shrN, shrN', and_one] | ((with_reducible refine isEx8 ?_); refine ⟨(_, _, _, _, _, _, _, _), rfl, ?_, ?_⟩) | ((with_reducible refine isEx7 ?_); refine ⟨(_, _, _, _, _, _, _), rfl, ?_, ?_⟩) | ((with_reducible refine isEx6 ?_); refine ⟨(_, _, _, _, _, _), rfl, ?_, ?_⟩) | ((with_reducible refine isEx5 ?_); refine ⟨(_, _, _, _, _), rfl, ?_, ?_⟩) | ((with_reducible refine isEx4 ?_); refine ⟨(_, _, _, _), rfl, ?_, ?_⟩) | ((with_reducible refine isEx3 ?_); refine ⟨(_, _, _), rfl, ?_, ?_⟩) | ((with_reducible refine isEx2 ?_); refine ⟨(_, _), rfl, ?_, ?_⟩) | ((with_reducible refine isEx ?_); refine ⟨_, rfl, ?_, ?_⟩)
      all_goals first | omega | simp_all
  · (try (simp -implicitDefEqProofs only [go_sem, codeD_eq, codeC_eq])); repeat' first | with_reducible exact True.intro | with_reducible refine And.intro ?_ ?_ | with_reducible intro _ | (((with_reducible refine isCall ?_); first | refine call_b (law04_valid_ret c s) rfl ?_ ?_ | refine call_d (law04_valid_ret c s) rfl ?_ | refine call_sb (law04_valid_ret c s) rfl ?_ ?_ | refine call_s (law04_valid_ret c s) rfl rfl ?_ | refine call_b (law04_works_ret) rfl ?_ ?_ | refine call_d (law04_works_ret) rfl ?_ | refine call_sb (law04_works_ret) rfl ?_ ?_ | refine call_s (law04_works_ret) rfl rfl ?_) <;> try (simp -implicitDefEqProofs only [go_sem, codeD_eq, codeC_eq])) | (((with_reducible refine vc_b ?_ ?_) <;> intro _) <;> try (simp -implicitDefEqProofs only [go_sem, codeD_eq, codeC_eq])) | simp (disch := omega) only [wrapI, wrapU, shl1, shl1', shl1'', shrN, shrN', and_one] | ((with_reducible refine isEx8 ?_); refine ⟨(_, _, _, _, _, _, _, _), rfl, ?_, ?_⟩) | ((with_reducible refine isEx7 ?_); refine ⟨(_, _, _, _, _, _, _), rfl, ?_, ?_⟩) | ((with_reducible refine isEx6 ?_); refine ⟨(_, _, _, _, _, _), rfl, ?_, ?_⟩) | ((with_reducible refine isEx5 ?_); refine ⟨(_, _, _, _, _), rfl, ?_, ?_⟩) | ((with_reducible refine isEx4 ?_); refine ⟨(_, _, _, _), rfl, ?_, ?_⟩) | ((with_reducible refine isEx3 ?_); refine ⟨(_, _, _), rfl, ?_, ?_⟩) | ((with_reducible refine isEx2 ?_); refine ⟨(_, _), rfl, ?_, ?_⟩) | ((with_reducible refine isEx ?_); refine ⟨_, rfl, ?_, ?_⟩)
    all_goals first | omega | simp_all

theorem typed_int {k : IntKind} {cs : List D} (h : TypedC (.int k) cs) : ∃ n, cs = [.int k n] := by cases h with | int _ n _ => exact ⟨n, rfl⟩
theorem typed_ints {cs : List D} (h : TypedC (.list (.int .i64)) cs) : ∃ nl l, cs = [.list nl (ints l)] := by
  cases h with | list _ nl xs h0 h1 h2 =>
  have : ∃ l, xs = ints l := by
    clear h0
    induction xs with
    | nil => exact ⟨[], rfl⟩
    | cons x xs ih =>
      obtain ⟨l, rfl⟩ := ih (fun y hy => h1 y (by simp [hy])) fun y hy => h2 y (by simp [hy])
      obtain ⟨n, hn⟩ := typed_int (h1 x (by simp))
      have := h2 x (by simp)
      rw [hn] at this
      exact ⟨n :: l, by rw [this]; rfl⟩
  obtain ⟨l, rfl⟩ := this
  exact ⟨nl, l, rfl⟩
theorem typed_rows {cs : List D} (h : TypedC (.list (.list (.int .i64))) cs) : ∃ nl l, cs = [.list nl (rowsD l)] := by
  cases h with | list _ nl xs h0 h1 h2 =>
  have : ∃ l, xs = rowsD l := by
    clear h0
    induction xs with
    | nil => exact ⟨[], rfl⟩
    | cons x xs ih =>
      obtain ⟨l, rfl⟩ := ih (fun y hy => h1 y (by simp [hy])) fun y hy => h2 y (by simp [hy])
      obtain ⟨b, n, hn⟩ := typed_ints (h1 x (by simp))
      have := h2 x (by simp)
      rw [hn] at this
      exact ⟨(b, n) :: l, by rw [this]; rfl⟩
  obtain ⟨l, rfl⟩ := this
  exact ⟨nl, l, rfl⟩
theorem typed_cons {T : Ty} {Ts : List Ty} {cs : List D} (h : TypedC (.str (T :: Ts)) cs) : ∃ a b, cs = a ++ b ∧ TypedC T a ∧ TypedC (.str Ts) b := by
  cases h with | cons _ _ a b h1 h2 => exact ⟨a, b, rfl, h1, h2⟩
theorem typed_nil {cs : List D} (h : TypedC (.str []) cs) : cs = [] := by cases h; rfl
def codeT : Ty := .str [.int .i64, .int .i64, .int .i64, .int .i64, .list (.list (.int .i64)), .list (.list (.int .i64))]
def textT : Ty := .str [.int .i64, .list (.int .i64), .list (.int .i64)]
theorem typed_code {x : D} (h : TypedV codeT x) : ∃ c, x = codeD c := by
  obtain ⟨h, hx⟩ := h
  obtain ⟨_, _, e1, h1, h⟩ := typed_cons h
  obtain ⟨_, _, e2, h2, h⟩ := typed_cons h
  obtain ⟨_, _, e3, h3, h⟩ := typed_cons h
  obtain ⟨_, _, e4, h4, h⟩ := typed_cons h
  obtain ⟨_, _, e5, h5, h⟩ := typed_cons h
  obtain ⟨_, _, e6, h6, h⟩ := typed_cons h
  obtain rfl := typed_nil h
  obtain ⟨n1, rfl⟩ := typed_int h1
  obtain ⟨n2, rfl⟩ := typed_int h2
  obtain ⟨n3, rfl⟩ := typed_int h3
  obtain ⟨n4, rfl⟩ := typed_int h4
  obtain ⟨nw, w, rfl⟩ := typed_rows h5
  obtain ⟨nn, v, rfl⟩ := typed_rows h6
  subst e6 e5 e4 e3 e2
  rw [e1] at hx
  exact ⟨⟨n1, n2, n3, n4, nw, w, nn, v⟩, hx⟩
theorem typed_text {x : D} (h : TypedV textT x) : ∃ s n1 l n2 m, x = .agg [.int .i64 s, .list n1 (ints l), .list n2 (ints m)] := by
  obtain ⟨h, hx⟩ := h
  obtain ⟨_, _, e1, h1, h⟩ := typed_cons h
  obtain ⟨_, _, e2, h2, h⟩ := typed_cons h
  obtain ⟨_, _, e3, h3, h⟩ := typed_cons h
  obtain rfl := typed_nil h
  obtain ⟨n1, rfl⟩ := typed_int h1
  obtain ⟨b1, l1, rfl⟩ := typed_ints h2
  obtain ⟨b2, l2, rfl⟩ := typed_ints h3
  subst e3 e2
  rw [e1] at hx
  exact ⟨n1, b1, l1, b2, l2, hx⟩
theorem typed_intV {x : D} (h : TypedV (.int .i64) x) : ∃ n, x = .int .i64 n := by
  obtain ⟨h, hx⟩ := h
  obtain ⟨n, hn⟩ := typed_int h
  rw [hn] at hx
  exact ⟨n, hx⟩
end Go.Pw
