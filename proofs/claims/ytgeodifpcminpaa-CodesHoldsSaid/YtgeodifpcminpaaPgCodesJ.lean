/- A part of the proof. -/
import Derived.Test.YtgeodifpcminpaaCodesH
import Derived.Test.YtgeodifpcminpaaPwLaw
import Derived.Test.YtgeodifpcminpaaCodesSpec2
set_option linter.all false
section
open Go Go.Pw Go.Proofs
namespace Go.Pw
set_option linter.unusedSimpArgs false
set_option linter.unusedVariables false
set_option maxRecDepth 100000
set_option maxHeartbeats 1600000
attribute [local congr] cg_pw cg_seqI cg_seqE cg_stepI cg_ev cg_evBin cg_condB cg_condV cg_thenQ cg_blockQ cg_onSome cg_onCells cg_onRow cg_onMap cg_onOpt cg_ghosts cg_ghost cg_evCall cg_part cg_rng cg_guardV cg_frzV cg_frpV cg_ownV cg_owcV cg_occV cg_occX cg_resK cg_res1 cg_yldP cg_rndE cg_onlyN cg_onHist
attribute [local irreducible] IntKind.wrap bitsOp Option.getD and or

theorem stream_append (c : GCode) : ∀ (l : List Int) (s : Int) (r : List Int), c.stream s (l ++ r) = ((c.stream s l).1 ++ (c.stream (c.stream s l).2 r).1, (c.stream (c.stream s l).2 r).2)
  | [], s, r => by simp [GCode.stream]
  | w :: l, s, r => by
    rw [List.cons_append, GCode.stream, stream_append c l (c.nxt s w) r]
    simp [GCode.stream]
theorem stream_len (c : GCode) : ∀ (l : List Int) (s : Int), (c.stream s l).1.length = l.length * c.out.toNat
  | [], s => by simp [GCode.stream]
  | w :: l, s => by
    simp only [GCode.stream, List.length_append, bitsOf_length, stream_len c l, List.length_cons, Nat.succ_mul]
    omega
theorem stream_state (c : GCode) (h : c.ok = true) : ∀ (l : List Int) (s : Int), c.isState s = true → (∀ w, w ∈ l → c.isWord w = true) → c.isState (c.stream s l).2 = true
  | [], s, hs, _ => by simpa [GCode.stream] using hs
  | w :: l, s, hs, hw => by
    simp only [GCode.stream]
    exact stream_state c h l _ (GCode.nxt_state h hs (hw w (by simp))) fun v hv => hw v (by simp [hv])
theorem isData_take {c : GCode} {l : List Int} (h : c.isData l = true) (n : Nat) : c.isData (l.take n) = true := by
  simp only [GCode.isData, Bool.and_eq_true, decide_eq_true_eq, List.all_eq_true] at *
  exact ⟨by simp; omega, fun x hx => h.2 x (List.mem_of_mem_take hx)⟩
theorem isData_drop {c : GCode} {l : List Int} (h : c.isData l = true) (n : Nat) : c.isData (l.drop n) = true := by
  simp only [GCode.isData, Bool.and_eq_true, decide_eq_true_eq, List.all_eq_true] at *
  exact ⟨by simp; omega, fun x hx => h.2 x (List.mem_of_mem_drop hx)⟩

theorem CodesJoined_ret (c : GCode) (s : Int) (n1 n2 : Bool) (data bits : List Int) (cut : Int) :
    Ret E0 F_law04_CodesJoined [codeD c, .agg [.int .i64 s, .list n1 (ints data), .list n2 (ints bits)], .int .i64 cut] (.bool true) := by
  refine ret_of_pw dec_law04_CodesJoined mixed (by simp) fun hwf => ?_
  simp only [wf_int, wf_bool, wf_ints, wf_list, wf_agg, wf_ptr, wf_fn, wf_tup, wf_all_cons, wf_all_nil, wf_all_map, inK_i64, maxLen_eq, List.length_map, ints_len, true_and, and_true, codeD_eq, codeC_eq, rowsD_eq] at hwf
  rw [enter_eq]; unfold pc_law04_CodesJoined
  by_cases hv : (!c.far && (c.ok && c.isState s)) = true
  · have hv' := hv
    simp only [Bool.and_eq_true, Bool.not_eq_true'] at hv'
    obtain ⟨hfar, hok, hst⟩ := hv'
    have hd := GCode.ok_head hok
    have cid := ref04_IsData_ret c n1 data (by omega)
    by_cases hdt : c.isData data = true
    · by_cases hcut : 0 ≤ cut ∧ cut ≤ data.length
      · have hword : ∀ w, w ∈ data → c.isWord w = true := by simp only [GCode.isData, Bool.and_eq_true, List.all_eq_true] at hdt; exact hdt.2
        have henc : ∀ t l, c.isState t = true → c.isData l = true → c.encode t l = ((c.stream t l).1, (c.stream t l).2, 0) := fun t l h1 h2 => by simp [GCode.encode, hok, h1, h2]
        have ce1 := codes_Encode_ret c s n1 data
        have ce2 := codes_Encode_ret c s n1 (data.take cut.toNat)
        have hs2 : c.isState (c.stream s (data.take cut.toNat)).2 = true := stream_state c hok _ _ hst fun w hw => hword w (List.mem_of_mem_take hw)
        have ce3 := codes_Encode_ret c (c.stream s (data.take cut.toNat)).2 n1 (data.drop cut.toNat)
        rw [henc _ _ hst hdt] at ce1
        rw [henc _ _ hst (isData_take hdt _)] at ce2
        rw [henc _ _ hs2 (isData_drop hdt _)] at ce3
        have hj := stream_append c (data.take cut.toNat) s (data.drop cut.toNat)
        rw [List.take_append_drop] at hj
        have hl1 := stream_len c (data.take cut.toNat) s
        have hl2 := stream_len c (data.drop cut.toNat) (c.stream s (data.take cut.toNat)).2
        have hl3 := stream_len c data s
        have ccs := ref04_CheckState_ret c (c.stream s (data.take cut.toNat)).2
        have h24 : data.length ≤ 24 := by simp [GCode.isData] at hdt; omega
        rw [hj] at ce1
        have hcm : cut * c.out = ((c.stream s (data.take cut.toNat)).1.length : Int) := by
          rw [hl1, List.length_take, show min cut.toNat data.length = cut.toNat by omega]
          have e1 : (cut.toNat : Int) = cut := by omega
          have e2 : (c.out.toNat : Int) = c.out := by omega
          rw [Int.natCast_mul, e1, e2]
        have hb1 : (c.stream s (data.take cut.toNat)).1.length ≤ 120 := by
          rw [hl1]; exact Nat.mul_le_mul (show (data.take cut.toNat).length ≤ 24 by simp; omega) (show c.out.toNat ≤ 5 by omega)
        have hb2 : (c.stream (c.stream s (data.take cut.toNat)).2 (data.drop cut.toNat)).1.length ≤ 120 := by
          rw [hl2]; exact Nat.mul_le_mul (show (data.drop cut.toNat).length ≤ 24 by simp; omega) (show c.out.toNat ≤ 5 by omega)
        dsimp only at ce1 ce2 ce3
        clear hj hl1 hl2 hl3 henc
        generalize hS : (c.stream s (data.take cut.toNat)).2 = S at *
        generalize (c.stream s (data.take cut.toNat)).1 = A at *
        generalize (c.stream S (data.drop cut.toNat)).2 = S' at *
        generalize (c.stream S (data.drop cut.toNat)).1 = B at *
        have csn := fun n xs => law04_sameInts_ret n false xs []
        have hwr : IntKind.i64.wrap (cut * c.out) = (A.length : Int) := by rw [hcm, wrapI]; omega
        (try (simp -implicitDefEqProofs only [go_sem, codeD_eq, codeC_eq])); repeat' first | with_reducible exact True.intro | with_reducible refine And.intro ?_ ?_ | with_reducible intro _ | (((with_reducible refine isCall ?_); first | refine call_b (law04_valid_ret c s) rfl ?_ ?_ | refine call_d (law04_valid_ret c s) rfl ?_ | refine call_sb (law04_valid_ret c s) rfl ?_ ?_ | refine call_s (law04_valid_ret c s) rfl rfl ?_ | refine call_b (cid) rfl ?_ ?_ | refine call_d (cid) rfl ?_ | refine call_sb (cid) rfl ?_ ?_ | refine call_s (cid) rfl rfl ?_ | refine call_b (law04_works_ret) rfl ?_ ?_ | refine call_d (law04_works_ret) rfl ?_ | refine call_sb (law04_works_ret) rfl ?_ ?_ | refine call_s (law04_works_ret) rfl rfl ?_ | refine call_b (ce1) rfl ?_ ?_ | refine call_d (ce1) rfl ?_ | refine call_sb (ce1) rfl ?_ ?_ | refine call_s (ce1) rfl rfl ?_ | refine call_b (ce2) rfl ?_ ?_ | refine call_d (ce2) rfl ?_ | refine call_sb (ce2) rfl ?_ ?_ | refine call_s (ce2) rfl rfl ?_ | refine call_b (ce3) rfl ?_ ?_ | refine call_d (ce3) rfl ?_ | refine call_sb (ce3) rfl ?_ ?_ | refine call_s (ce3) rfl rfl ?_ | refine call_b (ccs) rfl ?_ ?_ | refine call_d (ccs) rfl ?_ | refine call_sb (ccs) rfl ?_ ?_ | refine call_s (ccs) rfl rfl ?_ | refine call_b (law04_sameInts_ret _ _ _ _) rfl ?_ ?_ | refine call_d (law04_sameInts_ret _ _ _ _) rfl ?_ | refine call_sb (law04_sameInts_ret _ _ _ _) rfl ?_ ?_ | refine call_s (law04_sameInts_ret _ _ _ _) rfl rfl ?_ | refine call_b (csn _ _) rfl ?_ ?_ | refine call_d (csn _ _) rfl ?_ | refine call_sb (csn _ _) rfl ?_ ?_ | refine call_s (csn _ _) rfl rfl ?_) <;> try (simp -implicitDefEqProofs only [go_sem, codeD_eq, codeC_eq])) | (((with_reducible refine vc_b ?_ ?_) <;> intro _) <;> try (simp -implicitDefEqProofs only [go_sem, codeD_eq, codeC_eq])) | simp (disch := omega) only [wrapI, wrapU, shl1, shl1', shl1'', shrN, shrN', and_one] 
        all_goals first | omega | (simp; done) | (simp; omega) | skip
        all_goals clear ce1 ce2 ce3 csn ccs cid hcm hwr
        all_goals first
          | (rename_i hA hB hx; subst hA hB; simp at hx; done)
          | (rename_i hA hB hx; subst hA; simp at hx; done)
          | (rename_i hA hB hx; subst hB; simp at hx; done)
          | (rename_i hx; simp at hx; done)
          | (rename_i hx; simp [hok, hs2] at hx; done)
      · (try (simp -implicitDefEqProofs only [go_sem, codeD_eq, codeC_eq])); repeat' first | with_reducible exact True.intro | with_reducible refine And.intro ?_ ?_ | with_reducible intro _ | (((with_reducible refine isCall ?_); first | refine call_b (law04_valid_ret c s) rfl ?_ ?_ | refine call_d (law04_valid_ret c s) rfl ?_ | refine call_sb (law04_valid_ret c s) rfl ?_ ?_ | refine call_s (law04_valid_ret c s) rfl rfl ?_ | refine call_b (cid) rfl ?_ ?_ | refine call_d (cid) rfl ?_ | refine call_sb (cid) rfl ?_ ?_ | refine call_s (cid) rfl rfl ?_ | refine call_b (law04_works_ret) rfl ?_ ?_ | refine call_d (law04_works_ret) rfl ?_ | refine call_sb (law04_works_ret) rfl ?_ ?_ | refine call_s (law04_works_ret) rfl rfl ?_) <;> try (simp -implicitDefEqProofs only [go_sem, codeD_eq, codeC_eq])) | (((with_reducible refine vc_b ?_ ?_) <;> intro _) <;> try (simp -implicitDefEqProofs only [go_sem, codeD_eq, codeC_eq])) | simp (disch := omega) only [wrapI, wrapU, shl1, shl1', shl1'', shrN, shrN', and_one] 
        all_goals first | omega | simp_all
    · (try (simp -implicitDefEqProofs only [go_sem, codeD_eq, codeC_eq])); repeat' first | with_reducible exact True.intro | with_reducible refine And.intro ?_ ?_ | with_reducible intro _ | (((with_reducible refine isCall ?_); first | refine call_b (law04_valid_ret c s) rfl ?_ ?_ | refine call_d (law04_valid_ret c s) rfl ?_ | refine call_sb (law04_valid_ret c s) rfl ?_ ?_ | refine call_s (law04_valid_ret c s) rfl rfl ?_ | refine call_b (cid) rfl ?_ ?_ | refine call_d (cid) rfl ?_ | refine call_sb (cid) rfl ?_ ?_ | refine call_s (cid) rfl rfl ?_ | refine call_b (law04_works_ret) rfl ?_ ?_ | refine call_d (law04_works_ret) rfl ?_ | refine call_sb (law04_works_ret) rfl ?_ ?_ | refine call_s (law04_works_ret) rfl rfl ?_) <;> try (simp -implicitDefEqProofs only [go_sem, codeD_eq, codeC_eq])) | (((with_reducible refine vc_b ?_ ?_) <;> intro _) <;> try (simp -implicitDefEqProofs only [go_sem, codeD_eq, codeC_eq])) | simp (disch := omega) only [wrapI, wrapU, shl1, shl1', shl1'', shrN, shrN', and_one] 
      all_goals first | omega | simp_all
  · (try (simp -implicitDefEqProofs only [go_sem, codeD_eq, codeC_eq])); repeat' first | with_reducible exact True.intro | with_reducible refine And.intro ?_ ?_ | with_reducible intro _ | (((with_reducible refine isCall ?_); first | refine call_b (law04_valid_ret c s) rfl ?_ ?_ | refine call_d (law04_valid_ret c s) rfl ?_ | refine call_sb (law04_valid_ret c s) rfl ?_ ?_ | refine call_s (law04_valid_ret c s) rfl rfl ?_ | refine call_b (law04_works_ret) rfl ?_ ?_ | refine call_d (law04_works_ret) rfl ?_ | refine call_sb (law04_works_ret) rfl ?_ ?_ | refine call_s (law04_works_ret) rfl rfl ?_) <;> try (simp -implicitDefEqProofs only [go_sem, codeD_eq, codeC_eq])) | (((with_reducible refine vc_b ?_ ?_) <;> intro _) <;> try (simp -implicitDefEqProofs only [go_sem, codeD_eq, codeC_eq])) | simp (disch := omega) only [wrapI, wrapU, shl1, shl1', shl1'', shrN, shrN', and_one] 
    all_goals first | omega | simp_all

theorem typed_int {k : IntKind} {cs : List D} (h : TypedC (.int k) cs) : ∃ n, cs = [.int k n] := by cases h with | int _ n _ => exact ⟨n, rfl⟩
theorem typed_ints {cs : List D} (h : TypedC (.list (.int .i64)) cs) : ∃ nl l, cs = [.list nl (ints l)] := by
  cases h with | list _ nl xs h0 h1 h2 =>
  have : ∃ l, xs = ints l := by
    clear h0
    induction xs with
    | nil => exact ⟨[], rfl⟩
    | cons x xs ih =>
      obtain ⟨l, rfl⟩ := ih (fun y hy => h1 y (by simp [hy])) fun y hy => h2 y (by simp [hy])
      obtain ⟨n, hn⟩ := typed_int (h1 x (by simp))
      have := h2 x (by simp)
      rw [hn] at this
      exact ⟨n :: l, by rw [this]; rfl⟩
  obtain ⟨l, rfl⟩ := this
  exact ⟨nl, l, rfl⟩
theorem typed_rows {cs : List D} (h : TypedC (.list (.list (.int .i64))) cs) : ∃ nl l, cs = [.list nl (rowsD l)] := by
  cases h with | list _ nl xs h0 h1 h2 =>
  have : ∃ l, xs = rowsD l := by
    clear h0
    induction xs with
    | nil => exact ⟨[], rfl⟩
    | cons x xs ih =>
      obtain ⟨l, rfl⟩ := ih (fun y hy => h1 y (by simp [hy])) fun y hy => h2 y (by simp [hy])
      obtain ⟨b, n, hn⟩ := typed_ints (h1 x (by simp))
      have := h2 x (by simp)
      rw [hn] at this
      exact ⟨(b, n) :: l, by rw [this]; rfl⟩
  obtain ⟨l, rfl⟩ := this
  exact ⟨nl, l, rfl⟩
theorem typed_cons {T : Ty} {Ts : List Ty} {cs : List D} (h : TypedC (.str (T :: Ts)) cs) : ∃ a b, cs = a ++ b ∧ TypedC T a ∧ TypedC (.str Ts) b := by
  cases h with | cons _ _ a b h1 h2 => exact ⟨a, b, rfl, h1, h2⟩
theorem typed_nil {cs : List D} (h : TypedC (.str []) cs) : cs = [] := by cases h; rfl
def codeT : Ty := .str [.int .i64, .int .i64, .int .i64, .int .i64, .list (.list (.int .i64)), .list (.list (.int .i64))]
def textT : Ty := .str [.int .i64, .list (.int .i64), .list (.int .i64)]
theorem typed_code {x : D} (h : TypedV codeT x) : ∃ c, x = codeD c := by
  obtain ⟨h, hx⟩ := h
  obtain ⟨_, _, e1, h1, h⟩ := typed_cons h
  obtain ⟨_, _, e2, h2, h⟩ := typed_cons h
  obtain ⟨_, _, e3, h3, h⟩ := typed_cons h
  obtain ⟨_, _, e4, h4, h⟩ := typed_cons h
  obtain ⟨_, _, e5, h5, h⟩ := typed_cons h
  obtain ⟨_, _, e6, h6, h⟩ := typed_cons h
  obtain rfl := typed_nil h
  obtain ⟨n1, rfl⟩ := typed_int h1
  obtain ⟨n2, rfl⟩ := typed_int h2
  obtain ⟨n3, rfl⟩ := typed_int h3
  obtain ⟨n4, rfl⟩ := typed_int h4
  obtain ⟨nw, w, rfl⟩ := typed_rows h5
  obtain ⟨nn, v, rfl⟩ := typed_rows h6
  subst e6 e5 e4 e3 e2
  rw [e1] at hx
  exact ⟨⟨n1, n2, n3, n4, nw, w, nn, v⟩, hx⟩
theorem typed_text {x : D} (h : TypedV textT x) : ∃ s n1 l n2 m, x = .agg [.int .i64 s, .list n1 (ints l), .list n2 (ints m)] := by
  obtain ⟨h, hx⟩ := h
  obtain ⟨_, _, e1, h1, h⟩ := typed_cons h
  obtain ⟨_, _, e2, h2, h⟩ := typed_cons h
  obtain ⟨_, _, e3, h3, h⟩ := typed_cons h
  obtain rfl := typed_nil h
  obtain ⟨n1, rfl⟩ := typed_int h1
  obtain ⟨b1, l1, rfl⟩ := typed_ints h2
  obtain ⟨b2, l2, rfl⟩ := typed_ints h3
  subst e3 e2
  rw [e1] at hx
  exact ⟨n1, b1, l1, b2, l2, hx⟩
theorem typed_intV {x : D} (h : TypedV (.int .i64) x) : ∃ n, x = .int .i64 n := by
  obtain ⟨h, hx⟩ := h
  obtain ⟨n, hn⟩ := typed_int h
  rw [hn] at hx
  exact ⟨n, hx⟩
end Go.Pw
end
section
namespace Go.Pw
set_option linter.unusedVariables false
/-- A state, the zeros since the last one, whether there was a one. -/
abbrev GRun := Int × Int × Bool
/-- The bits keep the rule: the zeros and the one behind them. -/
def sB (least most : Int) : List Int → Int → Bool → Option (Int × Bool)
  | [], z, o => some (z, o)
  | b :: l, z, o => if b = 0 then (if most < z + 1 then none else sB least most l (z + 1) o)
    else (if o = true ∧ z < least then none else sB least most l 0 true)
theorem sB_app (a m : Int) : ∀ (l l' : List Int) (z : Int) (o : Bool), sB a m (l ++ l') z o = match sB a m l z o with | none => none | some q => sB a m l' q.1 q.2
  | [], l', z, o => rfl
  | b :: l, l', z, o => by
    rw [List.cons_append, sB, sB]
    split
    · split
      · rfl
      · exact sB_app a m l l' _ _
    · split
      · rfl
      · exact sB_app a m l l' _ _
theorem sB_inv {a m : Int} (hm : 0 ≤ m) : ∀ {l : List Int} {z : Int} {o : Bool} {q : Int × Bool}, (0 ≤ z ∧ z ≤ m) → sB a m l z o = some q → 0 ≤ q.1 ∧ q.1 ≤ m
  | [], z, o, q, hz, h => by rw [sB] at h; cases h; exact hz
  | b :: l, z, o, q, hz, h => by
    rw [sB] at h
    split at h
    · split at h
      · cases h
      · exact sB_inv hm (by omega) h
    · split at h
      · cases h
      · exact sB_inv hm (by omega) h
theorem sB_zeros {a m : Int} {o : Bool} : ∀ (n : Nat) (z : Int), z + n ≤ m → sB a m (List.replicate n 0) z o = some (z + n, o)
  | 0, z, _ => by simp [sB]
  | n + 1, z, h => by
    rw [List.replicate_succ, sB, if_pos rfl, if_neg (by omega), sB_zeros n (z + 1) (by omega)]
    congr 2
    omega
/-- A later beginning breaks the rule no sooner. -/
theorem sB_cov {a m : Int} : ∀ {l : List Int} {z z' : Int} {o : Bool} {q : Int × Bool}, z' ≤ z → sB a m l z o = some q →
    ∃ q', sB a m l z' false = some q' ∧ (q' = q ∨ (q'.2 = false ∧ q'.1 ≤ q.1 ∧ q'.1 = z' + l.length))
  | [], z, z', o, q, hz, h => by
    rw [sB] at h; cases h
    exact ⟨(z', false), rfl, .inr ⟨rfl, hz, by simp⟩⟩
  | b :: l, z, z', o, q, hz, h => by
    rw [sB] at h ⊢
    split at h
    · rename_i hb
      rw [if_pos hb]
      split at h
      · cases h
      · rw [if_neg (by omega)]
        obtain ⟨q', h1, h2⟩ := sB_cov (z' := z' + 1) (by omega) h
        refine ⟨q', h1, h2.imp id fun h3 => ⟨h3.1, h3.2.1, ?_⟩⟩
        rw [h3.2.2, List.length_cons]; omega
    · rename_i hb
      rw [if_neg hb, if_neg (by simp)]
      split at h
      · cases h
      · exact ⟨q, h, .inl rfl⟩

namespace GCode
variable (c : GCode)
def stp (r : GRun) (w : Int) : Option GRun := (sB c.least c.most (bitsOf c.out.toNat (c.wrd r.1 w)) r.2.1 r.2.2).map fun q => (c.nxt r.1 w, q.1, q.2)
def path : GRun → List Int → Option GRun
  | r, [] => some r
  | r, w :: l => match c.stp r w with
    | none => none
    | some r' => path r' l
def areW (ws : List Int) : Prop := ∀ w, w ∈ ws → c.isWord w = true
/-- What so many words lead to. -/
def Lev (k : Nat) (r : GRun) : Prop := ∃ s ws, c.isState s = true ∧ ws.length = k ∧ c.areW ws ∧ c.path (s, 0, false) ws = some r
/-- So many words break the rule. -/
def Brk (k : Nat) : Prop := ∃ s ws, c.isState s = true ∧ ws.length = k ∧ c.areW ws ∧ c.path (s, 0, false) ws = none
def RunOk (r : GRun) : Prop := c.isState r.1 = true ∧ 0 ≤ r.2.1 ∧ r.2.1 ≤ c.most
end GCode
open GCode
theorem path_app (c : GCode) : ∀ (l l' : List Int) (r : GRun), c.path r (l ++ l') = match c.path r l with | none => none | some q => c.path q l'
  | [], l', r => rfl
  | w :: l, l', r => by
    rw [List.cons_append, path, path]
    cases c.stp r w with
    | none => rfl
    | some r' => exact path_app c l l' r'
theorem path_one (c : GCode) (r : GRun) (w : Int) : c.path r [w] = c.stp r w := by
  rw [path]; cases c.stp r w <;> rfl
theorem path_snoc (c : GCode) (l : List Int) (r : GRun) (w : Int) : c.path r (l ++ [w]) = match c.path r l with | none => none | some q => c.stp q w := by
  rw [path_app]
  cases c.path r l with
  | none => rfl
  | some q => exact path_one c q w
theorem isWord_0 {c : GCode} (h : c.ok = true) : c.isWord 0 = true := by
  have hd := ok_head h
  have := pow_12 (b := c.bits) (by omega)
  simp only [isWord, inR, decide_eq_true_eq]; omega
theorem brk_succ {c : GCode} (h : c.ok = true) {k : Nat} (hb : c.Brk k) : c.Brk (k + 1) := by
  obtain ⟨s, ws, h1, h2, h3, h4⟩ := hb
  refine ⟨s, ws ++ [0], h1, by simp [h2], ?_, ?_⟩
  · intro w hw
    rcases List.mem_append.1 hw with h5 | h5
    · exact h3 w h5
    · rw [List.mem_singleton.1 h5]; exact isWord_0 h
  · rw [path_snoc, h4]
theorem brk_mono {c : GCode} (h : c.ok = true) {k : Nat} (hb : c.Brk k) : ∀ j, k ≤ j → c.Brk j
  | 0, hj => by have : k = 0 := by omega
                rw [← this]; exact hb
  | j + 1, hj => by
    rcases (show k = j + 1 ∨ k ≤ j by omega) with h1 | h1
    · rw [← h1]; exact hb
    · exact brk_succ h (brk_mono h hb j h1)
theorem brk_0 (c : GCode) : ¬ c.Brk 0 := by
  rintro ⟨s, ws, _, h2, _, h4⟩
  cases ws with
  | nil => cases h4
  | cons _ _ => simp at h2
theorem stp_ok {c : GCode} (h : c.ok = true) {r q : GRun} {w : Int} (hr : c.RunOk r) (hw : c.isWord w = true) (hs : c.stp r w = some q) : c.RunOk q := by
  have hd := ok_head h
  unfold stp at hs
  rw [Option.map_eq_some_iff] at hs
  obtain ⟨p, h1, rfl⟩ := hs
  exact ⟨nxt_state h hr.1 hw, sB_inv (by omega) hr.2 h1⟩
theorem path_ok {c : GCode} (h : c.ok = true) : ∀ {ws : List Int} {r q : GRun}, c.RunOk r → c.areW ws → c.path r ws = some q → c.RunOk q
  | [], r, q, hr, _, hp => by rw [path] at hp; cases hp; exact hr
  | w :: l, r, q, hr, hw, hp => by
    rw [path] at hp
    cases hs : c.stp r w with
    | none => rw [hs] at hp; cases hp
    | some r' =>
      rw [hs] at hp
      exact path_ok h (stp_ok h hr (hw w (by simp)) hs) (fun x hx => hw x (by simp [hx])) hp
theorem start_ok {c : GCode} (h : c.ok = true) {s : Int} (hs : c.isState s = true) : c.RunOk (s, 0, false) := by
  have hd := ok_head h
  exact ⟨hs, Int.le_refl _, by show (0 : Int) ≤ c.most; omega⟩
theorem lev_ok {c : GCode} (h : c.ok = true) {k : Nat} {r : GRun} (hl : c.Lev k r) : c.RunOk r := by
  obtain ⟨s, ws, h1, h2, h3, h4⟩ := hl
  exact path_ok h (start_ok h h1) h3 h4
/-- A later beginning of a path. -/
theorem path_cov {c : GCode} (h : c.ok = true) : ∀ {ws : List Int} {r r' q : GRun}, r'.1 = r.1 → (r' = r ∨ (r'.2.2 = false ∧ r'.2.1 ≤ r.2.1)) → c.path r ws = some q →
    ∃ q', c.path r' ws = some q' ∧ q'.1 = q.1 ∧ (q' = q ∨ (q'.2.2 = false ∧ q'.2.1 ≤ q.2.1 ∧ r'.2.1 + ws.length ≤ q'.2.1))
  | [], r, r', q, h1, h2, hp => by
    rw [path] at hp; cases hp
    refine ⟨r', rfl, h1, h2.imp id fun h3 => ⟨h3.1, h3.2, by simp⟩⟩
  | w :: l, r, r', q, h1, h2, hp => by
    have hd := ok_head h
    rcases h2 with h2 | ⟨h2, h3⟩
    · rw [h2]; exact ⟨q, hp, rfl, .inl rfl⟩
    · rw [path] at hp ⊢
      cases hs : c.stp r w with
      | none => rw [hs] at hp; cases hp
      | some p =>
        rw [hs] at hp
        have hs2 := hs
        unfold stp at hs2
        rw [Option.map_eq_some_iff] at hs2
        obtain ⟨u, hu, rfl⟩ := hs2
        obtain ⟨u', hu', hc⟩ := sB_cov h3 hu
        have hs' : c.stp r' w = some (c.nxt r.1 w, u'.1, u'.2) := by unfold stp; rw [h1, h2, hu']; rfl
        rw [hs']
        rcases hc with hc | ⟨hc1, hc2, hc3⟩
        · rw [hc]; exact ⟨q, hp, rfl, .inl rfl⟩
        · obtain ⟨q', k1, k2, k3⟩ := path_cov h (r' := (c.nxt r.1 w, u'.1, u'.2)) (r := (c.nxt r.1 w, u.1, u.2)) rfl (.inr ⟨hc1, hc2⟩) hp
          refine ⟨q', k1, k2, k3.imp id fun k4 => ⟨k4.1, k4.2.1, ?_⟩⟩
          have k5 := k4.2.2
          simp only [bitsOf_length] at hc3
          simp only [List.length_cons]
          have : (1 : Int) ≤ c.out.toNat := by omega
          have k6 : u'.1 + (l.length : Int) ≤ q'.2.1 := k5
          rw [hc3] at k6
          omega
/-- A shortest breach has at most so many words. -/
theorem brk_short {c : GCode} (h : c.ok = true) {n : Nat} (hn : c.most + 3 ≤ n) (hb : c.Brk n) : c.Brk (n - 1) := by
  have hd := ok_head h
  by_cases hx : c.Brk (n - 1)
  · exact hx
  · obtain ⟨s, ws, h1, h2, h3, h4⟩ := hb
    cases ws with
    | nil => cases h4
    | cons w l =>
      have hl : l.length = n - 1 := by simp at h2; omega
      have hw : c.isWord w = true := h3 w (by simp)
      have hlw : c.areW l := fun x hx => h3 x (by simp [hx])
      have hne : l ≠ [] := by intro e; rw [e] at hl; simp at hl; omega
      obtain ⟨l0, wl, rfl⟩ : ∃ l0 wl, l = l0 ++ [wl] := ⟨l.dropLast, l.getLast hne, (List.dropLast_concat_getLast hne).symm⟩
      have hl0 : l0.length = n - 2 := by simp at hl; omega
      -- what the words but the last lead to
      have hp : ∃ q, c.path (s, 0, false) (w :: l0) = some q := by
        cases hq : c.path (s, 0, false) (w :: l0) with
        | some q => exact ⟨q, rfl⟩
        | none => exact absurd ⟨s, w :: l0, h1, by simp [hl0]; omega, fun x hx => h3 x (by
            rcases List.mem_cons.1 hx with e | e
            · simp [e]
            · simp [e]), hq⟩ hx
      obtain ⟨q, hq⟩ := hp
      have hbad : c.stp q wl = none := by
        have : c.path (s, 0, false) ((w :: l0) ++ [wl]) = none := h4
        rw [path_snoc, hq] at this; exact this
      have hqo := path_ok h (start_ok h h1) (fun x hx => h3 x (by
        rcases List.mem_cons.1 hx with e | e
        · simp [e]
        · simp [e])) hq
      rw [path] at hq
      cases hs : c.stp (s, 0, false) w with
      | none => rw [hs] at hq; cases hq
      | some p =>
        rw [hs] at hq
        have hpo := stp_ok h (start_ok h h1) hw hs
        have hp1 : p.1 = c.nxt s w := by
          unfold stp at hs
          rw [Option.map_eq_some_iff] at hs
          obtain ⟨u, _, rfl⟩ := hs; rfl
        obtain ⟨q', k1, k2, k3⟩ := path_cov h (r := p) (r' := (c.nxt s w, 0, false)) hp1.symm (.inr ⟨rfl, hpo.2.1⟩) hq
        have he : q' = q := by
          rcases k3 with k3 | ⟨_, k4, k5⟩
          · exact k3
          · have : (0 : Int) + l0.length ≤ q'.2.1 := k5
            have := hqo.2.2
            omega
        refine ⟨c.nxt s w, l0 ++ [wl], nxt_state h h1 hw, hl, hlw, ?_⟩
        rw [path_snoc, k1, he]; exact hbad
theorem brk_14 {c : GCode} (h : c.ok = true) {n : Nat} (hb : c.Brk n) : c.Brk 14 := by
  have hd := ok_head h
  induction n with
  | zero => exact brk_mono h hb 14 (by omega)
  | succ n ih =>
    by_cases hn : n + 1 ≤ 14
    · exact brk_mono h hb 14 hn
    · exact ih (by have := brk_short h (n := n + 1) (by omega) hb; simpa using this)

/-- The stream of words keeps the rule as their path does. -/
theorem path_stream (c : GCode) : ∀ (ws : List Int) (s z : Int) (o : Bool), sB c.least c.most (c.stream s ws).1 z o = (c.path (s, z, o) ws).map fun r => (r.2.1, r.2.2)
  | [], s, z, o => rfl
  | w :: l, s, z, o => by
    rw [stream, path, sB_app]
    unfold stp
    simp only
    cases sB c.least c.most (bitsOf c.out.toNat (c.wrd s w)) z o with
    | none => rfl
    | some q =>
      simp only [Option.map_some]
      rw [path_stream c l]
def GCode.keeps (c : GCode) (bits : List Int) : Bool := (sB c.least c.most bits 0 false).isSome
theorem keeps_stream (c : GCode) (s : Int) (ws : List Int) : c.keeps (c.stream s ws).1 = (c.path (s, 0, false) ws).isSome := by
  unfold keeps; rw [path_stream]; cases c.path (s, 0, false) ws <;> rfl

/-- The reference's search, level by level. -/
def GCode.refW (c : GCode) (m : GRun) : Nat → Int → List GRun → Option (List GRun)
  | 0, _, nx => some nx
  | k + 1, w, nx => match c.stp m w with
    | none => none
    | some o => refW c m k (w + 1) (if o ∈ nx then nx else nx ++ [o])
def GCode.refM (c : GCode) : List GRun → List GRun → Option (List GRun)
  | [], nx => some nx
  | m :: l, nx => match c.refW m c.W 0 nx with
    | none => none
    | some nx' => refM c l nx'
def GCode.refN (c : GCode) : Nat → Int → List GRun → Int
  | 0, _, _ => 0
  | k + 1, n, now => match c.refM now [] with
    | none => n
    | some nx => refN c k (n + 1) nx
def GCode.starts (c : GCode) : List GRun := (List.range c.words.length).map fun (s : Nat) => ((s : Int), (0 : Int), false)
def GCode.breach (c : GCode) : Int := c.refN 14 1 c.starts
theorem refW_none {c : GCode} {m : GRun} : ∀ {k : Nat} {w : Int} {nx : List GRun}, c.refW m k w nx = none ↔ ∃ v, w ≤ v ∧ v < w + k ∧ c.stp m v = none
  | 0, w, nx => by
    rw [refW]; constructor
    · intro h; cases h
    · rintro ⟨v, h1, h2, _⟩; omega
  | k + 1, w, nx => by
    rw [refW]
    cases hs : c.stp m w with
    | none => exact ⟨fun _ => ⟨w, by omega, by omega, hs⟩, fun _ => rfl⟩
    | some o =>
      simp only
      rw [refW_none]
      constructor
      · rintro ⟨v, h1, h2, h3⟩; exact ⟨v, by omega, by omega, h3⟩
      · rintro ⟨v, h1, h2, h3⟩
        refine ⟨v, ?_, by omega, h3⟩
        have : v ≠ w := by intro e; rw [e, hs] at h3; cases h3
        omega
theorem refW_mem {c : GCode} {m : GRun} : ∀ {k : Nat} {w : Int} {nx nx' : List GRun}, c.refW m k w nx = some nx' → ∀ q, q ∈ nx' ↔ q ∈ nx ∨ ∃ v, w ≤ v ∧ v < w + k ∧ c.stp m v = some q
  | 0, w, nx, nx', h, q => by
    rw [refW] at h; cases h
    constructor
    · exact .inl
    · rintro (h | ⟨v, h1, h2, _⟩)
      · exact h
      · omega
  | k + 1, w, nx, nx', h, q => by
    rw [refW] at h
    cases hs : c.stp m w with
    | none => rw [hs] at h; cases h
    | some o =>
      rw [hs] at h
      rw [refW_mem h q]
      have hm : (q ∈ (if o ∈ nx then nx else nx ++ [o])) ↔ q ∈ nx ∨ q = o := by
        split
        · rename_i ho
          constructor
          · exact .inl
          · rintro (h1 | h1)
            · exact h1
            · rw [h1]; exact ho
        · simp
      rw [hm]
      constructor
      · rintro ((h1 | h1) | ⟨v, h1, h2, h3⟩)
        · exact .inl h1
        · exact .inr ⟨w, by omega, by omega, by rw [hs, h1]⟩
        · exact .inr ⟨v, by omega, by omega, h3⟩
      · rintro (h1 | ⟨v, h1, h2, h3⟩)
        · exact .inl (.inl h1)
        · by_cases hv : v = w
          · rw [hv, hs] at h3; cases h3; exact .inl (.inr rfl)
          · exact .inr ⟨v, by omega, by omega, h3⟩
theorem word_iff {c : GCode} {v : Int} : (0 ≤ v ∧ v < 0 + (c.W : Int)) ↔ c.isWord v = true := by
  unfold isWord inR W
  rw [decide_eq_true_eq]
  have : ((2 ^ c.bits.toNat : Nat) : Int) = 2 ^ c.bits.toNat := by simp
  omega
theorem refM_none {c : GCode} : ∀ {l nx : List GRun}, c.refM l nx = none ↔ ∃ m, m ∈ l ∧ ∃ v, c.isWord v = true ∧ c.stp m v = none
  | [], nx => by rw [refM]; simp
  | m :: l, nx => by
    rw [refM]
    cases hw : c.refW m c.W 0 nx with
    | none =>
      obtain ⟨v, h1, h2, h3⟩ := refW_none.1 hw
      exact ⟨fun _ => ⟨m, by simp, v, word_iff.1 ⟨h1, h2⟩, h3⟩, fun _ => rfl⟩
    | some nx' =>
      simp only
      rw [refM_none]
      constructor
      · rintro ⟨m', h1, h2⟩; exact ⟨m', by simp [h1], h2⟩
      · rintro ⟨m', h1, v, h2, h3⟩
        rcases List.mem_cons.1 h1 with e | e
        · have : c.refW m c.W 0 nx = none := refW_none.2 ⟨v, (word_iff.2 h2).1, (word_iff.2 h2).2, by rw [← e]; exact h3⟩
          rw [hw] at this; cases this
        · exact ⟨m', e, v, h2, h3⟩
theorem refM_mem {c : GCode} : ∀ {l nx nx' : List GRun}, c.refM l nx = some nx' → ∀ q, q ∈ nx' ↔ q ∈ nx ∨ ∃ m, m ∈ l ∧ ∃ v, c.isWord v = true ∧ c.stp m v = some q
  | [], nx, nx', h, q => by rw [refM] at h; cases h; simp
  | m :: l, nx, nx', h, q => by
    rw [refM] at h
    cases hw : c.refW m c.W 0 nx with
    | none => rw [hw] at h; cases h
    | some n2 =>
      rw [hw] at h
      rw [refM_mem h q, refW_mem hw q]
      constructor
      · rintro ((h1 | ⟨v, h1, h2, h3⟩) | ⟨m', h1, h2⟩)
        · exact .inl h1
        · exact .inr ⟨m, by simp, v, word_iff.1 ⟨h1, h2⟩, h3⟩
        · exact .inr ⟨m', by simp [h1], h2⟩
      · rintro (h1 | ⟨m', h1, v, h2, h3⟩)
        · exact .inl (.inl h1)
        · rcases List.mem_cons.1 h1 with e | e
          · exact .inl (.inr ⟨v, (word_iff.2 h2).1, (word_iff.2 h2).2, by rw [← e]; exact h3⟩)
          · exact .inr ⟨m', e, v, h2, h3⟩
theorem lev_succ {c : GCode} {k : Nat} {q : GRun} : c.Lev (k + 1) q ↔ ∃ m, c.Lev k m ∧ ∃ v, c.isWord v = true ∧ c.stp m v = some q := by
  constructor
  · rintro ⟨s, ws, h1, h2, h3, h4⟩
    have hne : ws ≠ [] := by intro e; rw [e] at h2; simp at h2
    obtain ⟨l0, wl, rfl⟩ : ∃ l0 wl, ws = l0 ++ [wl] := ⟨ws.dropLast, ws.getLast hne, (List.dropLast_concat_getLast hne).symm⟩
    rw [path_snoc] at h4
    cases hp : c.path (s, 0, false) l0 with
    | none => rw [hp] at h4; cases h4
    | some m =>
      rw [hp] at h4
      exact ⟨m, ⟨s, l0, h1, by simp at h2; omega, fun x hx => h3 x (by simp [hx]), hp⟩, wl, h3 wl (by simp), h4⟩
  · rintro ⟨m, ⟨s, ws, h1, h2, h3, h4⟩, v, h5, h6⟩
    refine ⟨s, ws ++ [v], h1, by simp [h2], ?_, ?_⟩
    · intro x hx
      rcases List.mem_append.1 hx with e | e
      · exact h3 x e
      · rw [List.mem_singleton.1 e]; exact h5
    · rw [path_snoc, h4]; exact h6
theorem brk_lev {c : GCode} {k : Nat} (hk : ¬ c.Brk k) : c.Brk (k + 1) ↔ ∃ m, c.Lev k m ∧ ∃ v, c.isWord v = true ∧ c.stp m v = none := by
  constructor
  · rintro ⟨s, ws, h1, h2, h3, h4⟩
    have hne : ws ≠ [] := by intro e; rw [e] at h2; simp at h2
    obtain ⟨l0, wl, rfl⟩ : ∃ l0 wl, ws = l0 ++ [wl] := ⟨ws.dropLast, ws.getLast hne, (List.dropLast_concat_getLast hne).symm⟩
    rw [path_snoc] at h4
    have hl0 : l0.length = k := by simp at h2; omega
    have hlw : c.areW l0 := fun x hx => h3 x (by simp [hx])
    cases hp : c.path (s, 0, false) l0 with
    | none => exact absurd ⟨s, l0, h1, hl0, hlw, hp⟩ hk
    | some m =>
      rw [hp] at h4
      exact ⟨m, ⟨s, l0, h1, hl0, hlw, hp⟩, wl, h3 wl (by simp), h4⟩
  · rintro ⟨m, ⟨s, ws, h1, h2, h3, h4⟩, v, h5, h6⟩
    refine ⟨s, ws ++ [v], h1, by simp [h2], ?_, ?_⟩
    · intro x hx
      rcases List.mem_append.1 hx with e | e
      · exact h3 x e
      · rw [List.mem_singleton.1 e]; exact h5
    · rw [path_snoc, h4]; exact h6
theorem refN_spec {c : GCode} : ∀ {k n : Nat} {now : List GRun}, (∀ r, r ∈ now ↔ c.Lev n r) → ¬ c.Brk n →
    (c.refN k (n + 1) now = 0 ∧ ¬ c.Brk (n + k)) ∨ ∃ j : Nat, n < j ∧ c.refN k (n + 1) now = j ∧ c.Brk j ∧ ¬ c.Brk (j - 1)
  | 0, n, now, h1, h2 => .inl ⟨rfl, h2⟩
  | k + 1, n, now, h1, h2 => by
    rw [refN]
    cases hm : c.refM now [] with
    | none =>
      obtain ⟨m, h3, h4⟩ := refM_none.1 hm
      exact .inr ⟨n + 1, by omega, by simp, (brk_lev h2).2 ⟨m, (h1 m).1 h3, h4⟩, by simpa using h2⟩
    | some nx =>
      have h3 : ∀ r, r ∈ nx ↔ c.Lev (n + 1) r := fun r => by
        rw [refM_mem hm r, lev_succ]
        constructor
        · rintro (h | ⟨m, h4, h5⟩)
          · cases h
          · exact ⟨m, (h1 m).1 h4, h5⟩
        · rintro ⟨m, h4, h5⟩; exact .inr ⟨m, (h1 m).2 h4, h5⟩
      have h4 : ¬ c.Brk (n + 1) := by
        intro hb
        obtain ⟨m, h5, h6⟩ := (brk_lev h2).1 hb
        have := (refM_none (nx := [])).2 ⟨m, (h1 m).2 h5, h6⟩
        rw [hm] at this; cases this
      have ih := refN_spec (k := k) h3 h4
      simp only
      have e : ((n : Int) + 1 + 1) = ((n + 1 : Nat) : Int) + 1 := by omega
      rw [e]
      rcases ih with ⟨h5, h6⟩ | ⟨j, h5, h6⟩
      · exact .inl ⟨h5, by rw [show n + (k + 1) = n + 1 + k by omega]; exact h6⟩
      · exact .inr ⟨j, by omega, h6⟩
theorem starts_mem {c : GCode} {r : GRun} : r ∈ c.starts ↔ c.Lev 0 r := by
  unfold starts
  rw [List.mem_map]
  constructor
  · rintro ⟨s, hs, rfl⟩
    rw [List.mem_range] at hs
    exact ⟨s, [], by simp only [isState, inR, decide_eq_true_eq]; omega, rfl, fun w hw => (by cases hw), rfl⟩
  · rintro ⟨s, ws, h1, h2, h3, h4⟩
    cases ws with
    | cons _ _ => simp at h2
    | nil =>
      rw [path] at h4; cases h4
      simp only [isState, inR, decide_eq_true_eq] at h1
      exact ⟨s.toNat, by rw [List.mem_range]; omega, by simp; omega⟩
theorem breach_spec {c : GCode} (h : c.ok = true) : (c.breach = 0 ∧ ∀ k, ¬ c.Brk k) ∨ ∃ j : Nat, 0 < j ∧ c.breach = j ∧ c.Brk j ∧ ¬ c.Brk (j - 1) := by
  rcases refN_spec (c := c) (k := 14) (n := 0) (now := c.starts) (fun r => starts_mem) (brk_0 c) with ⟨h1, h2⟩ | ⟨j, h1, h2⟩
  · exact .inl ⟨h1, fun k hb => h2 (brk_14 h hb)⟩
  · exact .inr ⟨j, h1, h2⟩
theorem brk_least {c : GCode} (h : c.ok = true) {a b : Nat} (ha : 0 < a) (hb : 0 < b) (h1 : c.Brk a) (h2 : ¬ c.Brk (a - 1)) (h3 : c.Brk b) (h4 : ¬ c.Brk (b - 1)) : a = b := by
  rcases Nat.lt_trichotomy a b with hx | hx | hx
  · exact absurd (brk_mono h h1 (b - 1) (by omega)) h4
  · exact hx
  · exact absurd (brk_mono h h3 (a - 1) (by omega)) h2
end Go.Pw
end
