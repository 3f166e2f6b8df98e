/- A part of the proof. -/
import Derived.Test.YtgeodifpcminpaaPgCodesA
import Derived.Test.YtgeodifpcminpaaCodesSpec2
set_option linter.all false
section
open Go Go.Pw Go.Proofs
namespace Go.Pw
set_option linter.unusedSimpArgs false
set_option linter.unusedVariables false
set_option maxRecDepth 100000
set_option maxHeartbeats 800000
attribute [local congr] cg_pw cg_seqI cg_seqE cg_stepI cg_ev cg_evBin cg_condB cg_condV cg_thenQ cg_blockQ cg_onSome cg_onCells cg_onRow cg_onRow2 cg_frhV cg_frhO cg_onMap cg_onOpt cg_ghosts cg_ghost cg_evCall cg_part cg_rng cg_guardV cg_frzV cg_frpV cg_ownV cg_owcV cg_occV cg_occX cg_resK cg_res1 cg_yldP cg_rndE cg_onlyN cg_onHist
attribute [local irreducible] IntKind.wrap bitsOp Option.getD and or

abbrev Memo := List (Pair × Int)
def entD (e : Pair × Int) : D × D := (pairD e.1, .int .i64 e.2)
def memD (m : Memo) : List (D × D) := m.map entD
def lookM (k : Pair) : Memo → Option Int
  | [] => none
  | e :: m => if k = e.1 then some e.2 else lookM k m
def setM (k : Pair) (v : Int) : Memo → Memo
  | [] => [(k, v)]
  | e :: m => if k = e.1 then (e.1, v) :: m else e :: setM k v m
theorem keyEq_pair' (p q : Pair) : keyEq (pairD p) (pairD q) = decide (p = q) := by
  obtain ⟨a, b⟩ := p; obtain ⟨a', b'⟩ := q
  simp [keyEq, pairD, D.cells, allEq, primEq, Prod.ext_iff]
theorem lookK_mem (k : Pair) (m : Memo) : lookK (pairD k) (memD m) = (lookM k m).map (.int .i64) := by
  induction m with
  | nil => rfl
  | cons e m ih =>
    simp only [memD, List.map_cons, lookK, entD, keyEq_pair', lookM] at ih ⊢
    by_cases h : k = e.1
    · simp [h]
    · simp only [decide_eq_true_eq, h, if_false]; exact ih
theorem setK_mem (k : Pair) (v : Int) (m : Memo) : setK (pairD k) (.int .i64 v) (memD m) = memD (setM k v m) := by
  induction m with
  | nil => rfl
  | cons e m ih =>
    simp only [memD, List.map_cons, setK, entD, keyEq_pair', setM] at ih ⊢
    by_cases h : k = e.1
    · simp [h, entD]
    · simp only [decide_eq_true_eq, h, if_false, List.map_cons, entD, ih]
theorem lookK_mem' (a b : Int) (m : Memo) : lookK (.agg [.int .i64 a, .int .i64 b]) (memD m) = (lookM (a, b) m).map (.int .i64) := lookK_mem (a, b) m
theorem setK_mem' (a b v : Int) (m : Memo) : setK (.agg [.int .i64 a, .int .i64 b]) (.int .i64 v) (memD m) = memD (setM (a, b) v m) := setK_mem (a, b) v m
theorem lookM_mem {k : Pair} {m : Memo} {v : Int} (h : lookM k m = some v) : (k, v) ∈ m := by
  induction m with
  | nil => cases h
  | cons e m ih =>
    simp only [lookM] at h
    split at h
    · rename_i he; simp at h; subst he h; simp
    · exact List.mem_cons_of_mem _ (ih h)
theorem setM_mem {k : Pair} {v : Int} {m : Memo} {e : Pair × Int} (h : e ∈ setM k v m) : e = (k, v) ∨ e ∈ m := by
  induction m with
  | nil => simp [setM] at h; exact .inl h
  | cons x m ih =>
    simp only [setM] at h
    split at h
    · rename_i hk
      rcases List.mem_cons.1 h with h | h
      · exact .inl (by rw [h, hk])
      · exact .inr (List.mem_cons_of_mem _ h)
    · rcases List.mem_cons.1 h with h | h
      · exact .inr (by rw [h]; simp)
      · exact (ih h).imp id (List.mem_cons_of_mem _)

/-- The words of a state, from one on. -/
def GCode.apW (c : GCode) (rec : Int → List Int → Memo → Int × Memo) (s first : Int) (mark : List Int) : Nat → Int → Int → Memo → Int × Memo
  | 0, _, least, m => (least, m)
  | k + 1, w, least, m =>
    let bits := (bitsOf c.out.toNat (c.wrd s w)).drop first.toNat
    let n := min mark.length bits.length
    let r := rec (c.nxt s w) (mark.drop n) m
    c.apW rec s first mark k (w + 1) (min least (dist (mark.take n) bits + r.1)) r.2
def GCode.apM (c : GCode) : Nat → Int → Int → List Int → Memo → Int × Memo
  | 0, _, _, _, m => (0, m)
  | n + 1, s, first, mark, m =>
    if mark = [] then (0, m) else
    match lookM (s, mark.length) m with
    | some v => if first = 0 then (v, m) else c.apW (fun s' mk m' => c.apM n s' 0 mk m') s first mark c.W 0 16 m
    | none => let r := c.apW (fun s' mk m' => c.apM n s' 0 mk m') s first mark c.W 0 16 m
      if first = 0 then (r.1, setM (s, mark.length) r.1 r.2) else r
def MemB (m : Memo) : Prop := ∀ e, e ∈ m → 0 ≤ e.2 ∧ e.2 ≤ 16

theorem dist_bound : ∀ (xs ys : List Int), 0 ≤ dist xs ys ∧ dist xs ys ≤ xs.length
  | [], _ => by simp [dist]
  | _ :: _, [] => by simp [dist]; omega
  | x :: xs, y :: ys => by
    have := dist_bound xs ys
    simp only [dist, List.length_cons]
    split <;> omega

theorem apW_bound (c : GCode) {rec : Int → List Int → Memo → Int × Memo} {s first : Int} {mark : List Int}
    (hrec : ∀ s' k m, MemB m → 0 ≤ (rec s' (mark.drop k) m).1 ∧ MemB (rec s' (mark.drop k) m).2) : ∀ (n : Nat) (w least : Int) (m : Memo), 0 ≤ least ∧ least ≤ 16 → MemB m → (0 ≤ (c.apW rec s first mark n w least m).1 ∧ (c.apW rec s first mark n w least m).1 ≤ 16) ∧ MemB (c.apW rec s first mark n w least m).2
  | 0, w, least, m, h1, h2 => ⟨h1, h2⟩
  | n + 1, w, least, m, h1, h2 => by
    simp only [GCode.apW]
    obtain ⟨h3, h4⟩ := hrec (c.nxt s w) (min mark.length ((bitsOf c.out.toNat (c.wrd s w)).drop first.toNat).length) m h2
    have := dist_bound (mark.take (min mark.length ((bitsOf c.out.toNat (c.wrd s w)).drop first.toNat).length)) ((bitsOf c.out.toNat (c.wrd s w)).drop first.toNat)
    exact apW_bound c hrec n _ _ _ ⟨by omega, by omega⟩ h4
theorem apM_bound (c : GCode) : ∀ (n : Nat) (s first : Int) (mark : List Int) (m : Memo), MemB m → (0 ≤ (c.apM n s first mark m).1 ∧ (c.apM n s first mark m).1 ≤ 16) ∧ MemB (c.apM n s first mark m).2
  | 0, s, first, mark, m, h => by simp only [GCode.apM]; exact ⟨by omega, h⟩
  | n + 1, s, first, mark, m, h => by
    simp only [GCode.apM]
    have hw := apW_bound c (rec := fun s' mk m' => c.apM n s' 0 mk m') (s := s) (first := first) (mark := mark) (fun s' k m' hm' => by
      obtain ⟨h1, h2⟩ := apM_bound c n s' 0 (mark.drop k) m' hm'
      exact ⟨h1.1, h2⟩) c.W 0 16 m ⟨by omega, by omega⟩ h
    split
    · exact ⟨by simp, h⟩
    · split
      · rename_i v hv
        split
        · exact ⟨h _ (lookM_mem hv), h⟩
        · exact hw
      · split
        · refine ⟨hw.1, fun e he => ?_⟩
          rcases setM_mem he with rfl | he
          · exact hw.1
          · exact hw.2 e he
        · exact hw

theorem areBits_take {xs : List Int} (h : areBits xs = true) (n : Nat) : areBits (xs.take n) = true := by
  simp only [areBits, List.all_eq_true] at *
  exact fun x hx => h x (List.mem_of_mem_take hx)
theorem bitsOf_bits (n : Nat) (w : Int) : areBits (bitsOf n w) = true := by
  induction n with
  | zero => rfl
  | succ n ih =>
    have h1 := Int.emod_nonneg (w / 2 ^ n) (show (2 : Int) ≠ 0 by decide)
    have h2 := Int.emod_lt_of_pos (w / 2 ^ n) (show (0 : Int) < 2 by decide)
    have h3 : inR (w / 2 ^ n % 2) 0 1 = true := by simp only [inR, decide_eq_true_eq]; exact ⟨h1, by omega⟩
    simp only [areBits] at ih
    simp only [bitsOf, areBits, List.all_cons, ih, h3, Bool.and_self]
theorem min_cast (a b : Nat) : min (a : Int) (b : Int) = ((min a b : Nat) : Int) := by
  rcases Nat.le_total a b with h | h
  · rw [Nat.min_eq_left h, Int.min_eq_left (by omega)]
  · rw [Nat.min_eq_right h, Int.min_eq_right (by omega)]
theorem GCode.W_eq' (c : GCode) : (c.W : Int) = 2 ^ c.bits.toNat := by simp [GCode.W]
abbrev tyP : KTy := (true, [some .i64, some .i64])

theorem codes_code_apart_ret (c : GCode) (h : c.ok = true) : ∀ (n : Nat) (s first : Int) (nl : Bool) (mark : List Int) (m : Memo), c.isState s = true → 0 ≤ first → first < c.out → areBits mark = true → mark.length ≤ 16 → mark.length ≤ n → MemB m →
    CallM E0 F_codes_code_apart [(900004, 0, .map tyP (memD m))] [.d (codeD c), .d (.int .i64 s), .d (.int .i64 first), .d (.list nl (ints mark)), .map 900004 0] [(900004, 0, .map tyP (memD (c.apM n s first mark m).2))] (.d (.int .i64 (c.apM n s first mark m).1)) := by
  intro n
  induction n with
  | zero =>
    intro s first nl mark m hs hf0 hf hb h16 hn hm
    have h0 : mark = [] := List.length_eq_zero_iff.1 (by omega)
    subst h0
    refine callM_of_pw dec_codes_code_apart mixed (by simp) (by simp [okV0, nodupB, lim, AObj.isHist]) (by simp [hasN]) fun hwf hwo => ?_
    rw [enterM_eq]; unfold pc_codes_code_apart
    (try (simp -implicitDefEqProofs only [go_sem, GCode.apM, codeD_eq, codeC_eq, rowsD_eq])); repeat' first | with_reducible exact True.intro | with_reducible refine And.intro ?_ ?_ | with_reducible intro _ | (((with_reducible refine vc_b ?_ ?_) <;> intro _) <;> try (simp -implicitDefEqProofs only [go_sem, GCode.apM, codeD_eq, codeC_eq, rowsD_eq])) | simp (disch := omega) only [wrapI, wrapU, shl1, shl1', shl1'', shrN, shrN', and_one] | ((with_reducible refine isEx3 ?_); refine ⟨(_, _, _), rfl, ?_, ?_⟩)
    all_goals (exfalso; simp_all; done)
  | succ n ih =>
    intro s first nl mark m hs hf0 hf hb h16 hn hm
    have hd := GCode.ok_head h
    have h12 := pow_12 (b := c.bits) (by omega)
    refine callM_of_pw dec_codes_code_apart mixed (by simp) (by simp [okV0, nodupB, lim, AObj.isHist]) (by simp [hasN]) fun hwf hwo => ?_
    rw [enterM_eq]; unfold pc_codes_code_apart
    by_cases hm0 : mark = []
    · subst hm0
      (try (simp -implicitDefEqProofs only [go_sem, GCode.apM, codeD_eq, codeC_eq, rowsD_eq])); repeat' first | with_reducible exact True.intro | with_reducible refine And.intro ?_ ?_ | with_reducible intro _ | (((with_reducible refine vc_b ?_ ?_) <;> intro _) <;> try (simp -implicitDefEqProofs only [go_sem, GCode.apM, codeD_eq, codeC_eq, rowsD_eq])) | simp (disch := omega) only [wrapI, wrapU, shl1, shl1', shl1'', shrN, shrN', and_one] | ((with_reducible refine isEx3 ?_); refine ⟨(_, _, _), rfl, ?_, ?_⟩)
      all_goals (exfalso; simp_all; done)
    have hlen : ¬ (mark.length : Int) = 0 := by have := List.length_pos_iff.2 hm0; omega
    obtain ⟨G, hG⟩ : ∃ G, c.apW (fun s' mk m' => c.apM n s' 0 mk m') s first mark c.W 0 16 m = G := ⟨_, rfl⟩
    have hWe := GCode.W_eq' c
    have hs' := hs
    simp only [GCode.isState, inR, decide_eq_true_eq] at hs'
    have hrow := GCode.ok_next h s.toNat (by omega)
    have hnc : ((2 ^ c.bits.toNat : Nat) : Int) = 2 ^ c.bits.toNat := by simp
    have hWb : c.W ≤ 4 := by simp only [GCode.W]; omega
    have goal : c.apM (n + 1) s first mark m = match lookM (s, mark.length) m with
        | some v => if first = 0 then (v, m) else G
        | none => if first = 0 then (G.1, setM (s, mark.length) G.1 G.2) else G := by
      simp only [GCode.apM, hm0, if_false, hG]
    generalize c.apM (n + 1) s first mark m = R at goal
    cases hlk : lookM (s, mark.length) m with
    | some v =>
      rw [hlk] at goal
      by_cases hf00 : first = 0
      · have hg : R = (v, m) := by simp [goal, hf00]
        subst hg
        (try (simp -implicitDefEqProofs only [go_sem, lookK_mem', hlk, codeD_eq, codeC_eq, rowsD_eq])); repeat' first | with_reducible exact True.intro | with_reducible refine And.intro ?_ ?_ | with_reducible intro _ | (((with_reducible refine vc_b ?_ ?_) <;> intro _) <;> try (simp -implicitDefEqProofs only [go_sem, lookK_mem', hlk, codeD_eq, codeC_eq, rowsD_eq])) | simp (disch := omega) only [wrapI, wrapU, shl1, shl1', shl1'', shrN, shrN', and_one] | ((with_reducible refine isEx3 ?_); refine ⟨(_, _, _), rfl, ?_, ?_⟩)
        all_goals first | omega | (simp; done) | (simp; omega) | skip
      · have hg : R = G := by simp [goal, hf00]
        subst hg
        (try (simp -implicitDefEqProofs only [go_sem, lookK_mem', hlk, codeD_eq, codeC_eq, rowsD_eq])); repeat' first | with_reducible exact True.intro | with_reducible refine And.intro ?_ ?_ | with_reducible intro _ | (((with_reducible refine isCall ?_); first | refine call_b (codes_code_words_ret c (by omega)) rfl ?_ ?_ | refine call_d (codes_code_words_ret c (by omega)) rfl ?_ | refine call_sb (codes_code_words_ret c (by omega)) rfl ?_ ?_ | refine call_s (codes_code_words_ret c (by omega)) rfl rfl ?_) <;> try (simp -implicitDefEqProofs only [go_sem, lookK_mem', hlk, codeD_eq, codeC_eq, rowsD_eq])) | (((with_reducible refine vc_b ?_ ?_) <;> intro _) <;> try (simp -implicitDefEqProofs only [go_sem, lookK_mem', hlk, codeD_eq, codeC_eq, rowsD_eq])) | simp (disch := omega) only [wrapI, wrapU, shl1, shl1', shl1'', shrN, shrN', and_one] | ((with_reducible refine isEx3 ?_); refine ⟨(_, _, _), rfl, ?_, ?_⟩)
        all_goals first | omega | (simp; done) | (simp; omega) | skip
        refine pw_loopS (α := Int × Int × Memo) (l0 := ?l1) (m0 := ?m1) (fun x => [(39, .d (.int .i64 x.1)), (14, .d (.int .i64 x.2.1))]) (fun x => [(900004, .map tyP (memD x.2.2))]) (fun x => 0 ≤ x.1 ∧ x.1 ≤ c.W ∧ (0 ≤ x.2.1 ∧ x.2.1 ≤ 16) ∧ MemB x.2.2 ∧ c.apW (fun s' mk m' => c.apM n s' 0 mk m') s first mark (c.W - x.1.toNat) x.1 x.2.1 x.2.2 = R) (fun x => (c.W - x.1).toNat) (?a1_0, ?a1_1, m) ?h01 ?he1 ?he21 ?hI1 ?step1
        case h01 => (simp -implicitDefEqProofs only [go_sem]; rfl)
        case he1 => rfl
        case he21 => rfl
        case' step1 => (rintro ⟨w, least, mm⟩ hI; try dsimp only at hI)
        case' hI1 => try dsimp only
        · exact ⟨by omega, by omega, by omega, hm, hG⟩
        · obtain ⟨hw0, hwW, hl, hmm, heq⟩ := hI
          by_cases hw : w < c.W
          · have hiw : c.isWord w = true := by simp only [GCode.isWord, inR, decide_eq_true_eq]; rw [hWe] at hw; omega
            have hst := GCode.nxt_state h hs hiw
            have cb := codes_code_bits_ret c s w h hs hiw
            have hbl := bitsOf_length c.out.toNat (c.wrd s w)
            have hbb := areBits_drop (bitsOf_bits c.out.toNat (c.wrd s w)) first.toNat
            obtain ⟨B, hB⟩ : ∃ B, (bitsOf c.out.toNat (c.wrd s w)).drop first.toNat = B := ⟨_, rfl⟩
            have htk : List.take ((bitsOf c.out.toNat (c.wrd s w)).length - first.toNat) B = B := List.take_of_length_le (by rw [← hB]; simp)
            have hBl : B.length = c.out.toNat - first.toNat := by rw [← hB]; simp [hbl]
            rw [hB] at hbb
            obtain ⟨N, hN⟩ : ∃ N, min mark.length B.length = N := ⟨_, rfl⟩
            have hml := List.length_pos_iff.2 hm0
            have hN1 : 1 ≤ N ∧ N ≤ mark.length ∧ N ≤ B.length := by omega
            have htl : (mark.take N).length = N := by simp; omega
            have hstep : c.apW (fun s' mk m' => c.apM n s' 0 mk m') s first mark (c.W - w.toNat) w least mm = c.apW (fun s' mk m' => c.apM n s' 0 mk m') s first mark (c.W - (w + 1).toNat) (w + 1) (min least (dist (mark.take N) B + (c.apM n (c.nxt s w) 0 (mark.drop N) mm).1)) (c.apM n (c.nxt s w) 0 (mark.drop N) mm).2 := by
              rw [show c.W - w.toNat = (c.W - (w + 1).toNat) + 1 by omega]
              simp only [GCode.apW, hB, hN]
            have hrb := apM_bound c n (c.nxt s w) 0 (mark.drop N) mm hmm
            have ci := ih (c.nxt s w) 0 nl (mark.drop N) mm hst (by omega) (by omega) (areBits_drop hb _) (by simp; omega) (by simp; omega) hmm
            generalize hR0 : c.apM n (c.nxt s w) 0 (mark.drop N) mm = R0 at *
            have hdb := dist_bound (mark.take N) B
            have cd := fun n1 n2 => codes_distance_ret n1 n2 (mark.take N) B (areBits_take hb _) hbb (by omega) (by omega)
            generalize hD0 : dist (mark.take N) B = D0 at *
            rw [hstep] at heq
            (try (simp -implicitDefEqProofs only [go_sem, codeD_eq, codeC_eq, rowsD_eq, rowD_eq, c.nxt_eq, hB, htk, min_cast, hN, htl])); repeat' first | with_reducible exact True.intro | with_reducible refine And.intro ?_ ?_ | with_reducible intro _ | (((with_reducible refine isCall ?_); first | refine call_b (cb) rfl ?_ ?_ | refine call_d (cb) rfl ?_ | refine call_sb (cb) rfl ?_ ?_ | refine call_s (cb) rfl rfl ?_ | refine call_b (cd _ _) rfl ?_ ?_ | refine call_d (cd _ _) rfl ?_ | refine call_sb (cd _ _) rfl ?_ ?_ | refine call_s (cd _ _) rfl rfl ?_ | (refine call_m ([((900004, 0), (900004, 0))]) ([((900004, 0), (900004, 0))]) (ci) (by repeat' first | exact True.intro | exact rfl | refine And.intro ?_ ?_) (by simp [Handed, Ren.get, AObj.ren, AV.ren, AV.ren.renL, View.get, lookO, callF, newS, View.reach, AV.sites, AV.sites.sitesL, View.osites]) (by simp [namesOk, hasN, nodupB, Ren.get, newS, lim, upd]) (by rfl) (by simp only [backC, Ren.get, AObj.ren, AV.ren, AV.ren.renL, and_self, and_true, true_and, if_true, reduceIte]; rfl) ?_)) <;> try (simp -implicitDefEqProofs only [go_sem, codeD_eq, codeC_eq, rowsD_eq, rowD_eq, c.nxt_eq, hB, htk, min_cast, hN, htl])) | (((with_reducible refine vc_b ?_ ?_) <;> intro _) <;> try (simp -implicitDefEqProofs only [go_sem, codeD_eq, codeC_eq, rowsD_eq, rowD_eq, c.nxt_eq, hB, htk, min_cast, hN, htl])) | simp (disch := omega) only [wrapI, wrapU, shl1, shl1', shl1'', shrN, shrN', and_one] | ((with_reducible refine isEx3 ?_); refine ⟨(_, _, _), rfl, ?_, ?_⟩)
            all_goals (try simp (disch := omega) only [wrapI, wrapU, shl1, shl1', shl1'', shrN, shrN', and_one] at *)
            all_goals first | omega | (simp; done) | (simp; omega) | skip
            exact hrb.2
          · have hz : c.W - w.toNat = 0 := by omega
            rw [hz, GCode.apW] at heq
            subst heq
            (try (simp -implicitDefEqProofs only [go_sem, codeD_eq, codeC_eq, rowsD_eq, setK_mem'])); repeat' first | with_reducible exact True.intro | with_reducible refine And.intro ?_ ?_ | with_reducible intro _ | (((with_reducible refine vc_b ?_ ?_) <;> intro _) <;> try (simp -implicitDefEqProofs only [go_sem, codeD_eq, codeC_eq, rowsD_eq, setK_mem'])) | simp (disch := omega) only [wrapI, wrapU, shl1, shl1', shl1'', shrN, shrN', and_one] | ((with_reducible refine isEx3 ?_); refine ⟨(_, _, _), rfl, ?_, ?_⟩)
            all_goals first | omega | (simp; done) | (simp; omega) | skip
    | none =>
      rw [hlk] at goal
      (try (simp -implicitDefEqProofs only [go_sem, lookK_mem', hlk, Option.map_none, codeD_eq, codeC_eq, rowsD_eq])); repeat' first | with_reducible exact True.intro | with_reducible refine And.intro ?_ ?_ | with_reducible intro _ | (((with_reducible refine isCall ?_); first | refine call_b (codes_code_words_ret c (by omega)) rfl ?_ ?_ | refine call_d (codes_code_words_ret c (by omega)) rfl ?_ | refine call_sb (codes_code_words_ret c (by omega)) rfl ?_ ?_ | refine call_s (codes_code_words_ret c (by omega)) rfl rfl ?_) <;> try (simp -implicitDefEqProofs only [go_sem, lookK_mem', hlk, Option.map_none, codeD_eq, codeC_eq, rowsD_eq])) | (((with_reducible refine vc_b ?_ ?_) <;> intro _) <;> try (simp -implicitDefEqProofs only [go_sem, lookK_mem', hlk, Option.map_none, codeD_eq, codeC_eq, rowsD_eq])) | simp (disch := omega) only [wrapI, wrapU, shl1, shl1', shl1'', shrN, shrN', and_one] | ((with_reducible refine isEx3 ?_); refine ⟨(_, _, _), rfl, ?_, ?_⟩)
      all_goals first | omega | (simp; done) | (simp; omega) | skip
      refine pw_loopS (α := Int × Int × Memo) (l0 := ?l2) (m0 := ?m2) (fun x => [(39, .d (.int .i64 x.1)), (14, .d (.int .i64 x.2.1))]) (fun x => [(900004, .map tyP (memD x.2.2))]) (fun x => 0 ≤ x.1 ∧ x.1 ≤ c.W ∧ (0 ≤ x.2.1 ∧ x.2.1 ≤ 16) ∧ MemB x.2.2 ∧ c.apW (fun s' mk m' => c.apM n s' 0 mk m') s first mark (c.W - x.1.toNat) x.1 x.2.1 x.2.2 = G) (fun x => (c.W - x.1).toNat) (?a2_0, ?a2_1, m) ?h02 ?he2 ?he22 ?hI2 ?step2
      case h02 => (simp -implicitDefEqProofs only [go_sem]; rfl)
      case he2 => rfl
      case he22 => rfl
      case' step2 => (rintro ⟨w, least, mm⟩ hI2; try dsimp only at hI2)
      case' hI2 => try dsimp only
      · exact ⟨by omega, by omega, by omega, hm, hG⟩
      · obtain ⟨hw0, hwW, hl, hmm, heq⟩ := hI2
        by_cases hw : w < c.W
        · have hiw : c.isWord w = true := by simp only [GCode.isWord, inR, decide_eq_true_eq]; rw [hWe] at hw; omega
          have hst := GCode.nxt_state h hs hiw
          have cb := codes_code_bits_ret c s w h hs hiw
          have hbl := bitsOf_length c.out.toNat (c.wrd s w)
          have hbb := areBits_drop (bitsOf_bits c.out.toNat (c.wrd s w)) first.toNat
          obtain ⟨B, hB⟩ : ∃ B, (bitsOf c.out.toNat (c.wrd s w)).drop first.toNat = B := ⟨_, rfl⟩
          have htk : List.take ((bitsOf c.out.toNat (c.wrd s w)).length - first.toNat) B = B := List.take_of_length_le (by rw [← hB]; simp)
          have hBl : B.length = c.out.toNat - first.toNat := by rw [← hB]; simp [hbl]
          rw [hB] at hbb
          obtain ⟨N, hN⟩ : ∃ N, min mark.length B.length = N := ⟨_, rfl⟩
          have hml := List.length_pos_iff.2 hm0
          have hN1 : 1 ≤ N ∧ N ≤ mark.length ∧ N ≤ B.length := by omega
          have htl : (mark.take N).length = N := by simp; omega
          have hstep : c.apW (fun s' mk m' => c.apM n s' 0 mk m') s first mark (c.W - w.toNat) w least mm = c.apW (fun s' mk m' => c.apM n s' 0 mk m') s first mark (c.W - (w + 1).toNat) (w + 1) (min least (dist (mark.take N) B + (c.apM n (c.nxt s w) 0 (mark.drop N) mm).1)) (c.apM n (c.nxt s w) 0 (mark.drop N) mm).2 := by
            rw [show c.W - w.toNat = (c.W - (w + 1).toNat) + 1 by omega]
            simp only [GCode.apW, hB, hN]
          have hrb := apM_bound c n (c.nxt s w) 0 (mark.drop N) mm hmm
          have ci := ih (c.nxt s w) 0 nl (mark.drop N) mm hst (by omega) (by omega) (areBits_drop hb _) (by simp; omega) (by simp; omega) hmm
          generalize hR0 : c.apM n (c.nxt s w) 0 (mark.drop N) mm = R0 at *
          have hdb := dist_bound (mark.take N) B
          have cd := fun n1 n2 => codes_distance_ret n1 n2 (mark.take N) B (areBits_take hb _) hbb (by omega) (by omega)
          generalize hD0 : dist (mark.take N) B = D0 at *
          rw [hstep] at heq
          (try (simp -implicitDefEqProofs only [go_sem, codeD_eq, codeC_eq, rowsD_eq, rowD_eq, c.nxt_eq, hB, htk, min_cast, hN, htl])); repeat' first | with_reducible exact True.intro | with_reducible refine And.intro ?_ ?_ | with_reducible intro _ | (((with_reducible refine isCall ?_); first | refine call_b (cb) rfl ?_ ?_ | refine call_d (cb) rfl ?_ | refine call_sb (cb) rfl ?_ ?_ | refine call_s (cb) rfl rfl ?_ | refine call_b (cd _ _) rfl ?_ ?_ | refine call_d (cd _ _) rfl ?_ | refine call_sb (cd _ _) rfl ?_ ?_ | refine call_s (cd _ _) rfl rfl ?_ | (refine call_m ([((900004, 0), (900004, 0))]) ([((900004, 0), (900004, 0))]) (ci) (by repeat' first | exact True.intro | exact rfl | refine And.intro ?_ ?_) (by simp [Handed, Ren.get, AObj.ren, AV.ren, AV.ren.renL, View.get, lookO, callF, newS, View.reach, AV.sites, AV.sites.sitesL, View.osites]) (by simp [namesOk, hasN, nodupB, Ren.get, newS, lim, upd]) (by rfl) (by simp only [backC, Ren.get, AObj.ren, AV.ren, AV.ren.renL, and_self, and_true, true_and, if_true, reduceIte]; rfl) ?_)) <;> try (simp -implicitDefEqProofs only [go_sem, codeD_eq, codeC_eq, rowsD_eq, rowD_eq, c.nxt_eq, hB, htk, min_cast, hN, htl])) | (((with_reducible refine vc_b ?_ ?_) <;> intro _) <;> try (simp -implicitDefEqProofs only [go_sem, codeD_eq, codeC_eq, rowsD_eq, rowD_eq, c.nxt_eq, hB, htk, min_cast, hN, htl])) | simp (disch := omega) only [wrapI, wrapU, shl1, shl1', shl1'', shrN, shrN', and_one] | ((with_reducible refine isEx3 ?_); refine ⟨(_, _, _), rfl, ?_, ?_⟩)
          all_goals (try simp (disch := omega) only [wrapI, wrapU, shl1, shl1', shl1'', shrN, shrN', and_one] at *)
          all_goals first | omega | (simp; done) | (simp; omega) | skip
          exact hrb.2
        · have hz : c.W - w.toNat = 0 := by omega
          rw [hz, GCode.apW] at heq
          subst heq
          by_cases hff : first = 0
          · rw [if_pos hff] at goal
            subst goal
            (try (simp -implicitDefEqProofs only [go_sem, codeD_eq, codeC_eq, rowsD_eq, setK_mem'])); repeat' first | with_reducible exact True.intro | with_reducible refine And.intro ?_ ?_ | with_reducible intro _ | (((with_reducible refine vc_b ?_ ?_) <;> intro _) <;> try (simp -implicitDefEqProofs only [go_sem, codeD_eq, codeC_eq, rowsD_eq, setK_mem'])) | simp (disch := omega) only [wrapI, wrapU, shl1, shl1', shl1'', shrN, shrN', and_one] | ((with_reducible refine isEx3 ?_); refine ⟨(_, _, _), rfl, ?_, ?_⟩)
            all_goals first | omega | (simp; done) | (simp; omega) | skip
          · rw [if_neg hff] at goal
            subst goal
            (try (simp -implicitDefEqProofs only [go_sem, codeD_eq, codeC_eq, rowsD_eq, setK_mem'])); repeat' first | with_reducible exact True.intro | with_reducible refine And.intro ?_ ?_ | with_reducible intro _ | (((with_reducible refine vc_b ?_ ?_) <;> intro _) <;> try (simp -implicitDefEqProofs only [go_sem, codeD_eq, codeC_eq, rowsD_eq, setK_mem'])) | simp (disch := omega) only [wrapI, wrapU, shl1, shl1', shl1'', shrN, shrN', and_one] | ((with_reducible refine isEx3 ?_); refine ⟨(_, _, _), rfl, ?_, ?_⟩)
            all_goals first | omega | (simp; done) | (simp; omega) | skip
end Go.Pw
end
section
open Go Go.Pw Go.Proofs
namespace Go.Pw
set_option linter.unusedSimpArgs false
set_option linter.unusedVariables false
set_option maxRecDepth 100000
set_option maxHeartbeats 800000
attribute [local congr] cg_pw cg_seqI cg_seqE cg_stepI cg_ev cg_evBin cg_condB cg_condV cg_thenQ cg_blockQ cg_onSome cg_onCells cg_onRow cg_onRow2 cg_frhV cg_frhO cg_onMap cg_onOpt cg_ghosts cg_ghost cg_evCall cg_part cg_rng cg_guardV cg_frzV cg_frpV cg_ownV cg_owcV cg_occV cg_occX cg_resK cg_res1 cg_yldP cg_rndE cg_onlyN cg_onHist
attribute [local irreducible] IntKind.wrap bitsOp Option.getD and or

theorem keyEq_pair (p q : Pair) : keyEq (pairD p) (pairD q) = decide (p = q) := by
  obtain ⟨a, b⟩ := p; obtain ⟨x, y⟩ := q
  simp [keyEq, pairD, D.cells, allEq, primEq]

theorem slices_Index_pair_ret (nl : Bool) (l : List Pair) (q : Pair) : ∃ r : Int, (0 ≤ r ↔ q ∈ l) ∧ Ret E0 F_slices_Index_codes_pair_codes_pair [.list nl (pairsD l), pairD q] (.int .i64 r) := by
  refine ⟨match l.findIdx? (fun p => decide (q = p)) with | some i => i | none => -1, ?_, ?_⟩
  · cases hf : l.findIdx? (fun p => decide (q = p)) with
    | none => rw [List.findIdx?_eq_none_iff] at hf; simp; intro h; have := hf q h; simp at this
    | some i => rw [List.findIdx?_eq_some_iff_getElem] at hf; simp; obtain ⟨h1, h2, _⟩ := hf; simp at h2; rw [h2]; exact List.getElem_mem h1
  refine ret_of_pw dec_slices_Index_codes_pair_codes_pair mixed (by simp) fun hwf => ?_
  simp only [wf_int, wf_bool, wf_ints, wf_list, wf_agg, wf_ptr, wf_fn, wf_tup, wf_all_cons, wf_all_nil, wf_all_map, inK_i64, maxLen_eq, List.length_map, ints_len, true_and, and_true, pairsD_len] at hwf
  rw [enter_eq]; unfold pc_slices_Index_codes_pair_codes_pair
  simp -implicitDefEqProofs only [go_sem, pairsD_len, pairD_eq]
  refine pw_loopS (α := Int) (l0 := ?l1) (m0 := ?m1) (fun x => [(8, .d (.int .i64 x))]) (fun x => []) (fun x => 0 ≤ x ∧ x ≤ l.length ∧ ∀ (j : Nat) (hj : j < l.length), (j : Int) < x → q ≠ l[j]) (fun x => (l.length - x).toNat) ?a1_0 ?h01 ?he1 ?he21 ?hI1 ?step1
  case h01 => (simp -implicitDefEqProofs only [go_sem, pairsD_len, pairD_eq]; rfl)
  case he1 => rfl
  case he21 => rfl
  case' step1 => (rintro i hI; try dsimp only at hI)
  case' hI1 => try dsimp only
  · simp; omega
  · (try (simp -implicitDefEqProofs only [go_sem, pairsD_len, onSome_pairs, pairD_eq])); repeat' first | with_reducible exact True.intro | with_reducible refine And.intro ?_ ?_ | with_reducible intro _ | (((with_reducible refine vc_b ?_ ?_) <;> intro _) <;> try (simp -implicitDefEqProofs only [go_sem, pairsD_len, onSome_pairs, pairD_eq])) | simp (disch := omega) only [wrapI, wrapU, shl1, shl1', shl1'', shrN, shrN', and_one] | ((with_reducible refine isEx ?_); refine ⟨_, rfl, ?_, ?_⟩)
    all_goals first | omega | (simp; done) | (simp; omega) | skip
    · have : l.findIdx? (fun p => decide (q = p)) = some i.toNat := by
        rw [List.findIdx?_eq_some_iff_getElem]
        have hx : l[i.toNat]?.getD default = l[i.toNat]'(by omega) := by rw [List.getElem?_eq_getElem (by omega), Option.getD_some]
        rename_i h1 h2
        rw [hx] at h2
        exact ⟨by omega, by simp; exact Prod.ext h2.1 h2.2, fun j hj => by simpa using hI.2.2 j (by omega) (by omega)⟩
      rw [this]; simp; omega
    · rename_i h1 h2 j hj hlt
      by_cases hji : j = i.toNat
      · subst hji
        have hx : l[i.toNat]?.getD default = l[i.toNat]'(by omega) := by rw [List.getElem?_eq_getElem (by omega), Option.getD_some]
        intro h; rw [hx, ← h] at h2; exact h2 ⟨rfl, rfl⟩
      · exact hI.2.2 j hj (by omega)
    · have : l.findIdx? (fun p => decide (q = p)) = none := by
        rw [List.findIdx?_eq_none_iff]; intro x hx; obtain ⟨j, hj, rfl⟩ := List.getElem_of_mem hx
        simpa using hI.2.2 j hj (by omega)
      rw [this]

theorem slices_Contains_pair_ret (nl : Bool) (l : List Pair) (q : Pair) : Ret E0 F_slices_Contains_codes_pair_codes_pair [.list nl (pairsD l), pairD q] (.bool (decide (q ∈ l))) := by
  refine ret_of_pw dec_slices_Contains_codes_pair_codes_pair mixed (by simp) fun hwf => ?_
  obtain ⟨r, hr, hret⟩ := slices_Index_pair_ret nl l q
  rw [enter_eq]; unfold pc_slices_Contains_codes_pair_codes_pair
  (try (simp -implicitDefEqProofs only [go_sem, pairD_eq])); repeat' first | with_reducible exact True.intro | with_reducible refine And.intro ?_ ?_ | with_reducible intro _ | (((with_reducible refine isCall ?_); first | refine call_b (hret) rfl ?_ ?_ | refine call_d (hret) rfl ?_ | refine call_sb (hret) rfl ?_ ?_ | refine call_s (hret) rfl rfl ?_) <;> try (simp -implicitDefEqProofs only [go_sem, pairD_eq])) | (((with_reducible refine vc_b ?_ ?_) <;> intro _) <;> try (simp -implicitDefEqProofs only [go_sem, pairD_eq])) | simp (disch := omega) only [wrapI, wrapU, shl1, shl1', shl1'', shrN, shrN', and_one] 
  all_goals simp_all
end Go.Pw
end
section
open Go Go.Pw Go.Proofs
namespace Go.Pw
set_option linter.unusedSimpArgs false
set_option linter.unusedVariables false
set_option maxRecDepth 100000
set_option maxHeartbeats 1600000
attribute [local congr] cg_pw cg_seqI cg_seqE cg_stepI cg_ev cg_evBin cg_condB cg_condV cg_thenQ cg_blockQ cg_onSome cg_onCells cg_onRow cg_onRow2 cg_frhV cg_frhO cg_onMap cg_onOpt cg_ghosts cg_ghost cg_evCall cg_part cg_rng cg_guardV cg_frzV cg_frpV cg_ownV cg_owcV cg_occV cg_occX cg_resK cg_res1 cg_yldP cg_rndE cg_onlyN cg_onHist
attribute [local irreducible] IntKind.wrap bitsOp Option.getD and or

theorem GCode.lvl_good {c : GCode} (h : c.ok = true) {differ : Bool} {p : Pair} {a b : Int} {out : List Pair} (hp : c.isState p.1 = true ∧ c.isState p.2 = true) (ha : c.isWord a = true) (hb : c.isWord b = true) (hg : c.GoodP out) : c.GoodP (c.lvl differ p a out b) := by
  unfold GCode.lvl
  split
  · rename_i hc
    refine ⟨?_, fun q hq => ?_⟩
    · rw [List.nodup_append]
      exact ⟨hg.1, by simp, fun x hx y hy => by simp at hy; subst hy; intro he; subst he; exact hc.2.2 hx⟩
    · simp only [List.mem_append, List.mem_singleton] at hq
      rcases hq with hq | rfl
      · exact hg.2 q hq
      · exact ⟨GCode.nxt_state h hp.1 ha, GCode.nxt_state h hp.2 hb⟩
  · exact hg
theorem GCode.W_eq (c : GCode) : (c.W : Int) = 2 ^ c.bits.toNat := by simp [GCode.W]
theorem foldN_step {β : Type} (f : β → Int → β) {w : Nat} {i : Int} (b : β) (h0 : 0 ≤ i) (h : i < w) : foldN f (w - i.toNat) i b = foldN f (w - (i + 1).toNat) (i + 1) (f b i) := by
  rw [show w - i.toNat = (w - (i + 1).toNat) + 1 by omega, foldN]
theorem foldN_end {β : Type} (f : β → Int → β) {w : Nat} {i : Int} (b : β) (h0 : 0 ≤ i) (h : ¬ i < w) : foldN f (w - i.toNat) i b = b := by
  rw [show w - i.toNat = 0 by omega, foldN]

theorem codes_Order_1_ret (c : GCode) (h : c.ok = true) (nl : Bool) (l : List Pair) (hl : ∀ p, p ∈ l → c.isState p.1 = true ∧ c.isState p.2 = true) (differ : Bool) :
    Ret E0 F_codes_Order_1 [.list nl (pairsD l), .bool differ, .ptr (codeC c)] (.list (c.level l differ).isEmpty (pairsD (c.level l differ))) := by
  refine ret_of_pw dec_codes_Order_1 mixed (by simp) fun hwf => ?_
  have hd := GCode.ok_head h
  have h12 := pow_12 (b := c.bits) (by omega)
  have hW := c.W_eq
  simp only [wf_int, wf_bool, wf_ints, wf_list, wf_agg, wf_ptr, wf_fn, wf_tup, wf_all_cons, wf_all_nil, wf_all_map, inK_i64, maxLen_eq, List.length_map, ints_len, true_and, and_true, pairsD_len] at hwf
  rw [enter_eq]; unfold pc_codes_Order_1
  simp -implicitDefEqProofs only [go_sem, pairsD_len]
  refine pw_loopS (α := Int × Bool × (List Pair)) (l0 := ?l1) (m0 := ?m1) (fun x => [(14, .d (.int .i64 x.1))]) (fun x => [(88, .row 88 2 x.2.1 (pairsD x.2.2))]) (fun x => 0 ≤ x.1 ∧ x.1 ≤ l.length ∧ x.2.1 = x.2.2.isEmpty ∧ c.GoodP x.2.2 ∧ (l.drop x.1.toNat).foldl (c.lvlP differ) x.2.2 = c.level l differ) (fun x => (l.length - x.1).toNat) (?a1_0, ?a1_1, []) ?h01 ?he1 ?he21 ?hI1 ?step1
  case h01 => (simp -implicitDefEqProofs only [go_sem, pairsD_len]; rfl)
  case he1 => rfl
  case he21 => rfl
  case' step1 => (rintro ⟨i, nl', out⟩ hI; try dsimp only at hI)
  case' hI1 => try dsimp only
  · simp [GCode.GoodP, GCode.level]
  by_cases hi : i < l.length
  · obtain ⟨p, hpe⟩ : ∃ p, l[i.toNat]?.getD default = p := ⟨_, rfl⟩
    have hpm : p ∈ l := by rw [← hpe]; exact getD_mem (by omega)
    have hp := hl p hpm
    have hstep : (l.drop i.toNat).foldl (c.lvlP differ) out = (l.drop (i + 1).toNat).foldl (c.lvlP differ) (c.lvlP differ out p) := by
      rw [show (i + 1).toNat = i.toNat + 1 by omega, List.drop_eq_getElem_cons (by omega), List.foldl_cons]
      rw [List.getElem?_eq_getElem (by omega), Option.getD_some] at hpe
      rw [hpe]
    (try (simp -implicitDefEqProofs only [go_sem, pairsD_len, onSome_pairs, hpe, pairD_eq, codeD_eq, codeC_eq])); repeat' first | with_reducible exact True.intro | with_reducible refine And.intro ?_ ?_ | with_reducible intro _ | (((with_reducible refine isCall ?_); first | refine call_b (codes_code_words_ret c (by omega)) rfl ?_ ?_ | refine call_d (codes_code_words_ret c (by omega)) rfl ?_ | refine call_sb (codes_code_words_ret c (by omega)) rfl ?_ ?_ | refine call_s (codes_code_words_ret c (by omega)) rfl rfl ?_) <;> try (simp -implicitDefEqProofs only [go_sem, pairsD_len, onSome_pairs, hpe, pairD_eq, codeD_eq, codeC_eq])) | (((with_reducible refine vc_b ?_ ?_) <;> intro _) <;> try (simp -implicitDefEqProofs only [go_sem, pairsD_len, onSome_pairs, hpe, pairD_eq, codeD_eq, codeC_eq])) | simp (disch := omega) only [wrapI, wrapU, shl1, shl1', shl1'', shrN, shrN', and_one] | ((with_reducible refine isEx3 ?_); refine ⟨(_, _, _), rfl, ?_, ?_⟩)
    all_goals first | omega | (simp; done) | (simp; omega) | skip
    · have hp1 := hp.1
      have hp2 := hp.2
      simp only [GCode.isState, inR, decide_eq_true_eq] at hp1 hp2
      have hn1 := GCode.ok_next h p.1.toNat (by omega)
      have hn2 := GCode.ok_next h p.2.toNat (by omega)
      have hw1 := GCode.ok_words h p.1.toNat (by omega)
      have hw2 := GCode.ok_words h p.2.toNat (by omega)
      refine pw_loopS (α := Int × Bool × (List Pair)) (l0 := ?l2) (m0 := ?m2) (fun x => [(20, .d (.int .i64 x.1))]) (fun x => [(88, .row 88 2 x.2.1 (pairsD x.2.2))]) (fun x => 0 ≤ x.1 ∧ x.1 ≤ c.W ∧ x.2.1 = x.2.2.isEmpty ∧ c.GoodP x.2.2 ∧ foldN (c.lvlA differ p) (c.W - x.1.toNat) x.1 x.2.2 = c.lvlP differ out p) (fun x => (c.W - x.1).toNat) (?a2_0, ?a2_1, out) ?h02 ?he2 ?he22 ?hI2 ?step2
      case h02 => (simp -implicitDefEqProofs only [go_sem, pairsD_len, hpe, pairD_eq]; rfl)
      case he2 => rfl
      case he22 => rfl
      case' step2 => (rintro ⟨a, nl2, out2⟩ hI2; try dsimp only at hI2)
      case' hI2 => try dsimp only
      · simp [GCode.lvlP]; simp_all
      by_cases ha : a < c.W
      · have haw : c.isWord a = true := by simp only [GCode.isWord, inR, decide_eq_true_eq]; omega
        have hsA := foldN_step (c.lvlA differ p) out2 hI2.1 ha
        (try (simp -implicitDefEqProofs only [go_sem, pairsD_len, onSome_pairs, hpe, pairD_eq, codeD_eq, codeC_eq])); repeat' first | with_reducible exact True.intro | with_reducible refine And.intro ?_ ?_ | with_reducible intro _ | (((with_reducible refine isCall ?_); first | refine call_b (codes_code_words_ret c (by omega)) rfl ?_ ?_ | refine call_d (codes_code_words_ret c (by omega)) rfl ?_ | refine call_sb (codes_code_words_ret c (by omega)) rfl ?_ ?_ | refine call_s (codes_code_words_ret c (by omega)) rfl rfl ?_) <;> try (simp -implicitDefEqProofs only [go_sem, pairsD_len, onSome_pairs, hpe, pairD_eq, codeD_eq, codeC_eq])) | (((with_reducible refine vc_b ?_ ?_) <;> intro _) <;> try (simp -implicitDefEqProofs only [go_sem, pairsD_len, onSome_pairs, hpe, pairD_eq, codeD_eq, codeC_eq])) | simp (disch := omega) only [wrapI, wrapU, shl1, shl1', shl1'', shrN, shrN', and_one] | ((with_reducible refine isEx3 ?_); refine ⟨(_, _, _), rfl, ?_, ?_⟩)
        all_goals first | omega | (simp; done) | (simp; omega) | skip
        · refine pw_loopS (α := Int × Bool × (List Pair)) (l0 := ?l3) (m0 := ?m3) (fun x => [(25, .d (.int .i64 x.1))]) (fun x => [(88, .row 88 2 x.2.1 (pairsD x.2.2))]) (fun x => 0 ≤ x.1 ∧ x.1 ≤ c.W ∧ x.2.1 = x.2.2.isEmpty ∧ c.GoodP x.2.2 ∧ foldN (c.lvl differ p a) (c.W - x.1.toNat) x.1 x.2.2 = c.lvlA differ p out2 a) (fun x => (c.W - x.1).toNat) (?a3_0, ?a3_1, out2) ?h03 ?he3 ?he23 ?hI3 ?step3
          case h03 => (simp -implicitDefEqProofs only [go_sem, pairsD_len, hpe, pairD_eq]; rfl)
          case he3 => rfl
          case he23 => rfl
          case' step3 => (rintro ⟨b, nl3, out3⟩ hI3; try dsimp only at hI3)
          case' hI3 => try dsimp only
          · simp [GCode.lvlA]; simp_all
          by_cases hb : b < c.W
          · have hbw : c.isWord b = true := by simp only [GCode.isWord, inR, decide_eq_true_eq]; omega
            have hsB := foldN_step (c.lvl differ p a) out3 hI3.1 hb
            have hg' := GCode.lvl_good (differ := differ) h hp haw hbw hI3.2.2.2.1
            have hlen := GCode.GoodP.len h hI3.2.2.2.1
            have cc := fun nl l => slices_Contains_pair_ret nl l (c.nxt p.1 a, c.nxt p.2 b)
            cases differ
            all_goals
              (try (simp -implicitDefEqProofs only [go_sem, pairsD_len, pairsD_snoc, pairsD_unif, pairsD_empty, onSome_pairs, rowsD_eq, rowD_eq, hpe, pairD_eq, codeC_eq, c.nxt_eq, c.wrd_eq])); repeat' first | with_reducible exact True.intro | with_reducible refine And.intro ?_ ?_ | with_reducible intro _ | (((with_reducible refine isCall ?_); first | refine call_b (cc _ _) rfl ?_ ?_ | refine call_d (cc _ _) rfl ?_ | refine call_sb (cc _ _) rfl ?_ ?_ | refine call_s (cc _ _) rfl rfl ?_) <;> try (simp -implicitDefEqProofs only [go_sem, pairsD_len, pairsD_snoc, pairsD_unif, pairsD_empty, onSome_pairs, rowsD_eq, rowD_eq, hpe, pairD_eq, codeC_eq, c.nxt_eq, c.wrd_eq])) | (((with_reducible refine vc_b ?_ ?_) <;> intro _) <;> try (simp -implicitDefEqProofs only [go_sem, pairsD_len, pairsD_snoc, pairsD_unif, pairsD_empty, onSome_pairs, rowsD_eq, rowD_eq, hpe, pairD_eq, codeC_eq, c.nxt_eq, c.wrd_eq])) | simp (disch := omega) only [wrapI, wrapU, shl1, shl1', shl1'', shrN, shrN', and_one] | ((with_reducible refine isEx3 ?_); refine ⟨(_, _, _), rfl, ?_, ?_⟩)
              all_goals first | omega | (simp; done) | (simp; omega) | skip
              all_goals first
                | exact hI3.2.2.1
                | exact hI3.2.2.2.1
                | (rw [← hI3.2.2.2.2, hsB]; refine congrArg (foldN _ _ _) ?_; unfold GCode.lvl; simp_all; done)
                | (refine cast (congrArg c.GoodP ?_) hg'; unfold GCode.lvl; simp_all; done)
          · (try (simp -implicitDefEqProofs only [go_sem])); repeat' first | with_reducible exact True.intro | with_reducible refine And.intro ?_ ?_ | with_reducible intro _ | (((with_reducible refine vc_b ?_ ?_) <;> intro _) <;> try (simp -implicitDefEqProofs only [go_sem])) | simp (disch := omega) only [wrapI, wrapU, shl1, shl1', shl1'', shrN, shrN', and_one] | ((with_reducible refine isEx3 ?_); refine ⟨(_, _, _), rfl, ?_, ?_⟩)
            all_goals first | omega | (simp; done) | (simp; omega) | skip
            · exact hI3.2.2.1
            · exact hI3.2.2.2.1
            · rw [← hI2.2.2.2.2, hsA, ← hI3.2.2.2.2, foldN_end _ _ hI3.1 hb]
      · (try (simp -implicitDefEqProofs only [go_sem, pairsD_len, onSome_pairs, hpe, pairD_eq, codeD_eq, codeC_eq])); repeat' first | with_reducible exact True.intro | with_reducible refine And.intro ?_ ?_ | with_reducible intro _ | (((with_reducible refine isCall ?_); first | refine call_b (codes_code_words_ret c (by omega)) rfl ?_ ?_ | refine call_d (codes_code_words_ret c (by omega)) rfl ?_ | refine call_sb (codes_code_words_ret c (by omega)) rfl ?_ ?_ | refine call_s (codes_code_words_ret c (by omega)) rfl rfl ?_) <;> try (simp -implicitDefEqProofs only [go_sem, pairsD_len, onSome_pairs, hpe, pairD_eq, codeD_eq, codeC_eq])) | (((with_reducible refine vc_b ?_ ?_) <;> intro _) <;> try (simp -implicitDefEqProofs only [go_sem, pairsD_len, onSome_pairs, hpe, pairD_eq, codeD_eq, codeC_eq])) | simp (disch := omega) only [wrapI, wrapU, shl1, shl1', shl1'', shrN, shrN', and_one] | ((with_reducible refine isEx3 ?_); refine ⟨(_, _, _), rfl, ?_, ?_⟩)
        all_goals first | omega | (simp; done) | (simp; omega) | skip
        · exact hI2.2.2.1
        · exact hI2.2.2.2.1
        · rw [← hI.2.2.2.2, hstep, ← hI2.2.2.2.2, foldN_end _ _ hI2.1 ha]
  · (try (simp -implicitDefEqProofs only [go_sem])); repeat' first | with_reducible exact True.intro | with_reducible refine And.intro ?_ ?_ | with_reducible intro _ | (((with_reducible refine vc_b ?_ ?_) <;> intro _) <;> try (simp -implicitDefEqProofs only [go_sem])) | simp (disch := omega) only [wrapI, wrapU, shl1, shl1', shl1'', shrN, shrN', and_one] | ((with_reducible refine isEx3 ?_); refine ⟨(_, _, _), rfl, ?_, ?_⟩)
    all_goals first | omega | (simp; done) | (simp; omega) | skip
    have h0 : l.drop i.toNat = [] := List.drop_eq_nil_of_le (by omega)
    have := hI.2.2.2.2
    rw [h0, List.foldl_nil] at this
    rw [← this, hI.2.2.1]

end Go.Pw
end
