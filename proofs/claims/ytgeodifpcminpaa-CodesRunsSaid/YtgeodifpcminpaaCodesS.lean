/- A part of the proof. -/
import Derived.Test.YtgeodifpcminpaaCodesN
set_option linter.all false
open Go Go.Pw Go.Proofs
namespace Go.Pw
set_option linter.unusedSimpArgs false
set_option linter.unusedVariables false
set_option maxRecDepth 100000
set_option maxHeartbeats 1600000
attribute [local congr] cg_pw cg_seqI cg_seqE cg_stepI cg_ev cg_evBin cg_condB cg_condV cg_thenQ cg_blockQ cg_onSome cg_onCells cg_onRow cg_onMap cg_onOpt cg_ghosts cg_ghost cg_evCall cg_part cg_rng cg_guardV cg_frzV cg_frpV cg_ownV cg_owcV cg_occV cg_occX cg_resK cg_res1
attribute [local irreducible] IntKind.wrap bitsOp Option.getD and or

theorem lookK_snoc {k v : D} {l : List (D × D)} (h : lookK k l = none) (hk : keyEq k k = true) : lookK k (l ++ [(k, v)]) = some v := by
  induction l with
  | nil => simp [lookK, hk]
  | cons e l ih =>
    simp only [lookK] at h
    split at h
    · cases h
    · rename_i hne; simp only [List.cons_append, lookK, hne]; exact ih h
theorem idxK_none {k : D} {l : List (D × D)} (h : lookK k l = none) : idxK k l = none := by
  induction l with
  | nil => rfl
  | cons e l ih =>
    simp only [lookK] at h
    split at h
    · cases h
    · rename_i hne; simp only [idxK, hne, ih h]; rfl
theorem get_snoc {α : Type} (l : List α) (x : α) : (l ++ [x])[l.length]? = some x := by simp
theorem set_snoc {α : Type} (l : List α) (x y : α) : (l ++ [x]).set l.length y = l ++ [y] := by simp
theorem memD_len (m : Memo) : (memD m).length = m.length := by simp [memD]
theorem memD_snoc (m : Memo) (a b v : Int) : memD m ++ [(.agg [.int .i64 a, .int .i64 b], .int .i64 v)] = memD (m ++ [((a, b), v)]) := by simp [memD, entD, pairD]
theorem lookM_none {k : Pair} {m : Memo} (h : lookM k m = none) (v : Int) : v ∈ ([] : List Int) ∨ (k, v) ∉ m := by
  refine .inr fun hm => ?_
  induction m with
  | nil => cases hm
  | cons e m ih =>
    simp only [lookM] at h
    split at h
    · cases h
    · rename_i hne
      rcases List.mem_cons.1 hm with rfl | hm
      · exact hne rfl
      · exact ih h hm
theorem lookM_of_no {k : Pair} {m : Memo} (h : ∀ v, (k, v) ∉ m) : lookM k m = none := by
  cases hl : lookM k m with
  | none => rfl
  | some v => exact absurd (lookM_mem hl) (h v)

/-- The words of a state, from one on. -/
def GCode.decW (c : GCode) (rec : Int → Memo → Option (List Int) × Memo) (s : Int) (own : List Int) : Nat → Int → Memo → Option (List Int) × Memo
  | 0, _, m => (none, m)
  | n + 1, w, m =>
    if own = bitsOf c.out.toNat (c.wrd s w) then
      match (rec (c.nxt s w) m).1 with
      | some l => (some (w :: l), (rec (c.nxt s w) m).2)
      | none => c.decW rec s own n (w + 1) (rec (c.nxt s w) m).2
    else c.decW rec s own n (w + 1) m
/-- k words are left; p are behind. -/
def GCode.decM (c : GCode) (bits : List Int) : Nat → Int → Int → Memo → Option (List Int) × Memo
  | 0, _, _, m => (some [], m)
  | k + 1, s, p, m =>
    if lookM (s, p) m = none then
      match (c.decW (fun s' m' => c.decM bits k s' (p + 1) m') s ((bits.drop (p * c.out).toNat).take c.out.toNat) c.W 0 m).1 with
      | some l => (some l, (c.decW (fun s' m' => c.decM bits k s' (p + 1) m') s ((bits.drop (p * c.out).toNat).take c.out.toNat) c.W 0 m).2)
      | none => (none, (c.decW (fun s' m' => c.decM bits k s' (p + 1) m') s ((bits.drop (p * c.out).toNat).take c.out.toNat) c.W 0 m).2 ++ [((s, p), 1)])
    else (none, m)

/-- The table: places that failed, each once. -/
def GCode.Tab (c : GCode) (m : Memo) : Prop := (m.map (·.1)).Nodup ∧ ∀ e, e ∈ m → e.2 = 1 ∧ c.isState e.1.1 = true ∧ 0 ≤ e.1.2 ∧ e.1.2 ≤ 24
theorem GCode.Tab.len {c : GCode} (h : c.ok = true) {m : Memo} (ht : c.Tab m) : m.length ≤ 100 := by
  have hd := GCode.ok_head h
  have := nodup_lt 100 (m.map fun e => (e.1.1 * 25 + e.1.2).toNat) ?_ ?_
  · simpa using this
  · have h1 := ht.1
    rw [List.nodup_iff_pairwise_ne, List.pairwise_map] at h1 ⊢
    refine List.Pairwise.imp_of_mem (fun {a b} ha hb hab he => hab ?_) h1
    have ka := ht.2 a ha
    have kb := ht.2 b hb
    simp only [GCode.isState, inR, decide_eq_true_eq] at ka kb
    exact Prod.ext (by omega) (by omega)
  · intro x hx
    simp only [List.mem_map] at hx
    obtain ⟨e, he, rfl⟩ := hx
    have ka := ht.2 e he
    simp only [GCode.isState, inR, decide_eq_true_eq] at ka
    omega
/-- What a call adds to the table lies from a place on. -/
def Grows (p : Int) (m m' : Memo) : Prop := ∀ e, e ∈ m' → e ∈ m ∨ p ≤ e.1.2
theorem Grows.refl (p : Int) (m : Memo) : Grows p m m := fun e he => .inl he
theorem Grows.trans {p : Int} {a b d : Memo} (h : Grows p a b) (k : Grows p b d) : Grows p a d := fun e he => (k e he).elim (h e) .inr

theorem decW_tab (c : GCode) (h : c.ok = true) {rec : Int → Memo → Option (List Int) × Memo} {s p : Int} {own : List Int} (hs : c.isState s = true)
    (hrec : ∀ s' m, c.isState s' = true → c.Tab m → c.Tab (rec s' m).2 ∧ Grows (p + 1) m (rec s' m).2) : ∀ (n : Nat) (w : Int) (m : Memo), 0 ≤ w → w + n ≤ c.W → c.Tab m → c.Tab (c.decW rec s own n w m).2 ∧ Grows (p + 1) m (c.decW rec s own n w m).2
  | 0, w, m, _, _, ht => ⟨ht, Grows.refl _ _⟩
  | n + 1, w, m, h0, h1, ht => by
    have hWe := GCode.W_eq' c
    simp only [GCode.decW]
    split
    · obtain ⟨h2, h3⟩ := hrec (c.nxt s w) m (GCode.nxt_state h hs (by simp only [GCode.isWord, inR, decide_eq_true_eq]; omega)) ht
      split
      · exact ⟨h2, h3⟩
      · obtain ⟨h4, h5⟩ := decW_tab c h hs hrec n (w + 1) _ (by omega) (by omega) h2
        exact ⟨h4, h3.trans h5⟩
    · exact decW_tab c h hs hrec n (w + 1) m (by omega) (by omega) ht

theorem decM_tab (c : GCode) (h : c.ok = true) (bits : List Int) : ∀ (k : Nat) (s p : Int) (m : Memo), c.isState s = true → 0 ≤ p → p + k ≤ 24 → c.Tab m → c.Tab (c.decM bits k s p m).2 ∧ Grows p m (c.decM bits k s p m).2
  | 0, s, p, m, _, _, _, ht => ⟨ht, Grows.refl _ _⟩
  | k + 1, s, p, m, hs, h0, h24, ht => by
    simp only [GCode.decM]
    split
    · rename_i hn
      obtain ⟨h1, h2⟩ := decW_tab c h (own := (bits.drop (p * c.out).toNat).take c.out.toNat) hs (rec := fun s' m' => c.decM bits k s' (p + 1) m') (p := p) (fun s' m' hs' ht' => decM_tab c h bits k s' (p + 1) m' hs' (by omega) (by omega) ht') c.W 0 m (by omega) (by omega) ht
      have h2' : Grows p m (c.decW (fun s' m' => c.decM bits k s' (p + 1) m') s ((bits.drop (p * c.out).toNat).take c.out.toNat) c.W 0 m).2 := fun e he => (h2 e he).imp id fun h => by omega
      split
      · exact ⟨h1, h2'⟩
      · refine ⟨⟨?_, fun e he => ?_⟩, fun e he => ?_⟩
        · rw [List.map_append, List.nodup_append]
          refine ⟨h1.1, by simp, fun a ha b hb => ?_⟩
          simp at hb; subst hb
          rintro rfl
          simp only [List.mem_map] at ha
          obtain ⟨e, he, hek⟩ := ha
          rcases h2 e he with he | he
          · have := lookM_none hn e.2
            rcases this with h | h
            · cases h
            · exact h (by rw [← hek]; exact he)
          · rw [hek] at he; simp only at he; omega
        · rcases List.mem_append.1 he with he | he
          · exact h1.2 e he
          · simp at he; subst he; exact ⟨rfl, hs, h0, by simp only; omega⟩
        · rcases List.mem_append.1 he with he | he
          · exact h2' e he
          · simp at he; subst he; exact .inr (by simp)
    · exact ⟨ht, Grows.refl _ _⟩

theorem decW_len (c : GCode) {rec : Int → Memo → Option (List Int) × Memo} {s : Int} {own : List Int} {k : Nat} (hrec : ∀ s' m l, (rec s' m).1 = some l → l.length = k) : ∀ (n : Nat) (w : Int) (m : Memo) (l : List Int), (c.decW rec s own n w m).1 = some l → l.length = k + 1
  | 0, w, m, l, h => by simp [GCode.decW] at h
  | n + 1, w, m, l, h => by
    simp only [GCode.decW] at h
    split at h
    · split at h
      · rename_i l' hl'
        simp at h; subst h
        simp [hrec _ _ _ hl']
      · exact decW_len c hrec n _ _ l h
    · exact decW_len c hrec n _ _ l h
theorem decM_len (c : GCode) (bits : List Int) : ∀ (k : Nat) (s p : Int) (m : Memo) (l : List Int), (c.decM bits k s p m).1 = some l → l.length = k
  | 0, s, p, m, l, h => by simp [GCode.decM] at h; subst h; rfl
  | k + 1, s, p, m, l, h => by
    simp only [GCode.decM] at h
    split at h
    · split at h
      · rename_i l' hl'
        simp at h; subst h
        exact decW_len c (fun s' m' l h => decM_len c bits k s' (p + 1) m' l h) _ _ _ _ hl'
      · cases h
    · cases h

def optL (o : Option (List Int)) : D := match o with | some l => .list false (ints l) | none => .list true []
theorem optL_some {l : List Int} : optL (some l) = .list false (ints l) := rfl
theorem optL_none : optL none = .list true [] := rfl

theorem codes_Equal_ret (n1 n2 : Bool) (xs ys : List Int) : Ret E0 F_slices_Equal_int_int [.list n1 (ints xs), .list n2 (ints ys)] (.bool (decide (xs = ys))) := by
  refine ret_of_pw dec_slices_Equal_int_int mixed (by simp) fun hwf => ?_
  simp only [wf_int, wf_bool, wf_ints, wf_list, wf_agg, wf_ptr, wf_fn, wf_tup, wf_all_cons, wf_all_nil, wf_all_map, inK_i64, maxLen_eq, List.length_map, ints_len, true_and, and_true] at hwf
  rw [enter_eq]; unfold pc_slices_Equal_int_int
  by_cases hl : xs.length = ys.length
  · (try (simp -implicitDefEqProofs only [go_sem])); repeat' first | with_reducible exact True.intro | with_reducible refine And.intro ?_ ?_ | with_reducible intro _ | (((with_reducible refine vc_b ?_ ?_) <;> intro _) <;> try (simp -implicitDefEqProofs only [go_sem])) | simp (disch := omega) only [wrapI, wrapU, shl1, shl1', shl1'', shrN, shrN', and_one] | ((with_reducible refine isEx8 ?_); refine ⟨(_, _, _, _, _, _, _, _), rfl, ?_, ?_⟩) | ((with_reducible refine isEx7 ?_); refine ⟨(_, _, _, _, _, _, _), rfl, ?_, ?_⟩) | ((with_reducible refine isEx6 ?_); refine ⟨(_, _, _, _, _, _), rfl, ?_, ?_⟩) | ((with_reducible refine isEx5 ?_); refine ⟨(_, _, _, _, _), rfl, ?_, ?_⟩) | ((with_reducible refine isEx4 ?_); refine ⟨(_, _, _, _), rfl, ?_, ?_⟩) | ((with_reducible refine isEx3 ?_); refine ⟨(_, _, _), rfl, ?_, ?_⟩) | ((with_reducible refine isEx2 ?_); refine ⟨(_, _), rfl, ?_, ?_⟩) | ((with_reducible refine isEx ?_); refine ⟨_, rfl, ?_, ?_⟩)
    all_goals first | omega | (simp; done) | (simp; omega) | skip
    refine pw_loopS (α := Int) (l0 := ?l1) (m0 := ?m1) (fun x => [(13, .d (.int .i64 x))]) (fun x => []) (fun x => 0 ≤ x ∧ x ≤ xs.length ∧ xs.take x.toNat = ys.take x.toNat) (fun x => (xs.length - x).toNat) ?a1_0 ?h01 ?he1 ?he21 ?hI1 ?step1
    case h01 => (simp -implicitDefEqProofs only [go_sem]; rfl)
    case he1 => rfl
    case he21 => rfl
    case' step1 => (rintro i hI; try dsimp only at hI)
    case' hI1 => try dsimp only
    · simp
    · obtain ⟨hi0, hi1, heq⟩ := hI
      by_cases hi : i < xs.length
      · have hx := take_get (xs := xs) (i := i.toNat) (by omega)
        have hy := take_get (xs := ys) (i := i.toNat) (by omega)
        have hii : (i + 1).toNat = i.toNat + 1 := by omega
        by_cases he : xs[i.toNat]?.getD 0 = ys[i.toNat]?.getD 0
        · (try (simp -implicitDefEqProofs only [go_sem])); repeat' first | with_reducible exact True.intro | with_reducible refine And.intro ?_ ?_ | with_reducible intro _ | (((with_reducible refine vc_b ?_ ?_) <;> intro _) <;> try (simp -implicitDefEqProofs only [go_sem])) | simp (disch := omega) only [wrapI, wrapU, shl1, shl1', shl1'', shrN, shrN', and_one] | ((with_reducible refine isEx8 ?_); refine ⟨(_, _, _, _, _, _, _, _), rfl, ?_, ?_⟩) | ((with_reducible refine isEx7 ?_); refine ⟨(_, _, _, _, _, _, _), rfl, ?_, ?_⟩) | ((with_reducible refine isEx6 ?_); refine ⟨(_, _, _, _, _, _), rfl, ?_, ?_⟩) | ((with_reducible refine isEx5 ?_); refine ⟨(_, _, _, _, _), rfl, ?_, ?_⟩) | ((with_reducible refine isEx4 ?_); refine ⟨(_, _, _, _), rfl, ?_, ?_⟩) | ((with_reducible refine isEx3 ?_); refine ⟨(_, _, _), rfl, ?_, ?_⟩) | ((with_reducible refine isEx2 ?_); refine ⟨(_, _), rfl, ?_, ?_⟩) | ((with_reducible refine isEx ?_); refine ⟨_, rfl, ?_, ?_⟩)
          all_goals (try simp (disch := omega) only [wrapI, wrapU, shl1, shl1', shl1'', shrN, shrN', and_one] at *)
          all_goals first | omega | (simp; done) | (simp; omega) | skip
          all_goals (rw [hii, hx, hy, heq, he])
        · have hne : ¬ xs = ys := fun e => he (by rw [e])
          (try (simp -implicitDefEqProofs only [go_sem])); repeat' first | with_reducible exact True.intro | with_reducible refine And.intro ?_ ?_ | with_reducible intro _ | (((with_reducible refine vc_b ?_ ?_) <;> intro _) <;> try (simp -implicitDefEqProofs only [go_sem])) | simp (disch := omega) only [wrapI, wrapU, shl1, shl1', shl1'', shrN, shrN', and_one] | ((with_reducible refine isEx8 ?_); refine ⟨(_, _, _, _, _, _, _, _), rfl, ?_, ?_⟩) | ((with_reducible refine isEx7 ?_); refine ⟨(_, _, _, _, _, _, _), rfl, ?_, ?_⟩) | ((with_reducible refine isEx6 ?_); refine ⟨(_, _, _, _, _, _), rfl, ?_, ?_⟩) | ((with_reducible refine isEx5 ?_); refine ⟨(_, _, _, _, _), rfl, ?_, ?_⟩) | ((with_reducible refine isEx4 ?_); refine ⟨(_, _, _, _), rfl, ?_, ?_⟩) | ((with_reducible refine isEx3 ?_); refine ⟨(_, _, _), rfl, ?_, ?_⟩) | ((with_reducible refine isEx2 ?_); refine ⟨(_, _), rfl, ?_, ?_⟩) | ((with_reducible refine isEx ?_); refine ⟨_, rfl, ?_, ?_⟩)
          all_goals first | omega | (simp; done) | (simp; omega) | skip
          all_goals first | (exfalso; omega) | simp [hne]
      · have hxy : xs = ys := by
          have h1 : xs.take i.toNat = xs := List.take_of_length_le (by omega)
          have h2 : ys.take i.toNat = ys := List.take_of_length_le (by omega)
          rw [← h1, heq, h2]
        (try (simp -implicitDefEqProofs only [go_sem])); repeat' first | with_reducible exact True.intro | with_reducible refine And.intro ?_ ?_ | with_reducible intro _ | (((with_reducible refine vc_b ?_ ?_) <;> intro _) <;> try (simp -implicitDefEqProofs only [go_sem])) | simp (disch := omega) only [wrapI, wrapU, shl1, shl1', shl1'', shrN, shrN', and_one] | ((with_reducible refine isEx8 ?_); refine ⟨(_, _, _, _, _, _, _, _), rfl, ?_, ?_⟩) | ((with_reducible refine isEx7 ?_); refine ⟨(_, _, _, _, _, _, _), rfl, ?_, ?_⟩) | ((with_reducible refine isEx6 ?_); refine ⟨(_, _, _, _, _, _), rfl, ?_, ?_⟩) | ((with_reducible refine isEx5 ?_); refine ⟨(_, _, _, _, _), rfl, ?_, ?_⟩) | ((with_reducible refine isEx4 ?_); refine ⟨(_, _, _, _), rfl, ?_, ?_⟩) | ((with_reducible refine isEx3 ?_); refine ⟨(_, _, _), rfl, ?_, ?_⟩) | ((with_reducible refine isEx2 ?_); refine ⟨(_, _), rfl, ?_, ?_⟩) | ((with_reducible refine isEx ?_); refine ⟨_, rfl, ?_, ?_⟩)
        all_goals first | omega | (simp; done) | (simp; omega) | skip
        all_goals simp [hxy]
  · have hne : ¬ xs = ys := fun e => hl (by rw [e])
    (try (simp -implicitDefEqProofs only [go_sem])); repeat' first | with_reducible exact True.intro | with_reducible refine And.intro ?_ ?_ | with_reducible intro _ | (((with_reducible refine vc_b ?_ ?_) <;> intro _) <;> try (simp -implicitDefEqProofs only [go_sem])) | simp (disch := omega) only [wrapI, wrapU, shl1, shl1', shl1'', shrN, shrN', and_one] | ((with_reducible refine isEx8 ?_); refine ⟨(_, _, _, _, _, _, _, _), rfl, ?_, ?_⟩) | ((with_reducible refine isEx7 ?_); refine ⟨(_, _, _, _, _, _, _), rfl, ?_, ?_⟩) | ((with_reducible refine isEx6 ?_); refine ⟨(_, _, _, _, _, _), rfl, ?_, ?_⟩) | ((with_reducible refine isEx5 ?_); refine ⟨(_, _, _, _, _), rfl, ?_, ?_⟩) | ((with_reducible refine isEx4 ?_); refine ⟨(_, _, _, _), rfl, ?_, ?_⟩) | ((with_reducible refine isEx3 ?_); refine ⟨(_, _, _), rfl, ?_, ?_⟩) | ((with_reducible refine isEx2 ?_); refine ⟨(_, _), rfl, ?_, ?_⟩) | ((with_reducible refine isEx ?_); refine ⟨_, rfl, ?_, ?_⟩)
    all_goals first | (exfalso; omega) | simp [hne]

theorem codes_code_decode_ret (c : GCode) (h : c.ok = true) (nb : Bool) (bits : List Int) (hlen : bits.length ≤ 120) : ∀ (k : Nat) (s p : Int) (m : Memo), c.isState s = true → 0 ≤ p → (p + k) * c.out = bits.length → p + k ≤ 24 → c.Tab m →
    CallM E0 F_codes_code_decode [(900003, 0, .map tyP (memD m))] [.d (codeD c), .d (.agg [.int .i64 s, .int .i64 p]), .d (.list nb (ints bits)), .map 900003 0] [(900003, 0, .map tyP (memD (c.decM bits k s p m).2))]
      (.tup [.d (optL (c.decM bits k s p m).1), .d (.bool (c.decM bits k s p m).1.isSome)]) := by
  intro k
  have hd := GCode.ok_head h
  induction k with
  | zero =>
    intro s p m hs h0 hp h24 ht
    refine callM_of_pw dec_codes_code_decode mixed (by simp) (by simp [okV0, nodupB, lim]) (by simp [hasN]) fun hwf hwo => ?_
    rw [enterM_eq]; unfold pc_codes_code_decode
    have hp' : p * c.out = bits.length := by simpa using hp
    have hw : IntKind.i64.wrap (p * c.out) = bits.length := by rw [hp']; exact wrapI _ (by omega)
    (try (simp -implicitDefEqProofs only [go_sem, GCode.decM, codeD_eq, codeC_eq, rowsD_eq, hw, optL_some, ints_nil, Option.isSome_some])); repeat' first | with_reducible exact True.intro | with_reducible refine And.intro ?_ ?_ | with_reducible intro _ | (((with_reducible refine vc_b ?_ ?_) <;> intro _) <;> try (simp -implicitDefEqProofs only [go_sem, GCode.decM, codeD_eq, codeC_eq, rowsD_eq, hw, optL_some, ints_nil, Option.isSome_some])) | simp (disch := omega) only [wrapI, wrapU, shl1, shl1', shl1'', shrN, shrN', and_one] | ((with_reducible refine isEx8 ?_); refine ⟨(_, _, _, _, _, _, _, _), rfl, ?_, ?_⟩) | ((with_reducible refine isEx7 ?_); refine ⟨(_, _, _, _, _, _, _), rfl, ?_, ?_⟩) | ((with_reducible refine isEx6 ?_); refine ⟨(_, _, _, _, _, _), rfl, ?_, ?_⟩) | ((with_reducible refine isEx5 ?_); refine ⟨(_, _, _, _, _), rfl, ?_, ?_⟩) | ((with_reducible refine isEx4 ?_); refine ⟨(_, _, _, _), rfl, ?_, ?_⟩) | ((with_reducible refine isEx3 ?_); refine ⟨(_, _, _), rfl, ?_, ?_⟩) | ((with_reducible refine isEx2 ?_); refine ⟨(_, _), rfl, ?_, ?_⟩) | ((with_reducible refine isEx ?_); refine ⟨_, rfl, ?_, ?_⟩)
    all_goals (exfalso; simp_all; done)
  | succ k ih =>
    intro s p m hs h0 hp h24 ht
    obtain ⟨Q, hQ⟩ : ∃ Q, p * c.out = Q := ⟨_, rfl⟩
    have hexp : (p + ((k + 1 : Nat) : Int)) * c.out = Q + c.out + k * c.out := by
      rw [← hQ, Int.add_mul]; simp [Int.add_mul]; omega
    have hko : 0 ≤ (k : Int) * c.out := Int.mul_nonneg (by omega) (by omega)
    have hQ0 : 0 ≤ Q := by rw [← hQ]; exact Int.mul_nonneg h0 (by omega)
    rw [hexp] at hp
    have hp2 : (p + 1 + (k : Int)) * c.out = bits.length := by
      rw [show p + 1 + (k : Int) = p + ((k + 1 : Nat) : Int) by omega, hexp, hp]
    have h12 := pow_12 (b := c.bits) (by omega)
    have hWe := GCode.W_eq' c
    have hWb : c.W ≤ 4 := by simp only [GCode.W]; omega
    have hs' := hs
    simp only [GCode.isState, inR, decide_eq_true_eq] at hs'
    have hrow := GCode.ok_next h s.toNat (by omega)
    have hnc : ((2 ^ c.bits.toNat : Nat) : Int) = 2 ^ c.bits.toNat := by simp
    have hwQ : IntKind.i64.wrap (p * c.out) = Q := by rw [hQ]; exact wrapI _ (by omega)
    have hwp : IntKind.i64.wrap (p + 1) = p + 1 := wrapI _ (by omega)
    refine callM_of_pw dec_codes_code_decode mixed (by simp) (by simp [okV0, nodupB, lim]) (by simp [hasN]) fun hwf hwo => ?_
    rw [enterM_eq]; unfold pc_codes_code_decode
    obtain ⟨own, hown⟩ : ∃ own, (bits.drop Q.toNat).take c.out.toNat = own := ⟨_, rfl⟩
    obtain ⟨G, hG⟩ : ∃ G, c.decW (fun s' m' => c.decM bits k s' (p + 1) m') s own c.W 0 m = G := ⟨_, rfl⟩
    have hgoal : c.decM bits (k + 1) s p m = if lookM (s, p) m = none then (match G.1 with
        | some l => (some l, G.2)
        | none => (none, G.2 ++ [((s, p), 1)])) else (none, m) := by
      simp only [GCode.decM, hQ, hown, hG]
    generalize c.decM bits (k + 1) s p m = R at hgoal
    cases hlk : lookM (s, p) m with
    | some v =>
      have hv := (ht.2 _ (lookM_mem hlk)).1
      simp only at hv
      subst hv
      simp only [hlk, reduceCtorEq, if_false] at hgoal
      subst hgoal
      (try (simp -implicitDefEqProofs only [go_sem, codeD_eq, codeC_eq, rowsD_eq, hwQ, lookK_mem', hlk, optL_none, Option.isSome_none])); repeat' first | with_reducible exact True.intro | with_reducible refine And.intro ?_ ?_ | with_reducible intro _ | (((with_reducible refine vc_b ?_ ?_) <;> intro _) <;> try (simp -implicitDefEqProofs only [go_sem, codeD_eq, codeC_eq, rowsD_eq, hwQ, lookK_mem', hlk, optL_none, Option.isSome_none])) | simp (disch := omega) only [wrapI, wrapU, shl1, shl1', shl1'', shrN, shrN', and_one] | ((with_reducible refine isEx8 ?_); refine ⟨(_, _, _, _, _, _, _, _), rfl, ?_, ?_⟩) | ((with_reducible refine isEx7 ?_); refine ⟨(_, _, _, _, _, _, _), rfl, ?_, ?_⟩) | ((with_reducible refine isEx6 ?_); refine ⟨(_, _, _, _, _, _), rfl, ?_, ?_⟩) | ((with_reducible refine isEx5 ?_); refine ⟨(_, _, _, _, _), rfl, ?_, ?_⟩) | ((with_reducible refine isEx4 ?_); refine ⟨(_, _, _, _), rfl, ?_, ?_⟩) | ((with_reducible refine isEx3 ?_); refine ⟨(_, _, _), rfl, ?_, ?_⟩) | ((with_reducible refine isEx2 ?_); refine ⟨(_, _), rfl, ?_, ?_⟩) | ((with_reducible refine isEx ?_); refine ⟨_, rfl, ?_, ?_⟩)
      all_goals first | omega | (simp; done) | (simp; omega) | skip
    | none =>
      simp only [hlk, if_true] at hgoal
      have htG := decW_tab c h (own := own) hs (rec := fun s' m' => c.decM bits k s' (p + 1) m') (p := p) (fun s' m' hs' ht' => decM_tab c h bits k s' (p + 1) m' hs' (by omega) (by omega) ht') c.W 0 m (by omega) (by omega) ht
      rw [hG] at htG
      (try (simp -implicitDefEqProofs only [go_sem, codeD_eq, codeC_eq, rowsD_eq, hwQ, lookK_mem', hlk, Option.map_none, hown])); repeat' first | with_reducible exact True.intro | with_reducible refine And.intro ?_ ?_ | with_reducible intro _ | (((with_reducible refine isCall ?_); first | refine call_b (codes_code_words_ret c (by omega)) rfl ?_ ?_ | refine call_d (codes_code_words_ret c (by omega)) rfl ?_ | refine call_sb (codes_code_words_ret c (by omega)) rfl ?_ ?_ | refine call_s (codes_code_words_ret c (by omega)) rfl rfl ?_) <;> try (simp -implicitDefEqProofs only [go_sem, codeD_eq, codeC_eq, rowsD_eq, hwQ, lookK_mem', hlk, Option.map_none, hown])) | (((with_reducible refine vc_b ?_ ?_) <;> intro _) <;> try (simp -implicitDefEqProofs only [go_sem, codeD_eq, codeC_eq, rowsD_eq, hwQ, lookK_mem', hlk, Option.map_none, hown])) | simp (disch := omega) only [wrapI, wrapU, shl1, shl1', shl1'', shrN, shrN', and_one] | ((with_reducible refine isEx8 ?_); refine ⟨(_, _, _, _, _, _, _, _), rfl, ?_, ?_⟩) | ((with_reducible refine isEx7 ?_); refine ⟨(_, _, _, _, _, _, _), rfl, ?_, ?_⟩) | ((with_reducible refine isEx6 ?_); refine ⟨(_, _, _, _, _, _), rfl, ?_, ?_⟩) | ((with_reducible refine isEx5 ?_); refine ⟨(_, _, _, _, _), rfl, ?_, ?_⟩) | ((with_reducible refine isEx4 ?_); refine ⟨(_, _, _, _), rfl, ?_, ?_⟩) | ((with_reducible refine isEx3 ?_); refine ⟨(_, _, _), rfl, ?_, ?_⟩) | ((with_reducible refine isEx2 ?_); refine ⟨(_, _), rfl, ?_, ?_⟩) | ((with_reducible refine isEx ?_); refine ⟨_, rfl, ?_, ?_⟩)
      all_goals first | omega | (simp; done) | (simp; omega) | skip
      refine pw_loopS (α := Int × Memo) (l0 := ?l2) (m0 := ?m2) (fun x => [(42, .d (.int .i64 x.1))]) (fun x => [(900003, .map tyP (memD x.2))]) (fun x => 0 ≤ x.1 ∧ x.1 ≤ c.W ∧ c.Tab x.2 ∧ c.decW (fun s' m' => c.decM bits k s' (p + 1) m') s own (c.W - x.1.toNat) x.1 x.2 = G) (fun x => (c.W - x.1).toNat) (?a2_0, m) ?h02 ?he2 ?he22 ?hI2 ?step2
      case h02 => (simp -implicitDefEqProofs only [go_sem]; rfl)
      case he2 => rfl
      case he22 => rfl
      case' step2 => (rintro ⟨w, mm⟩ hI; try dsimp only at hI)
      case' hI2 => try dsimp only
      · exact ⟨by omega, by omega, ht, hG⟩
      · obtain ⟨hw0, hwW, htm, heq⟩ := hI
        by_cases hw : w < c.W
        · have hiw : c.isWord w = true := by simp only [GCode.isWord, inR, decide_eq_true_eq]; rw [hWe] at hw; omega
          have hst := GCode.nxt_state h hs hiw
          have cb := codes_code_bits_ret c s w h hs hiw
          have hstep : c.decW (fun s' m' => c.decM bits k s' (p + 1) m') s own (c.W - w.toNat) w mm = if own = bitsOf c.out.toNat (c.wrd s w) then
              match (c.decM bits k (c.nxt s w) (p + 1) mm).1 with
              | some l => (some (w :: l), (c.decM bits k (c.nxt s w) (p + 1) mm).2)
              | none => c.decW (fun s' m' => c.decM bits k s' (p + 1) m') s own (c.W - (w + 1).toNat) (w + 1) (c.decM bits k (c.nxt s w) (p + 1) mm).2
            else c.decW (fun s' m' => c.decM bits k s' (p + 1) m') s own (c.W - (w + 1).toNat) (w + 1) mm := by
            rw [show c.W - w.toNat = (c.W - (w + 1).toNat) + 1 by omega]
            simp only [GCode.decW]
          rw [hstep] at heq
          clear hstep
          have ci := ih (c.nxt s w) (p + 1) mm hst (by omega) hp2 (by omega) htm
          have hti := (decM_tab c h bits k (c.nxt s w) (p + 1) mm hst (by omega) (by omega) htm).1
          generalize hR0 : c.decM bits k (c.nxt s w) (p + 1) mm = R0 at *
          obtain ⟨o0, m0⟩ := R0
          dsimp only at ci hti heq
          have hop := fun n1 n2 => codes_Equal_ret n1 n2 own (bitsOf c.out.toNat (c.wrd s w))
          by_cases he : own = bitsOf c.out.toNat (c.wrd s w)
          · rw [if_pos he] at heq
            simp only [decide_eq_true he] at hop
            cases o0 with
            | some l =>
              dsimp only at heq
              subst heq
              dsimp only at hgoal
              subst hgoal
              (try (simp -implicitDefEqProofs only [go_sem, codeD_eq, codeC_eq, rowsD_eq, rowD_eq, c.nxt_eq, hwp, optL_some, Option.isSome_some])); repeat' first | with_reducible exact True.intro | with_reducible refine And.intro ?_ ?_ | with_reducible intro _ | (((with_reducible refine isCall ?_); first | refine call_b (cb) rfl ?_ ?_ | refine call_d (cb) rfl ?_ | refine call_sb (cb) rfl ?_ ?_ | refine call_s (cb) rfl rfl ?_ | refine call_b (hop _ _) rfl ?_ ?_ | refine call_d (hop _ _) rfl ?_ | refine call_sb (hop _ _) rfl ?_ ?_ | refine call_s (hop _ _) rfl rfl ?_ | (refine call_m ([((900003, 0), (900003, 0))]) ([((900003, 0), (900003, 0))]) (ci) (by repeat' first | exact True.intro | exact rfl | refine And.intro ?_ ?_) (by simp [Handed, Ren.get, AObj.ren, AV.ren, AV.ren.renL, View.get, lookO, callF, newS, View.reach, AV.sites, AV.sites.sitesL, View.osites]) (by simp [namesOk, hasN, nodupB, Ren.get, newS, lim, upd]) (by rfl) (by simp only [backC, Ren.get, AObj.ren, AV.ren, AV.ren.renL, and_self, and_true, true_and, if_true, reduceIte]; rfl) ?_)) <;> try (simp -implicitDefEqProofs only [go_sem, codeD_eq, codeC_eq, rowsD_eq, rowD_eq, c.nxt_eq, hwp, optL_some, Option.isSome_some])) | (((with_reducible refine vc_b ?_ ?_) <;> intro _) <;> try (simp -implicitDefEqProofs only [go_sem, codeD_eq, codeC_eq, rowsD_eq, rowD_eq, c.nxt_eq, hwp, optL_some, Option.isSome_some])) | simp (disch := omega) only [wrapI, wrapU, shl1, shl1', shl1'', shrN, shrN', and_one] | ((with_reducible refine isEx8 ?_); refine ⟨(_, _, _, _, _, _, _, _), rfl, ?_, ?_⟩) | ((with_reducible refine isEx7 ?_); refine ⟨(_, _, _, _, _, _, _), rfl, ?_, ?_⟩) | ((with_reducible refine isEx6 ?_); refine ⟨(_, _, _, _, _, _), rfl, ?_, ?_⟩) | ((with_reducible refine isEx5 ?_); refine ⟨(_, _, _, _, _), rfl, ?_, ?_⟩) | ((with_reducible refine isEx4 ?_); refine ⟨(_, _, _, _), rfl, ?_, ?_⟩) | ((with_reducible refine isEx3 ?_); refine ⟨(_, _, _), rfl, ?_, ?_⟩) | ((with_reducible refine isEx2 ?_); refine ⟨(_, _), rfl, ?_, ?_⟩) | ((with_reducible refine isEx ?_); refine ⟨_, rfl, ?_, ?_⟩)
              all_goals first | omega | (simp; done) | (simp; omega) | skip
              · have := decM_len c bits k (c.nxt s w) (p + 1) mm l (by rw [hR0])
                omega
              · rename_i hl0; subst hl0; rfl
              · rfl
            | none =>
              dsimp only at heq
              (try (simp -implicitDefEqProofs only [go_sem, codeD_eq, codeC_eq, rowsD_eq, rowD_eq, c.nxt_eq, hwp, optL_none, Option.isSome_none])); repeat' first | with_reducible exact True.intro | with_reducible refine And.intro ?_ ?_ | with_reducible intro _ | (((with_reducible refine isCall ?_); first | refine call_b (cb) rfl ?_ ?_ | refine call_d (cb) rfl ?_ | refine call_sb (cb) rfl ?_ ?_ | refine call_s (cb) rfl rfl ?_ | refine call_b (hop _ _) rfl ?_ ?_ | refine call_d (hop _ _) rfl ?_ | refine call_sb (hop _ _) rfl ?_ ?_ | refine call_s (hop _ _) rfl rfl ?_ | (refine call_m ([((900003, 0), (900003, 0))]) ([((900003, 0), (900003, 0))]) (ci) (by repeat' first | exact True.intro | exact rfl | refine And.intro ?_ ?_) (by simp [Handed, Ren.get, AObj.ren, AV.ren, AV.ren.renL, View.get, lookO, callF, newS, View.reach, AV.sites, AV.sites.sitesL, View.osites]) (by simp [namesOk, hasN, nodupB, Ren.get, newS, lim, upd]) (by rfl) (by simp only [backC, Ren.get, AObj.ren, AV.ren, AV.ren.renL, and_self, and_true, true_and, if_true, reduceIte]; rfl) ?_)) <;> try (simp -implicitDefEqProofs only [go_sem, codeD_eq, codeC_eq, rowsD_eq, rowD_eq, c.nxt_eq, hwp, optL_none, Option.isSome_none])) | (((with_reducible refine vc_b ?_ ?_) <;> intro _) <;> try (simp -implicitDefEqProofs only [go_sem, codeD_eq, codeC_eq, rowsD_eq, rowD_eq, c.nxt_eq, hwp, optL_none, Option.isSome_none])) | simp (disch := omega) only [wrapI, wrapU, shl1, shl1', shl1'', shrN, shrN', and_one] | ((with_reducible refine isEx8 ?_); refine ⟨(_, _, _, _, _, _, _, _), rfl, ?_, ?_⟩) | ((with_reducible refine isEx7 ?_); refine ⟨(_, _, _, _, _, _, _), rfl, ?_, ?_⟩) | ((with_reducible refine isEx6 ?_); refine ⟨(_, _, _, _, _, _), rfl, ?_, ?_⟩) | ((with_reducible refine isEx5 ?_); refine ⟨(_, _, _, _, _), rfl, ?_, ?_⟩) | ((with_reducible refine isEx4 ?_); refine ⟨(_, _, _, _), rfl, ?_, ?_⟩) | ((with_reducible refine isEx3 ?_); refine ⟨(_, _, _), rfl, ?_, ?_⟩) | ((with_reducible refine isEx2 ?_); refine ⟨(_, _), rfl, ?_, ?_⟩) | ((with_reducible refine isEx ?_); refine ⟨_, rfl, ?_, ?_⟩)
              all_goals (try simp (disch := omega) only [wrapI, wrapU, shl1, shl1', shl1'', shrN, shrN', and_one] at *)
              all_goals first | omega | (simp; done) | (simp; omega) | skip
              all_goals first | exact hti | exact heq | (simp_all; done) | skip
          · rw [if_neg he] at heq
            simp only [decide_eq_false he] at hop
            (try (simp -implicitDefEqProofs only [go_sem, codeD_eq, codeC_eq, rowsD_eq, rowD_eq, c.nxt_eq, hwp])); repeat' first | with_reducible exact True.intro | with_reducible refine And.intro ?_ ?_ | with_reducible intro _ | (((with_reducible refine isCall ?_); first | refine call_b (cb) rfl ?_ ?_ | refine call_d (cb) rfl ?_ | refine call_sb (cb) rfl ?_ ?_ | refine call_s (cb) rfl rfl ?_ | refine call_b (hop _ _) rfl ?_ ?_ | refine call_d (hop _ _) rfl ?_ | refine call_sb (hop _ _) rfl ?_ ?_ | refine call_s (hop _ _) rfl rfl ?_) <;> try (simp -implicitDefEqProofs only [go_sem, codeD_eq, codeC_eq, rowsD_eq, rowD_eq, c.nxt_eq, hwp])) | (((with_reducible refine vc_b ?_ ?_) <;> intro _) <;> try (simp -implicitDefEqProofs only [go_sem, codeD_eq, codeC_eq, rowsD_eq, rowD_eq, c.nxt_eq, hwp])) | simp (disch := omega) only [wrapI, wrapU, shl1, shl1', shl1'', shrN, shrN', and_one] | ((with_reducible refine isEx8 ?_); refine ⟨(_, _, _, _, _, _, _, _), rfl, ?_, ?_⟩) | ((with_reducible refine isEx7 ?_); refine ⟨(_, _, _, _, _, _, _), rfl, ?_, ?_⟩) | ((with_reducible refine isEx6 ?_); refine ⟨(_, _, _, _, _, _), rfl, ?_, ?_⟩) | ((with_reducible refine isEx5 ?_); refine ⟨(_, _, _, _, _), rfl, ?_, ?_⟩) | ((with_reducible refine isEx4 ?_); refine ⟨(_, _, _, _), rfl, ?_, ?_⟩) | ((with_reducible refine isEx3 ?_); refine ⟨(_, _, _), rfl, ?_, ?_⟩) | ((with_reducible refine isEx2 ?_); refine ⟨(_, _), rfl, ?_, ?_⟩) | ((with_reducible refine isEx ?_); refine ⟨_, rfl, ?_, ?_⟩)
            all_goals (try simp (disch := omega) only [wrapI, wrapU, shl1, shl1', shl1'', shrN, shrN', and_one] at *)
            all_goals first | omega | (simp; done) | (simp; omega) | skip
            all_goals first | exact htm | exact heq | (simp_all; done) | skip
        · have hz : c.W - w.toNat = 0 := by omega
          rw [hz, GCode.decW] at heq
          subst heq
          dsimp only at hgoal htG
          subst hgoal
          have hno : lookM (s, p) mm = none := lookM_of_no fun v hv => by
            rcases htG.2 _ hv with hv | hv
            · rcases lookM_none hlk v with h | h
              · cases h
              · exact h hv
            · simp only at hv; omega
          have hml := htm.len h
          have hk0 : lookK (.agg [.int .i64 s, .int .i64 p]) (memD mm) = none := by rw [lookK_mem', hno]; rfl
          have hk1 := idxK_none hk0
          have hk2 := lookK_snoc (v := .int .i64 0) hk0 ((keyEq_pair' (s, p) (s, p)).trans (by simp))
          have hg := get_snoc (memD mm) (.agg [.int .i64 s, .int .i64 p], .int .i64 0)
          have hst2 := (set_snoc (memD mm) (.agg [.int .i64 s, .int .i64 p], .int .i64 0) (.agg [.int .i64 s, .int .i64 p], .int .i64 1)).trans (memD_snoc mm s p 1)
          have hw1 : IntKind.i64.wrap 1 = 1 := wrapI 1 (by omega)
          (try (simp -implicitDefEqProofs only [go_sem, codeD_eq, codeC_eq, rowsD_eq, hk0, hk1, hk2, hg, hst2, hw1, optL_none, Option.isSome_none])); repeat' first | with_reducible exact True.intro | with_reducible refine And.intro ?_ ?_ | with_reducible intro _ | (((with_reducible refine vc_b ?_ ?_) <;> intro _) <;> try (simp -implicitDefEqProofs only [go_sem, codeD_eq, codeC_eq, rowsD_eq, hk0, hk1, hk2, hg, hst2, hw1, optL_none, Option.isSome_none])) | simp (disch := omega) only [wrapI, wrapU, shl1, shl1', shl1'', shrN, shrN', and_one] | ((with_reducible refine isEx8 ?_); refine ⟨(_, _, _, _, _, _, _, _), rfl, ?_, ?_⟩) | ((with_reducible refine isEx7 ?_); refine ⟨(_, _, _, _, _, _, _), rfl, ?_, ?_⟩) | ((with_reducible refine isEx6 ?_); refine ⟨(_, _, _, _, _, _), rfl, ?_, ?_⟩) | ((with_reducible refine isEx5 ?_); refine ⟨(_, _, _, _, _), rfl, ?_, ?_⟩) | ((with_reducible refine isEx4 ?_); refine ⟨(_, _, _, _), rfl, ?_, ?_⟩) | ((with_reducible refine isEx3 ?_); refine ⟨(_, _, _), rfl, ?_, ?_⟩) | ((with_reducible refine isEx2 ?_); refine ⟨(_, _), rfl, ?_, ?_⟩) | ((with_reducible refine isEx ?_); refine ⟨_, rfl, ?_, ?_⟩)
          all_goals first | omega | exact hst2 | (rw [memD_len]; omega) | skip

/-- What Decode returns. -/
def GCode.decR (c : GCode) (s : Int) (bits : List Int) : Option (List Int) × Int :=
  if !c.ok then (none, 40) else if !c.isState s then (none, 41)
  else if !(areBits bits && decide ((bits.length : Int).tmod c.out = 0) && decide ((bits.length : Int) ≤ c.out * 24)) then (none, 1)
  else match (c.decM bits (bits.length / c.out.toNat) s 0 []).1 with
    | some l => (some l, 0)
    | none => (none, 3)

theorem codes_Decode_ret (c : GCode) (s : Int) (nb : Bool) (bits : List Int) : Ret E0 F_codes_Decode [codeD c, .int .i64 s, .list nb (ints bits)] (.tup [optL (c.decR s bits).1, .int .i64 (c.decR s bits).2]) := by
  refine ret_of_pw dec_codes_Decode mixed (by simp) fun hwf => ?_
  simp only [wf_int, wf_bool, wf_ints, wf_list, wf_agg, wf_ptr, wf_fn, wf_tup, wf_all_cons, wf_all_nil, wf_all_map, inK_i64, maxLen_eq, List.length_map, ints_len, true_and, and_true, codeD_eq, codeC_eq, rowsD_eq] at hwf
  rw [enter_eq]; unfold pc_codes_Decode
  cases hok : c.ok with
  | false =>
    have hr : c.decR s bits = (none, 40) := by simp [GCode.decR, hok]
    rw [hr]
    (try (simp -implicitDefEqProofs only [go_sem, codeD_eq, codeC_eq, rowsD_eq, optL_none])); repeat' first | with_reducible exact True.intro | with_reducible refine And.intro ?_ ?_ | with_reducible intro _ | (((with_reducible refine isCall ?_); first | refine call_b (codes_open_ret c s) rfl ?_ ?_ | refine call_d (codes_open_ret c s) rfl ?_ | refine call_sb (codes_open_ret c s) rfl ?_ ?_ | refine call_s (codes_open_ret c s) rfl rfl ?_) <;> try (simp -implicitDefEqProofs only [go_sem, codeD_eq, codeC_eq, rowsD_eq, optL_none])) | (((with_reducible refine vc_b ?_ ?_) <;> intro _) <;> try (simp -implicitDefEqProofs only [go_sem, codeD_eq, codeC_eq, rowsD_eq, optL_none])) | simp (disch := omega) only [wrapI, wrapU, shl1, shl1', shl1'', shrN, shrN', and_one] | ((with_reducible refine isEx8 ?_); refine ⟨(_, _, _, _, _, _, _, _), rfl, ?_, ?_⟩) | ((with_reducible refine isEx7 ?_); refine ⟨(_, _, _, _, _, _, _), rfl, ?_, ?_⟩) | ((with_reducible refine isEx6 ?_); refine ⟨(_, _, _, _, _, _), rfl, ?_, ?_⟩) | ((with_reducible refine isEx5 ?_); refine ⟨(_, _, _, _, _), rfl, ?_, ?_⟩) | ((with_reducible refine isEx4 ?_); refine ⟨(_, _, _, _), rfl, ?_, ?_⟩) | ((with_reducible refine isEx3 ?_); refine ⟨(_, _, _), rfl, ?_, ?_⟩) | ((with_reducible refine isEx2 ?_); refine ⟨(_, _), rfl, ?_, ?_⟩) | ((with_reducible refine isEx ?_); refine ⟨_, rfl, ?_, ?_⟩)
    all_goals simp_all
  | true =>
  cases hst : c.isState s with
  | false =>
    have hr : c.decR s bits = (none, 41) := by simp [GCode.decR, hok, hst]
    rw [hr]
    (try (simp -implicitDefEqProofs only [go_sem, codeD_eq, codeC_eq, rowsD_eq, optL_none])); repeat' first | with_reducible exact True.intro | with_reducible refine And.intro ?_ ?_ | with_reducible intro _ | (((with_reducible refine isCall ?_); first | refine call_b (codes_open_ret c s) rfl ?_ ?_ | refine call_d (codes_open_ret c s) rfl ?_ | refine call_sb (codes_open_ret c s) rfl ?_ ?_ | refine call_s (codes_open_ret c s) rfl rfl ?_) <;> try (simp -implicitDefEqProofs only [go_sem, codeD_eq, codeC_eq, rowsD_eq, optL_none])) | (((with_reducible refine vc_b ?_ ?_) <;> intro _) <;> try (simp -implicitDefEqProofs only [go_sem, codeD_eq, codeC_eq, rowsD_eq, optL_none])) | simp (disch := omega) only [wrapI, wrapU, shl1, shl1', shl1'', shrN, shrN', and_one] | ((with_reducible refine isEx8 ?_); refine ⟨(_, _, _, _, _, _, _, _), rfl, ?_, ?_⟩) | ((with_reducible refine isEx7 ?_); refine ⟨(_, _, _, _, _, _, _), rfl, ?_, ?_⟩) | ((with_reducible refine isEx6 ?_); refine ⟨(_, _, _, _, _, _), rfl, ?_, ?_⟩) | ((with_reducible refine isEx5 ?_); refine ⟨(_, _, _, _, _), rfl, ?_, ?_⟩) | ((with_reducible refine isEx4 ?_); refine ⟨(_, _, _, _), rfl, ?_, ?_⟩) | ((with_reducible refine isEx3 ?_); refine ⟨(_, _, _), rfl, ?_, ?_⟩) | ((with_reducible refine isEx2 ?_); refine ⟨(_, _), rfl, ?_, ?_⟩) | ((with_reducible refine isEx ?_); refine ⟨_, rfl, ?_, ?_⟩)
    all_goals simp_all
  | true =>
  have hd := GCode.ok_head hok
  have co := codes_open_ret c s
  simp only [hok, hst, Bool.not_true, Bool.false_eq_true, if_false] at co
  have hw24 : IntKind.i64.wrap (c.out * 24) = c.out * 24 := wrapI _ (by omega)
  cases hg : (areBits bits && decide ((bits.length : Int).tmod c.out = 0) && decide ((bits.length : Int) ≤ c.out * 24)) with
  | false =>
    have hr : c.decR s bits = (none, 1) := by simp only [GCode.decR, hok, hst, hg]; rfl
    rw [hr]
    (try (simp -implicitDefEqProofs only [go_sem, codeD_eq, codeC_eq, rowsD_eq, optL_none, hw24])); repeat' first | with_reducible exact True.intro | with_reducible refine And.intro ?_ ?_ | with_reducible intro _ | (((with_reducible refine isCall ?_); first | refine call_b (co) rfl ?_ ?_ | refine call_d (co) rfl ?_ | refine call_sb (co) rfl ?_ ?_ | refine call_s (co) rfl rfl ?_ | refine call_b (codes_are_ret nb bits) rfl ?_ ?_ | refine call_d (codes_are_ret nb bits) rfl ?_ | refine call_sb (codes_are_ret nb bits) rfl ?_ ?_ | refine call_s (codes_are_ret nb bits) rfl rfl ?_) <;> try (simp -implicitDefEqProofs only [go_sem, codeD_eq, codeC_eq, rowsD_eq, optL_none, hw24])) | (((with_reducible refine vc_b ?_ ?_) <;> intro _) <;> try (simp -implicitDefEqProofs only [go_sem, codeD_eq, codeC_eq, rowsD_eq, optL_none, hw24])) | simp (disch := omega) only [wrapI, wrapU, shl1, shl1', shl1'', shrN, shrN', and_one] | ((with_reducible refine isEx8 ?_); refine ⟨(_, _, _, _, _, _, _, _), rfl, ?_, ?_⟩) | ((with_reducible refine isEx7 ?_); refine ⟨(_, _, _, _, _, _, _), rfl, ?_, ?_⟩) | ((with_reducible refine isEx6 ?_); refine ⟨(_, _, _, _, _, _), rfl, ?_, ?_⟩) | ((with_reducible refine isEx5 ?_); refine ⟨(_, _, _, _, _), rfl, ?_, ?_⟩) | ((with_reducible refine isEx4 ?_); refine ⟨(_, _, _, _), rfl, ?_, ?_⟩) | ((with_reducible refine isEx3 ?_); refine ⟨(_, _, _), rfl, ?_, ?_⟩) | ((with_reducible refine isEx2 ?_); refine ⟨(_, _), rfl, ?_, ?_⟩) | ((with_reducible refine isEx ?_); refine ⟨_, rfl, ?_, ?_⟩)
    all_goals first | omega | (simp_all; done) | (exfalso; simp_all; omega)
  | true =>
    have hg' := hg
    simp only [Bool.and_eq_true, decide_eq_true_eq] at hg'
    obtain ⟨⟨hab, hmod⟩, hl24⟩ := hg'
    have hr : c.decR s bits = match (c.decM bits (bits.length / c.out.toNat) s 0 []).1 with
        | some l => (some l, 0)
        | none => (none, 3) := by simp only [GCode.decR, hok, hst, hg]; rfl
    rw [hr]
    have hlen : bits.length ≤ 120 := by omega
    obtain ⟨k, hk⟩ : ∃ k, bits.length / c.out.toNat = k := ⟨_, rfl⟩
    have hkk : ((0 : Int) + (k : Int)) * c.out = bits.length := by
      have e1 : (bits.length : Int) % c.out = 0 := by rw [Int.tmod_eq_emod_of_nonneg (by omega)] at hmod; exact hmod
      have e2 : ((k : Nat) : Int) = (bits.length : Int) / c.out := by
        rw [← hk, Int.natCast_ediv]; congr 1; omega
      rw [Int.zero_add, e2]
      exact Int.ediv_mul_cancel (Int.dvd_of_emod_eq_zero e1)
    have hk24 : (0 : Int) + k ≤ 24 := by
      have h5 : ((0 : Int) + k) * c.out ≤ 24 * c.out := by rw [hkk, Int.mul_comm 24]; exact hl24
      exact Int.le_of_mul_le_mul_right h5 (by omega)
    rw [hk]
    have ci := codes_code_decode_ret c hok nb bits hlen k s 0 [] hst (by omega) hkk hk24 ⟨by simp, fun e he => (by cases he)⟩
    generalize c.decM bits k s 0 [] = R at *
    obtain ⟨o0, m0⟩ := R
    have hm0 : memD [] = [] := rfl
    rw [hm0] at ci
    cases o0 with
    | some l =>
      dsimp only at ci ⊢
      (try (simp -implicitDefEqProofs only [go_sem, codeD_eq, codeC_eq, rowsD_eq, optL_some, Option.isSome_some, hw24])); repeat' first | with_reducible exact True.intro | with_reducible refine And.intro ?_ ?_ | with_reducible intro _ | (((with_reducible refine isCall ?_); first | refine call_b (co) rfl ?_ ?_ | refine call_d (co) rfl ?_ | refine call_sb (co) rfl ?_ ?_ | refine call_s (co) rfl rfl ?_ | refine call_b (codes_are_ret nb bits) rfl ?_ ?_ | refine call_d (codes_are_ret nb bits) rfl ?_ | refine call_sb (codes_are_ret nb bits) rfl ?_ ?_ | refine call_s (codes_are_ret nb bits) rfl rfl ?_ | (refine call_m ([((900003, 0), (47, 0))]) ([((900003, 0), (47, 0))]) (ci) (by repeat' first | exact True.intro | exact rfl | refine And.intro ?_ ?_) (by simp [Handed, Ren.get, AObj.ren, AV.ren, AV.ren.renL, View.get, lookO, callF, newS, View.reach, AV.sites, AV.sites.sitesL, View.osites]) (by simp [namesOk, hasN, nodupB, Ren.get, newS, lim, upd]) (by rfl) (by simp only [backC, Ren.get, AObj.ren, AV.ren, AV.ren.renL, and_self, and_true, true_and, if_true, reduceIte]; rfl) ?_)) <;> try (simp -implicitDefEqProofs only [go_sem, codeD_eq, codeC_eq, rowsD_eq, optL_some, Option.isSome_some, hw24])) | (((with_reducible refine vc_b ?_ ?_) <;> intro _) <;> try (simp -implicitDefEqProofs only [go_sem, codeD_eq, codeC_eq, rowsD_eq, optL_some, Option.isSome_some, hw24])) | simp (disch := omega) only [wrapI, wrapU, shl1, shl1', shl1'', shrN, shrN', and_one] | ((with_reducible refine isEx8 ?_); refine ⟨(_, _, _, _, _, _, _, _), rfl, ?_, ?_⟩) | ((with_reducible refine isEx7 ?_); refine ⟨(_, _, _, _, _, _, _), rfl, ?_, ?_⟩) | ((with_reducible refine isEx6 ?_); refine ⟨(_, _, _, _, _, _), rfl, ?_, ?_⟩) | ((with_reducible refine isEx5 ?_); refine ⟨(_, _, _, _, _), rfl, ?_, ?_⟩) | ((with_reducible refine isEx4 ?_); refine ⟨(_, _, _, _), rfl, ?_, ?_⟩) | ((with_reducible refine isEx3 ?_); refine ⟨(_, _, _), rfl, ?_, ?_⟩) | ((with_reducible refine isEx2 ?_); refine ⟨(_, _), rfl, ?_, ?_⟩) | ((with_reducible refine isEx ?_); refine ⟨_, rfl, ?_, ?_⟩)
      all_goals first | omega | (simp_all; done)
    | none =>
      dsimp only at ci ⊢
      (try (simp -implicitDefEqProofs only [go_sem, codeD_eq, codeC_eq, rowsD_eq, optL_none, Option.isSome_none, hw24])); repeat' first | with_reducible exact True.intro | with_reducible refine And.intro ?_ ?_ | with_reducible intro _ | (((with_reducible refine isCall ?_); first | refine call_b (co) rfl ?_ ?_ | refine call_d (co) rfl ?_ | refine call_sb (co) rfl ?_ ?_ | refine call_s (co) rfl rfl ?_ | refine call_b (codes_are_ret nb bits) rfl ?_ ?_ | refine call_d (codes_are_ret nb bits) rfl ?_ | refine call_sb (codes_are_ret nb bits) rfl ?_ ?_ | refine call_s (codes_are_ret nb bits) rfl rfl ?_ | (refine call_m ([((900003, 0), (47, 0))]) ([((900003, 0), (47, 0))]) (ci) (by repeat' first | exact True.intro | exact rfl | refine And.intro ?_ ?_) (by simp [Handed, Ren.get, AObj.ren, AV.ren, AV.ren.renL, View.get, lookO, callF, newS, View.reach, AV.sites, AV.sites.sitesL, View.osites]) (by simp [namesOk, hasN, nodupB, Ren.get, newS, lim, upd]) (by rfl) (by simp only [backC, Ren.get, AObj.ren, AV.ren, AV.ren.renL, and_self, and_true, true_and, if_true, reduceIte]; rfl) ?_)) <;> try (simp -implicitDefEqProofs only [go_sem, codeD_eq, codeC_eq, rowsD_eq, optL_none, Option.isSome_none, hw24])) | (((with_reducible refine vc_b ?_ ?_) <;> intro _) <;> try (simp -implicitDefEqProofs only [go_sem, codeD_eq, codeC_eq, rowsD_eq, optL_none, Option.isSome_none, hw24])) | simp (disch := omega) only [wrapI, wrapU, shl1, shl1', shl1'', shrN, shrN', and_one] | ((with_reducible refine isEx8 ?_); refine ⟨(_, _, _, _, _, _, _, _), rfl, ?_, ?_⟩) | ((with_reducible refine isEx7 ?_); refine ⟨(_, _, _, _, _, _, _), rfl, ?_, ?_⟩) | ((with_reducible refine isEx6 ?_); refine ⟨(_, _, _, _, _, _), rfl, ?_, ?_⟩) | ((with_reducible refine isEx5 ?_); refine ⟨(_, _, _, _, _), rfl, ?_, ?_⟩) | ((with_reducible refine isEx4 ?_); refine ⟨(_, _, _, _), rfl, ?_, ?_⟩) | ((with_reducible refine isEx3 ?_); refine ⟨(_, _, _), rfl, ?_, ?_⟩) | ((with_reducible refine isEx2 ?_); refine ⟨(_, _), rfl, ?_, ?_⟩) | ((with_reducible refine isEx ?_); refine ⟨_, rfl, ?_, ?_⟩)
      all_goals first | omega | (simp_all; done)
end Go.Pw
