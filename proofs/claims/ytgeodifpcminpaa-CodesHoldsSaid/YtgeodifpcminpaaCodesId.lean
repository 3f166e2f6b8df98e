/- A part of the proof. -/
import Derived.Test.YtgeodifpcminpaaCodesHx
import Derived.Test.YtgeodifpcminpaaCodesIa
import Derived.Test.YtgeodifpcminpaaCodesIc
import Derived.Test.YtgeodifpcminpaaPgCodesD
set_option linter.all false
open Go Go.Pw Go.Proofs
namespace Go.Pw
set_option linter.unusedSimpArgs false
set_option linter.unusedVariables false
set_option maxRecDepth 100000
set_option maxHeartbeats 6400000
def cpR (r : Bool × List Int) : Bool × List Int := (false, r.2)
def copyC (c : GCode) : GCode := ⟨c.bits, c.out, c.least, c.most, c.words.isEmpty, c.words.map cpR, c.next.isEmpty, c.next.map cpR⟩
theorem cp_get (l : Rows) (i : Nat) : ((l.map cpR)[i]?.getD default).2 = (l[i]?.getD default).2 := by
  rw [List.getElem?_map]; cases l[i]? <;> simp [cpR]
theorem head_congr (b o l m : Int) (wn nn wn' nn' : Bool) (w w' n n' : Rows) (hw : w'.length = w.length) (hn : n'.length = n.length) :
    GCode.head ⟨b, o, l, m, wn', w', nn', n'⟩ = GCode.head ⟨b, o, l, m, wn, w, nn, n⟩ := by
  simp only [GCode.head]; rw [hw, hn]
theorem copy_ok (c : GCode) : (copyC c).ok = c.ok := by
  have h : ∀ (n : Nat) (hi : Int) (l : Rows), (l.map cpR).all (rowOk n hi) = l.all (rowOk n hi) := by
    intro n hi l; rw [List.all_map]; rfl
  have hl : ∀ l : Rows, (l.map cpR).length = l.length := fun l => List.length_map ..
  have hh : (copyC c).head = c.head := head_congr _ _ _ _ _ _ _ _ _ _ _ _ (hl c.words) (hl c.next)
  simp only [GCode.ok, hh]; simp only [copyC, h, hl]
theorem copy_wrd (c : GCode) : (copyC c).wrd = c.wrd := by
  funext s w; simp only [GCode.wrd, at2, copyC, cp_get]
theorem copy_nxt (c : GCode) : (copyC c).nxt = c.nxt := by
  funext s w; simp only [GCode.nxt, at2, copyC, cp_get]
theorem copy_state (c : GCode) : (copyC c).isState = c.isState := by
  funext s; simp [GCode.isState, copyC]
theorem copy_stream (c : GCode) : ∀ (l : List Int) (s : Int), (copyC c).stream s l = c.stream s l
  | [], s => rfl
  | w :: l, s => by simp only [GCode.stream, copy_wrd, copy_nxt, copy_stream c l]; rfl
theorem GCode.wrd_range (c : GCode) (h : c.ok = true) {s w : Int} (hs : c.isState s = true) (hw : c.isWord w = true) : 0 ≤ c.wrd s w ∧ c.wrd s w ≤ 2 ^ c.out.toNat - 1 := by
  have hd := GCode.ok_head h
  simp only [GCode.isState, GCode.isWord, inR, decide_eq_true_eq] at hs hw
  obtain ⟨h1, h2⟩ := GCode.ok_words h s.toNat (by omega)
  refine h2 _ (getD_mem0 ?_)
  rw [h1]
  have : ((2 ^ c.bits.toNat : Nat) : Int) = 2 ^ c.bits.toNat := by simp
  omega

theorem copy_W (c : GCode) : (copyC c).W = c.W := rfl
theorem copy_stp (c : GCode) (r : GRun) (w : Int) : (copyC c).stp r w = c.stp r w := by
  unfold GCode.stp; rw [copy_wrd, copy_nxt]; rfl
theorem copy_path (c : GCode) : ∀ (ws : List Int) (r : GRun), (copyC c).path r ws = c.path r ws
  | [], r => rfl
  | w :: l, r => by
    rw [GCode.path, GCode.path, copy_stp]
    cases c.stp r w with
    | none => rfl
    | some q => exact copy_path c l q
theorem copy_isWord (c : GCode) : (copyC c).isWord = c.isWord := rfl
theorem copy_brk (c : GCode) (k : Nat) : (copyC c).Brk k ↔ c.Brk k := by
  unfold GCode.Brk GCode.areW
  simp only [copy_state, copy_isWord, copy_path]
theorem copy_bfs (c : GCode) (R : Option (Int × List Int)) (h : BfsOk (copyC c) R) : BfsOk c R := by
  cases R with
  | none => exact fun k hb => h k ((copy_brk c k).2 hb)
  | some p =>
    obtain ⟨s, d⟩ := p
    obtain ⟨h1, h2, h3, h4, h5⟩ := h
    rw [copy_state] at h1
    rw [copy_path] at h3
    exact ⟨h1, h2, h3, h4, fun hb => h5 ((copy_brk c _).2 hb)⟩
theorem copy_lvl (c : GCode) (d : Bool) (p : Pair) (a : Int) (out : List Pair) (b : Int) : (copyC c).lvl d p a out b = c.lvl d p a out b := by
  unfold GCode.lvl; rw [copy_wrd, copy_nxt]
theorem copy_level (c : GCode) (l : List Pair) (d : Bool) : (copyC c).level l d = c.level l d := by
  have h1 : ∀ p a, (copyC c).lvl d p a = c.lvl d p a := fun p a => by funext out b; exact copy_lvl c d p a out b
  have h2 : ∀ p, (copyC c).lvlA d p = c.lvlA d p := fun p => by funext out a; unfold GCode.lvlA; rw [h1, copy_W]
  have h3 : (copyC c).lvlP d = c.lvlP d := by funext out p; unfold GCode.lvlP; rw [h2, copy_W]
  unfold GCode.level; rw [h3]
theorem copy_orderF (c : GCode) : ∀ (k : Nat) (n : Int) (l : List Pair), (copyC c).orderF k n l = c.orderF k n l
  | 0, n, l => rfl
  | k + 1, n, l => by
    rw [GCode.orderF, GCode.orderF, copy_level]
    simp only [copy_orderF c k]
theorem copy_wl (c : GCode) : (copyC c).words.length = c.words.length := by simp [copyC]
theorem copy_order (c : GCode) : (copyC c).order = c.order := by
  unfold GCode.order GCode.pairs0
  rw [copy_ok, copy_wl, copy_orderF]
theorem isData_of' {c : GCode} {d : List Int} (h1 : d.length ≤ 24) (h2 : c.areW d) : c.isData d = true := by
  unfold GCode.isData
  rw [Bool.and_eq_true, decide_eq_true_eq, List.all_eq_true]
  exact ⟨h1, h2⟩
theorem stream_01' (c : GCode) : ∀ (ws : List Int) (s : Int), ∀ b, b ∈ (c.stream s ws).1 → b = 0 ∨ b = 1
  | [], s, b, h => by cases h
  | w :: l, s, b, h => by
    rw [GCode.stream] at h
    rcases List.mem_append.1 h with e | e
    · exact bitsOf_01 _ _ b e
    · exact stream_01' c l _ b e
theorem breach_eq {c : GCode} (h : c.ok = true) {s : Int} {d : List Int} (hb : BfsOk c (some (s, d))) : c.breach = d.length := by
  obtain ⟨h1, h2, h3, h4, h5⟩ := hb
  have hbr : c.Brk d.length := ⟨s, d, h1, rfl, h2, h3⟩
  rcases breach_spec h with ⟨_, k2⟩ | ⟨j, k1, k2, k3, k4⟩
  · exact absurd hbr (k2 _)
  · rw [k2, brk_least h k1 h4 k3 k4 hbr h5]
theorem breach_0 {c : GCode} (h : c.ok = true) (hb : BfsOk c none) : c.breach = 0 := by
  rcases breach_spec h with ⟨k1, _⟩ | ⟨j, k1, k2, k3, k4⟩
  · exact k1
  · exact absurd k3 (hb _)
attribute [local congr] cg_pw cg_seqI cg_seqE cg_stepI cg_ev cg_evBin cg_condB cg_condV cg_thenQ cg_blockQ cg_onSome cg_onCells cg_onRow cg_onMap cg_onOpt cg_ghosts cg_ghost cg_evCall cg_part cg_rng cg_guardV cg_frzV cg_frpV cg_ownV cg_owcV cg_occV cg_occX cg_resK cg_res1 cg_yldP cg_rndE cg_onlyN cg_onHist
attribute [local irreducible] IntKind.wrap bitsOp Option.getD and or

theorem rowsD_len (l : Rows) : (rowsD l).length = l.length := by simp [rowsD]
theorem rowsD_unif (l : Rows) : Unif 1 (rowsD l) = True := unif_map fun _ => rfl
theorem rowsD_empty (l : Rows) : (rowsD l).isEmpty = l.isEmpty := by cases l <;> rfl
def cpT (l : Rows) (n : Nat) : Rows := (l.take n).map cpR
theorem cpT_len {l : Rows} {n : Nat} (h : n ≤ l.length) : (cpT l n).length = n := by simp [cpT]; omega
theorem cpT_snoc {l : Rows} {n : Nat} (h : n < l.length) : rowsD (cpT l n) ++ [.list false (ints (l[n]?.getD default).2)] = rowsD (cpT l (n + 1)) := by
  rw [cpT, cpT, List.take_add_one, List.getElem?_eq_getElem h]
  rw [Option.getD_some, List.map_append]
  simp only [rowsD, List.map_append, Option.toList, List.map_cons, List.map_nil]; rfl
theorem cpT_full (l : Rows) : cpT l l.length = l.map cpR := by simp [cpT]
theorem copyD_eq (c : GCode) : codeD (copyC c) = .agg [.int .i64 c.bits, .int .i64 c.out, .int .i64 c.least, .int .i64 c.most, .list c.words.isEmpty (rowsD (cpT c.words c.words.length)), .list c.next.isEmpty (rowsD (cpT c.next c.next.length))] := by
  rw [cpT_full, cpT_full]; rfl

theorem far_all {c : GCode} (h : c.far = false) : (c.words.length ≤ 20 ∧ ∀ j : Nat, j < c.words.length → (c.words[j]?.getD default).2.length ≤ 20) ∧ (c.next.length ≤ 20 ∧ ∀ j : Nat, j < c.next.length → (c.next[j]?.getD default).2.length ≤ 20) := by
  simp only [GCode.far, Bool.or_eq_false_iff, decide_eq_false_iff_not] at h
  obtain ⟨⟨⟨h1, h2⟩, h3⟩, h4⟩ := h
  rw [any_iff] at h3 h4
  refine ⟨⟨by omega, fun j hj => ?_⟩, by omega, fun j hj => ?_⟩
  · have := h3 j hj; rw [decide_eq_false_iff_not] at this; omega
  · have := h4 j hj; rw [decide_eq_false_iff_not] at this; omega

theorem ref04_Copy_ret (c : GCode) (hf : c.far = false) : Ret E0 F_ref04_Copy [codeD c] (codeD (copyC c)) := by
  rw [copyD_eq]
  refine ret_of_pw dec_ref04_Copy mixed (by simp) fun hwf => ?_
  simp only [wf_int, wf_bool, wf_ints, wf_list, wf_agg, wf_ptr, wf_fn, wf_tup, wf_all_cons, wf_all_nil, wf_all_map, inK_i64, maxLen_eq, List.length_map, ints_len, true_and, and_true, codeD_eq, codeC_eq, rowsD_eq] at hwf
  have hfw := (far_all hf).1
  have hfn := (far_all hf).2
  rw [enter_eq]; unfold pc_ref04_Copy
  (try (simp -implicitDefEqProofs only [go_sem, codeD_eq, codeC_eq])); repeat' first | with_reducible exact True.intro | with_reducible refine And.intro ?_ ?_ | with_reducible intro _ | (((with_reducible refine vc_b ?_ ?_) <;> intro _) <;> try (simp -implicitDefEqProofs only [go_sem, codeD_eq, codeC_eq])) | simp (disch := omega) only [wrapI, wrapU, shl1, shl1', shl1'', shrN, shrN', and_one] | ((with_reducible refine isEx3 ?_); refine ⟨(_, _, _), rfl, ?_, ?_⟩)
  refine pw_loopS (α := Int × Bool × (List D)) (l0 := ?l1) (m0 := ?m1) (fun x => [(4, .d (.int .i64 x.1))]) (fun x => [(26, .row 25 1 x.2.1 x.2.2)]) (fun x => 0 ≤ x.1 ∧ x.1 ≤ c.words.length ∧ x.2.1 = decide (x.1 = 0) ∧ x.2.2 = rowsD (cpT c.words x.1.toNat)) (fun x => (c.words.length - x.1).toNat) (?a1_0, ?a1_1, []) ?h01 ?he1 ?he21 ?hI1 ?step1
  case h01 => (simp -implicitDefEqProofs only [go_sem, codeD_eq, codeC_eq, rowsD_eq]; rfl)
  case he1 => rfl
  case he21 => rfl
  case' step1 => (rintro ⟨i, nl, L⟩ hI; try dsimp only at hI)
  case' hI1 => try dsimp only
  · simp; rfl
  · obtain ⟨h1, h2, h3, h4⟩ := hI
    change nl = decide (i = 0) at h3; change L = rowsD (cpT c.words i.toNat) at h4
    subst h3; subst h4
    by_cases hi : i < c.words.length
    · have hl := cpT_len (l := c.words) (n := i.toNat) (by omega)
      have hs := cpT_snoc (l := c.words) (n := i.toNat) (by omega)
      have hr := hfw.2 i.toNat (by omega)
      have h1' : (i + 1).toNat = i.toNat + 1 := by omega
      (try (simp -implicitDefEqProofs only [go_sem, rowsD_len, rowsD_unif, rowD_eq, hl])); repeat' first | with_reducible exact True.intro | with_reducible refine And.intro ?_ ?_ | with_reducible intro _ | (((with_reducible refine vc_b ?_ ?_) <;> intro _) <;> try (simp -implicitDefEqProofs only [go_sem, rowsD_len, rowsD_unif, rowD_eq, hl])) | simp (disch := omega) only [wrapI, wrapU, shl1, shl1', shl1'', shrN, shrN', and_one] | ((with_reducible refine isEx3 ?_); refine ⟨(_, _, _), rfl, ?_, ?_⟩)
      all_goals first | omega | (simp; done) | (simp; omega) | skip
      all_goals first | (exfalso; omega) | (simp; omega) | (rw [h1', hs]) | skip
    · have he : i.toNat = c.words.length := by omega
      rw [he]
      have hl := cpT_len (l := c.words) (n := c.words.length) (by omega)
      have hz : decide (i = 0) = c.words.isEmpty := by rw [Bool.eq_iff_iff]; simp only [decide_eq_true_eq, List.isEmpty_iff, ← List.length_eq_zero_iff]; omega
      rw [hz]
      (try (simp -implicitDefEqProofs only [go_sem, rowsD_len, rowsD_unif, hl])); repeat' first | with_reducible exact True.intro | with_reducible refine And.intro ?_ ?_ | with_reducible intro _ | (((with_reducible refine vc_b ?_ ?_) <;> intro _) <;> try (simp -implicitDefEqProofs only [go_sem, rowsD_len, rowsD_unif, hl])) | simp (disch := omega) only [wrapI, wrapU, shl1, shl1', shl1'', shrN, shrN', and_one] | ((with_reducible refine isEx3 ?_); refine ⟨(_, _, _), rfl, ?_, ?_⟩)
      all_goals first | omega | (simp; done) | (simp; omega) | skip
      refine pw_loopS (α := Int × Bool × (List D)) (l0 := ?l2) (m0 := ?m2) (fun x => [(5, .d (.int .i64 x.1))]) (fun x => [(45, .row 25 1 x.2.1 x.2.2)]) (fun x => 0 ≤ x.1 ∧ x.1 ≤ c.next.length ∧ x.2.1 = decide (x.1 = 0) ∧ x.2.2 = rowsD (cpT c.next x.1.toNat)) (fun x => (c.next.length - x.1).toNat) (?a2_0, ?a2_1, []) ?h02 ?he2 ?he22 ?hI2 ?step2
      case h02 => (simp -implicitDefEqProofs only [go_sem, codeD_eq, codeC_eq, rowsD_eq]; rfl)
      case he2 => rfl
      case he22 => rfl
      case' step2 => (rintro ⟨k, nl2, L2⟩ hI2; try dsimp only at hI2)
      case' hI2 => try dsimp only
      · simp; rfl
      · obtain ⟨g1, g2, g3, g4⟩ := hI2
        change nl2 = decide (k = 0) at g3; change L2 = rowsD (cpT c.next k.toNat) at g4
        subst g3; subst g4
        by_cases hk : k < c.next.length
        · have gl := cpT_len (l := c.next) (n := k.toNat) (by omega)
          have gs := cpT_snoc (l := c.next) (n := k.toNat) (by omega)
          have gr := hfn.2 k.toNat (by omega)
          have g1' : (k + 1).toNat = k.toNat + 1 := by omega
          (try (simp -implicitDefEqProofs only [go_sem, rowsD_len, rowsD_unif, rowD_eq, gl])); repeat' first | with_reducible exact True.intro | with_reducible refine And.intro ?_ ?_ | with_reducible intro _ | (((with_reducible refine vc_b ?_ ?_) <;> intro _) <;> try (simp -implicitDefEqProofs only [go_sem, rowsD_len, rowsD_unif, rowD_eq, gl])) | simp (disch := omega) only [wrapI, wrapU, shl1, shl1', shl1'', shrN, shrN', and_one] | ((with_reducible refine isEx3 ?_); refine ⟨(_, _, _), rfl, ?_, ?_⟩)
          all_goals first | omega | (simp; done) | (simp; omega) | skip
          all_goals first | (exfalso; omega) | (simp; omega) | (rw [g1', gs]) | skip
        · have ge : k.toNat = c.next.length := by omega
          rw [ge]
          have gl := cpT_len (l := c.next) (n := c.next.length) (by omega)
          have gz : decide (k = 0) = c.next.isEmpty := by rw [Bool.eq_iff_iff]; simp only [decide_eq_true_eq, List.isEmpty_iff, ← List.length_eq_zero_iff]; omega
          rw [gz]
          (try (simp -implicitDefEqProofs only [go_sem, rowsD_len, rowsD_unif, hl, gl])); repeat' first | with_reducible exact True.intro | with_reducible refine And.intro ?_ ?_ | with_reducible intro _ | (((with_reducible refine vc_b ?_ ?_) <;> intro _) <;> try (simp -implicitDefEqProofs only [go_sem, rowsD_len, rowsD_unif, hl, gl])) | simp (disch := omega) only [wrapI, wrapU, shl1, shl1', shl1'', shrN, shrN', and_one] | ((with_reducible refine isEx3 ?_); refine ⟨(_, _, _), rfl, ?_, ?_⟩)
          all_goals first | omega | (simp; done) | (simp; omega) | skip
          rfl


theorem ref04_Stream_ret (c : GCode) (h : c.ok = true) (s : Int) (nl : Bool) (l : List Int) (hs : c.isState s = true) (hw : ∀ w, w ∈ l → c.isWord w = true) (hl : l.length ≤ 24) :
    Ret E0 F_ref04_Stream [codeD c, .int .i64 s, .list nl (ints l)] (.tup [.list (c.stream s l).1.isEmpty (ints (c.stream s l).1), .int .i64 (c.stream s l).2]) := by
  refine ret_of_pw dec_ref04_Stream mixed (by simp) fun hwf => ?_
  have hd := GCode.ok_head h
  rw [enter_eq]; unfold pc_ref04_Stream
  (try (simp -implicitDefEqProofs only [go_sem, codeD_eq, codeC_eq, rowsD_eq])); repeat' first | with_reducible exact True.intro | with_reducible refine And.intro ?_ ?_ | with_reducible intro _ | (((with_reducible refine vc_b ?_ ?_) <;> intro _) <;> try (simp -implicitDefEqProofs only [go_sem, codeD_eq, codeC_eq, rowsD_eq])) | simp (disch := omega) only [wrapI, wrapU, shl1, shl1', shl1'', shrN, shrN', and_one] | ((with_reducible refine isEx4 ?_); refine ⟨(_, _, _, _), rfl, ?_, ?_⟩)
  refine pw_loopS (α := Int × Int × Bool × (List Int)) (l0 := ?l3) (m0 := ?m3) (fun x => [(8, .d (.int .i64 x.1)), (1, .d (.int .i64 x.2.1))]) (fun x => [(29, .row T_int 1 x.2.2.1 (ints x.2.2.2))]) (fun x => 0 ≤ x.1 ∧ x.1 ≤ l.length ∧ c.isState x.2.1 = true ∧ x.2.2.1 = x.2.2.2.isEmpty ∧ x.2.2.2.length ≤ 5 * x.1 ∧ (x.2.2.2 ++ (c.stream x.2.1 (l.drop x.1.toNat)).1, (c.stream x.2.1 (l.drop x.1.toNat)).2) = c.stream s l) (fun x => (l.length - x.1).toNat) (?a3_0, s, ?a3_2, []) ?h03 ?he3 ?he23 ?hI3 ?step3
  case h03 => (simp -implicitDefEqProofs only [go_sem]; rfl)
  case he3 => rfl
  case he23 => rfl
  case' step3 => (rintro ⟨i, t, n2, acc⟩ hI; try dsimp only at hI)
  case' hI3 => try dsimp only
  · simp [hs]
  · obtain ⟨hi0, hi1, ht, hn, ha, heq⟩ := hI
    by_cases hi : i < l.length
    · have hiw : c.isWord (l[i.toNat]?.getD 0) = true := hw _ (getD_mem0 (by omega))
      have hr := GCode.wrd_range c h ht hiw
      have hp5 : (2 : Int) ^ c.out.toNat ≤ 32 := by
        have : c.out.toNat = 1 ∨ c.out.toNat = 2 ∨ c.out.toNat = 3 ∨ c.out.toNat = 4 ∨ c.out.toNat = 5 := by omega
        rcases this with h | h | h | h | h <;> rw [h] <;> decide
      have hst := GCode.nxt_state h ht hiw
      have cs := ref04_Spread_ret c (c.wrd t (l[i.toNat]?.getD 0)) (by omega) (by omega)
      have hbl := bitsOf_length c.out.toNat (c.wrd t (l[i.toNat]?.getD 0))
      have hdr : l.drop i.toNat = (l[i.toNat]?.getD 0) :: l.drop (i + 1).toNat := by rw [drop_get (xs := l) (i := i.toNat) (by omega), show (i + 1).toNat = i.toNat + 1 by omega]
      rw [hdr] at heq
      simp only [GCode.stream] at heq
      have ht' := ht
      have hiw' := hiw
      simp only [GCode.isState, GCode.isWord, inR, decide_eq_true_eq] at ht' hiw'
      have hr1 := GCode.ok_words h t.toNat (by omega)
      have hr2 := GCode.ok_next h t.toNat (by omega)
      have hnc : ((2 ^ c.bits.toNat : Nat) : Int) = 2 ^ c.bits.toNat := by simp
      generalize hw0 : l[i.toNat]?.getD 0 = w at *
      generalize bitsOf c.out.toNat (c.wrd t w) = B at *
      have hBe : B.isEmpty = false := by cases B with
        | nil => simp at hbl; omega
        | cons _ _ => rfl
      (try (simp -implicitDefEqProofs only [go_sem, codeD_eq, codeC_eq, rowsD_eq, rowD_eq, c.nxt_eq, c.wrd_eq, hw0])); repeat' first | with_reducible exact True.intro | with_reducible refine And.intro ?_ ?_ | with_reducible intro _ | (((with_reducible refine isCall ?_); first | refine call_b (cs) rfl ?_ ?_ | refine call_d (cs) rfl ?_ | refine call_sb (cs) rfl ?_ ?_ | refine call_s (cs) rfl rfl ?_) <;> try (simp -implicitDefEqProofs only [go_sem, codeD_eq, codeC_eq, rowsD_eq, rowD_eq, c.nxt_eq, c.wrd_eq, hw0])) | (((with_reducible refine vc_b ?_ ?_) <;> intro _) <;> try (simp -implicitDefEqProofs only [go_sem, codeD_eq, codeC_eq, rowsD_eq, rowD_eq, c.nxt_eq, c.wrd_eq, hw0])) | simp (disch := omega) only [wrapI, wrapU, shl1, shl1', shl1'', shrN, shrN', and_one] | ((with_reducible refine isEx4 ?_); refine ⟨(_, _, _, _), rfl, ?_, ?_⟩)
      all_goals (try simp (disch := omega) only [wrapI, wrapU, shl1, shl1', shl1'', shrN, shrN', and_one] at *)
      all_goals first | omega | (simp; done) | (simp; omega) | skip
      all_goals first | exact hst | (rw [c.nxt_eq, ← heq]; simp; done) | (simp; omega) | (subst hn; cases acc <;> cases B <;> simp_all; done) | skip
    · have h0 : l.drop i.toNat = [] := List.drop_eq_nil_of_le (by omega)
      rw [h0] at heq
      simp only [GCode.stream, List.append_nil] at heq
      (try (simp -implicitDefEqProofs only [go_sem])); repeat' first | with_reducible exact True.intro | with_reducible refine And.intro ?_ ?_ | with_reducible intro _ | (((with_reducible refine vc_b ?_ ?_) <;> intro _) <;> try (simp -implicitDefEqProofs only [go_sem])) | simp (disch := omega) only [wrapI, wrapU, shl1, shl1', shl1'', shrN, shrN', and_one] | ((with_reducible refine isEx4 ?_); refine ⟨(_, _, _, _), rfl, ?_, ?_⟩)
      all_goals first | omega | (simp; done) | (simp; omega) | skip
      all_goals (rw [← heq]; try simp [hn])


theorem ref04_Holds_ret (c : GCode) : Ret E0 F_ref04_Holds [codeD c] (.tup [.bool (c.ok && decide (c.breach = 0)), .int .i64 (if c.ok then c.breach else 0), .int .i64 (errI c.ok 40)]) := by
  refine ret_of_pw dec_ref04_Holds mixed (by simp) fun hwf => ?_
  have c1 := ref04_Check_ret c
  rw [enter_eq]; unfold pc_ref04_Holds
  cases h : c.ok with
  | false =>
    rw [h] at c1
    (try (simp -implicitDefEqProofs only [go_sem, codeD_eq, codeC_eq, errI])); repeat' first | with_reducible exact True.intro | with_reducible refine And.intro ?_ ?_ | with_reducible intro _ | (((with_reducible refine isCall ?_); first | refine call_b (c1) rfl ?_ ?_ | refine call_d (c1) rfl ?_ | refine call_sb (c1) rfl ?_ ?_ | refine call_s (c1) rfl rfl ?_) <;> try (simp -implicitDefEqProofs only [go_sem, codeD_eq, codeC_eq, errI])) | (((with_reducible refine vc_b ?_ ?_) <;> intro _) <;> try (simp -implicitDefEqProofs only [go_sem, codeD_eq, codeC_eq, errI])) | simp (disch := omega) only [wrapI, wrapU, shl1, shl1', shl1'', shrN, shrN', and_one] 
    all_goals first | omega | rfl | trace_state
  | true =>
    rw [h] at c1
    have c2 := ref04_breach_ret c h
    simp only [Bool.true_and, if_true]
    by_cases hb : c.breach = 0
    · rw [hb] at c2 ⊢
      (try (simp -implicitDefEqProofs only [go_sem, codeD_eq, codeC_eq, errI])); repeat' first | with_reducible exact True.intro | with_reducible refine And.intro ?_ ?_ | with_reducible intro _ | (((with_reducible refine isCall ?_); first | refine call_b (c1) rfl ?_ ?_ | refine call_d (c1) rfl ?_ | refine call_sb (c1) rfl ?_ ?_ | refine call_s (c1) rfl rfl ?_ | refine call_b (c2) rfl ?_ ?_ | refine call_d (c2) rfl ?_ | refine call_sb (c2) rfl ?_ ?_ | refine call_s (c2) rfl rfl ?_) <;> try (simp -implicitDefEqProofs only [go_sem, codeD_eq, codeC_eq, errI])) | (((with_reducible refine vc_b ?_ ?_) <;> intro _) <;> try (simp -implicitDefEqProofs only [go_sem, codeD_eq, codeC_eq, errI])) | simp (disch := omega) only [wrapI, wrapU, shl1, shl1', shl1'', shrN, shrN', and_one] 
      all_goals first | omega | rfl | trace_state
    · rw [decide_eq_false hb]
      (try (simp -implicitDefEqProofs only [go_sem, codeD_eq, codeC_eq, errI, hb])); repeat' first | with_reducible exact True.intro | with_reducible refine And.intro ?_ ?_ | with_reducible intro _ | (((with_reducible refine isCall ?_); first | refine call_b (c1) rfl ?_ ?_ | refine call_d (c1) rfl ?_ | refine call_sb (c1) rfl ?_ ?_ | refine call_s (c1) rfl rfl ?_ | refine call_b (c2) rfl ?_ ?_ | refine call_d (c2) rfl ?_ | refine call_sb (c2) rfl ?_ ?_ | refine call_s (c2) rfl rfl ?_) <;> try (simp -implicitDefEqProofs only [go_sem, codeD_eq, codeC_eq, errI, hb])) | (((with_reducible refine vc_b ?_ ?_) <;> intro _) <;> try (simp -implicitDefEqProofs only [go_sem, codeD_eq, codeC_eq, errI, hb])) | simp (disch := omega) only [wrapI, wrapU, shl1, shl1', shl1'', shrN, shrN', and_one] 
      all_goals first | omega | rfl | trace_state

theorem CodesHolds_ret (c : GCode) : Ret E0 F_law04_CodesHolds [codeD c] (.bool true) := by
  refine ret_of_pw dec_law04_CodesHolds mixed (by simp) fun hwf => ?_
  have c0 := law04_Far_ret c
  have cw := law04_works_ret
  rw [enter_eq]; unfold pc_law04_CodesHolds
  cases hf : c.far with
  | true =>
    rw [hf] at c0
    (try (simp -implicitDefEqProofs only [go_sem, codeD_eq, codeC_eq])); repeat' first | with_reducible exact True.intro | with_reducible refine And.intro ?_ ?_ | with_reducible intro _ | (((with_reducible refine isCall ?_); first | refine call_b (c0) rfl ?_ ?_ | refine call_d (c0) rfl ?_ | refine call_sb (c0) rfl ?_ ?_ | refine call_s (c0) rfl rfl ?_ | refine call_b (cw) rfl ?_ ?_ | refine call_d (cw) rfl ?_ | refine call_sb (cw) rfl ?_ ?_ | refine call_s (cw) rfl rfl ?_) <;> try (simp -implicitDefEqProofs only [go_sem, codeD_eq, codeC_eq])) | (((with_reducible refine vc_b ?_ ?_) <;> intro _) <;> try (simp -implicitDefEqProofs only [go_sem, codeD_eq, codeC_eq])) | simp (disch := omega) only [wrapI, wrapU, shl1, shl1', shl1'', shrN, shrN', and_one] 
    all_goals first | omega | rfl | trace_state
  | false =>
    rw [hf] at c0
    have c1 := ref04_Copy_ret c hf
    have c2 := codes_Holds_ret (copyC c)
    have c3 := ref04_Holds_ret c
    have c4 := codes_Order_ret (copyC c)
    have c5 := ref04_Order_ret c
    rw [copy_order] at c4
    rw [ordR_eq] at c5
    generalize c.order = O at *
    unfold GCode.holdsT GCode.holdsD at c2
    rw [copy_ok] at c2
    cases h : c.ok with
    | false =>
      rw [h] at c2 c3
      simp only [Bool.false_eq_true, if_false] at c2
      generalize copyC c = C at *
      (try (simp -implicitDefEqProofs only [go_sem, codeD_eq, codeC_eq, errI])); repeat' first | with_reducible exact True.intro | with_reducible refine And.intro ?_ ?_ | with_reducible intro _ | (((with_reducible refine isCall ?_); first | refine call_b (c0) rfl ?_ ?_ | refine call_d (c0) rfl ?_ | refine call_sb (c0) rfl ?_ ?_ | refine call_s (c0) rfl rfl ?_ | refine call_b (cw) rfl ?_ ?_ | refine call_d (cw) rfl ?_ | refine call_sb (cw) rfl ?_ ?_ | refine call_s (cw) rfl rfl ?_ | refine call_b (c1) rfl ?_ ?_ | refine call_d (c1) rfl ?_ | refine call_sb (c1) rfl ?_ ?_ | refine call_s (c1) rfl rfl ?_ | refine call_b (c2) rfl ?_ ?_ | refine call_d (c2) rfl ?_ | refine call_sb (c2) rfl ?_ ?_ | refine call_s (c2) rfl rfl ?_ | refine call_b (c3) rfl ?_ ?_ | refine call_d (c3) rfl ?_ | refine call_sb (c3) rfl ?_ ?_ | refine call_s (c3) rfl rfl ?_ | refine call_b (c4) rfl ?_ ?_ | refine call_d (c4) rfl ?_ | refine call_sb (c4) rfl ?_ ?_ | refine call_s (c4) rfl rfl ?_ | refine call_b (c5) rfl ?_ ?_ | refine call_d (c5) rfl ?_ | refine call_sb (c5) rfl ?_ ?_ | refine call_s (c5) rfl rfl ?_) <;> try (simp -implicitDefEqProofs only [go_sem, codeD_eq, codeC_eq, errI])) | (((with_reducible refine vc_b ?_ ?_) <;> intro _) <;> try (simp -implicitDefEqProofs only [go_sem, codeD_eq, codeC_eq, errI])) | simp (disch := omega) only [wrapI, wrapU, shl1, shl1', shl1'', shrN, shrN', and_one] 
      all_goals first | omega | rfl | trace_state
    | true =>
      rw [h] at c2 c3
      have hd := GCode.ok_head h
      have hok := copy_bfs c _ (bfsR_ok (c := copyC c) ((copy_ok c).trans h))
      simp only [if_true] at c2
      generalize (copyC c).bfsR = R at *
      generalize copyC c = C at *
      cases R with
      | none =>
        simp only at c2
        have hb := breach_0 h hok
        rw [hb, decide_eq_true (rfl : (0 : Int) = 0)] at c3
        simp only [Bool.and_self, if_true] at c3
        (try (simp -implicitDefEqProofs only [go_sem, codeD_eq, codeC_eq, errI])); repeat' first | with_reducible exact True.intro | with_reducible refine And.intro ?_ ?_ | with_reducible intro _ | (((with_reducible refine isCall ?_); first | refine call_b (c0) rfl ?_ ?_ | refine call_d (c0) rfl ?_ | refine call_sb (c0) rfl ?_ ?_ | refine call_s (c0) rfl rfl ?_ | refine call_b (cw) rfl ?_ ?_ | refine call_d (cw) rfl ?_ | refine call_sb (cw) rfl ?_ ?_ | refine call_s (cw) rfl rfl ?_ | refine call_b (c1) rfl ?_ ?_ | refine call_d (c1) rfl ?_ | refine call_sb (c1) rfl ?_ ?_ | refine call_s (c1) rfl rfl ?_ | refine call_b (c2) rfl ?_ ?_ | refine call_d (c2) rfl ?_ | refine call_sb (c2) rfl ?_ ?_ | refine call_s (c2) rfl rfl ?_ | refine call_b (c3) rfl ?_ ?_ | refine call_d (c3) rfl ?_ | refine call_sb (c3) rfl ?_ ?_ | refine call_s (c3) rfl rfl ?_ | refine call_b (c4) rfl ?_ ?_ | refine call_d (c4) rfl ?_ | refine call_sb (c4) rfl ?_ ?_ | refine call_s (c4) rfl rfl ?_ | refine call_b (c5) rfl ?_ ?_ | refine call_d (c5) rfl ?_ | refine call_sb (c5) rfl ?_ ?_ | refine call_s (c5) rfl rfl ?_) <;> try (simp -implicitDefEqProofs only [go_sem, codeD_eq, codeC_eq, errI])) | (((with_reducible refine vc_b ?_ ?_) <;> intro _) <;> try (simp -implicitDefEqProofs only [go_sem, codeD_eq, codeC_eq, errI])) | simp (disch := omega) only [wrapI, wrapU, shl1, shl1', shl1'', shrN, shrN', and_one] 
        all_goals first | omega | rfl | trace_state
      | some p =>
        obtain ⟨s, d⟩ := p
        simp only at c2
        have hb := breach_eq h hok
        have hlen := breach_len h hok
        obtain ⟨b1, b2, b3, b4, b5⟩ := hok
        rw [hb] at c3
        have hb0 : ¬ (d.length : Int) = 0 := by omega
        have hb1 : (0 : Int) < d.length := by omega
        rw [decide_eq_false hb0] at c3
        simp only [Bool.and_false, if_true] at c3
        have c6 := ref04_CheckState_ret c s
        rw [h, b1] at c6
        have c7 := ref04_IsData_ret c false d (by omega)
        rw [isData_of' (by omega) b2] at c7
        have c8 := ref04_Stream_ret c h s false d b1 b2 (by omega)
        have hk := keeps_stream c s d
        rw [b3] at hk
        have c9 := ref04_Keeps_ret c (by omega) (c.stream s d).1.isEmpty (c.stream s d).1 (stream_01' c d s)
        rw [hk] at c9
        simp only [Option.isSome_none] at c9
        generalize (c.stream s d).1 = X at *
        generalize (c.stream s d).2 = Y at *
        (try (simp -implicitDefEqProofs only [go_sem, codeD_eq, codeC_eq, errI, hb0, hb1])); repeat' first | with_reducible exact True.intro | with_reducible refine And.intro ?_ ?_ | with_reducible intro _ | (((with_reducible refine isCall ?_); first | refine call_b (c0) rfl ?_ ?_ | refine call_d (c0) rfl ?_ | refine call_sb (c0) rfl ?_ ?_ | refine call_s (c0) rfl rfl ?_ | refine call_b (cw) rfl ?_ ?_ | refine call_d (cw) rfl ?_ | refine call_sb (cw) rfl ?_ ?_ | refine call_s (cw) rfl rfl ?_ | refine call_b (c1) rfl ?_ ?_ | refine call_d (c1) rfl ?_ | refine call_sb (c1) rfl ?_ ?_ | refine call_s (c1) rfl rfl ?_ | refine call_b (c2) rfl ?_ ?_ | refine call_d (c2) rfl ?_ | refine call_sb (c2) rfl ?_ ?_ | refine call_s (c2) rfl rfl ?_ | refine call_b (c3) rfl ?_ ?_ | refine call_d (c3) rfl ?_ | refine call_sb (c3) rfl ?_ ?_ | refine call_s (c3) rfl rfl ?_ | refine call_b (c4) rfl ?_ ?_ | refine call_d (c4) rfl ?_ | refine call_sb (c4) rfl ?_ ?_ | refine call_s (c4) rfl rfl ?_ | refine call_b (c5) rfl ?_ ?_ | refine call_d (c5) rfl ?_ | refine call_sb (c5) rfl ?_ ?_ | refine call_s (c5) rfl rfl ?_ | refine call_b (c6) rfl ?_ ?_ | refine call_d (c6) rfl ?_ | refine call_sb (c6) rfl ?_ ?_ | refine call_s (c6) rfl rfl ?_ | refine call_b (c7) rfl ?_ ?_ | refine call_d (c7) rfl ?_ | refine call_sb (c7) rfl ?_ ?_ | refine call_s (c7) rfl rfl ?_ | refine call_b (c8) rfl ?_ ?_ | refine call_d (c8) rfl ?_ | refine call_sb (c8) rfl ?_ ?_ | refine call_s (c8) rfl rfl ?_ | refine call_b (c9) rfl ?_ ?_ | refine call_d (c9) rfl ?_ | refine call_sb (c9) rfl ?_ ?_ | refine call_s (c9) rfl rfl ?_) <;> try (simp -implicitDefEqProofs only [go_sem, codeD_eq, codeC_eq, errI, hb0, hb1])) | (((with_reducible refine vc_b ?_ ?_) <;> intro _) <;> try (simp -implicitDefEqProofs only [go_sem, codeD_eq, codeC_eq, errI, hb0, hb1])) | simp (disch := omega) only [wrapI, wrapU, shl1, shl1', shl1'', shrN, shrN', and_one] 
        all_goals first | omega | rfl | trace_state
end Go.Pw
