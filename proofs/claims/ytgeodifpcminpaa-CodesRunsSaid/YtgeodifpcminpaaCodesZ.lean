/- A part of the proof. -/
import Derived.Test.YtgeodifpcminpaaCodesY
set_option linter.all false
open Go Go.Pw Go.Proofs
namespace Go.Pw
set_option linter.unusedSimpArgs false
set_option linter.unusedVariables false
set_option maxRecDepth 100000
set_option maxHeartbeats 3200000
attribute [local congr] cg_pw cg_seqI cg_seqE cg_stepI cg_ev cg_evBin cg_condB cg_condV cg_thenQ cg_blockQ cg_onSome cg_onCells cg_onRow cg_onMap cg_onOpt cg_ghosts cg_ghost cg_evCall cg_part cg_rng cg_guardV cg_frzV cg_frpV cg_ownV cg_owcV cg_occV cg_occX cg_resK cg_res1
attribute [local irreducible] IntKind.wrap bitsOp Option.getD and or

theorem decR_eq (c : GCode) (s : Int) (bits : List Int) (hok : c.ok = true) (hst : c.isState s = true) (K : Nat) (hK : bits.length / c.out.toNat = K)
    (hg : (areBits bits && decide ((bits.length : Int).tmod c.out = 0) && decide ((bits.length : Int) ≤ c.out * 24)) = true) :
    c.decR s bits = match c.decP bits K s 0 with | some l => (some l, 0) | none => (none, 3) := by
  have h1 := (decM_eq c bits K K s 0 [] (by omega) fun e he => by cases he).1
  have : c.decR s bits = match (c.decM bits K s 0 []).1 with | some l => (some l, 0) | none => (none, 3) := by
    rw [← hK]; simp only [GCode.decR, hok, hst, hg]; rfl
  rw [this, h1]

theorem ref04_Decode_ret (c : GCode) (s : Int) (nb : Bool) (bits : List Int) : Ret E0 F_ref04_Decode [codeD c, .int .i64 s, .list nb (ints bits)] (.tup [optR (c.decR s bits).1, .int .i64 (c.decR s bits).2]) := by
  refine ret_of_pw dec_ref04_Decode mixed (by simp) fun hwf => ?_
  simp only [wf_int, wf_bool, wf_ints, wf_list, wf_agg, wf_ptr, wf_fn, wf_tup, wf_all_cons, wf_all_nil, wf_all_map, inK_i64, maxLen_eq, List.length_map, ints_len, true_and, and_true, codeD_eq, codeC_eq, rowsD_eq] at hwf
  rw [enter_eq]; unfold pc_ref04_Decode
  cases hok : c.ok with
  | false =>
    have hr : c.decR s bits = (none, 40) := by simp [GCode.decR, hok]
    rw [hr]
    (try (simp -implicitDefEqProofs only [go_sem, codeD_eq, codeC_eq, rowsD_eq, optR_none])); repeat' first | with_reducible exact True.intro | with_reducible refine And.intro ?_ ?_ | with_reducible intro _ | (((with_reducible refine isCall ?_); first | refine call_b (ref04_CheckState_ret c s) rfl ?_ ?_ | refine call_d (ref04_CheckState_ret c s) rfl ?_ | refine call_sb (ref04_CheckState_ret c s) rfl ?_ ?_ | refine call_s (ref04_CheckState_ret c s) rfl rfl ?_) <;> try (simp -implicitDefEqProofs only [go_sem, codeD_eq, codeC_eq, rowsD_eq, optR_none])) | (((with_reducible refine vc_b ?_ ?_) <;> intro _) <;> try (simp -implicitDefEqProofs only [go_sem, codeD_eq, codeC_eq, rowsD_eq, optR_none])) | simp (disch := omega) only [wrapI, wrapU, shl1, shl1', shl1'', shrN, shrN', and_one] | ((with_reducible refine isEx8 ?_); refine ⟨(_, _, _, _, _, _, _, _), rfl, ?_, ?_⟩) | ((with_reducible refine isEx7 ?_); refine ⟨(_, _, _, _, _, _, _), rfl, ?_, ?_⟩) | ((with_reducible refine isEx6 ?_); refine ⟨(_, _, _, _, _, _), rfl, ?_, ?_⟩) | ((with_reducible refine isEx5 ?_); refine ⟨(_, _, _, _, _), rfl, ?_, ?_⟩) | ((with_reducible refine isEx4 ?_); refine ⟨(_, _, _, _), rfl, ?_, ?_⟩) | ((with_reducible refine isEx3 ?_); refine ⟨(_, _, _), rfl, ?_, ?_⟩) | ((with_reducible refine isEx2 ?_); refine ⟨(_, _), rfl, ?_, ?_⟩) | ((with_reducible refine isEx ?_); refine ⟨_, rfl, ?_, ?_⟩)
    all_goals simp_all
  | true =>
  cases hst : c.isState s with
  | false =>
    have hr : c.decR s bits = (none, 41) := by simp [GCode.decR, hok, hst]
    rw [hr]
    (try (simp -implicitDefEqProofs only [go_sem, codeD_eq, codeC_eq, rowsD_eq, optR_none])); repeat' first | with_reducible exact True.intro | with_reducible refine And.intro ?_ ?_ | with_reducible intro _ | (((with_reducible refine isCall ?_); first | refine call_b (ref04_CheckState_ret c s) rfl ?_ ?_ | refine call_d (ref04_CheckState_ret c s) rfl ?_ | refine call_sb (ref04_CheckState_ret c s) rfl ?_ ?_ | refine call_s (ref04_CheckState_ret c s) rfl rfl ?_) <;> try (simp -implicitDefEqProofs only [go_sem, codeD_eq, codeC_eq, rowsD_eq, optR_none])) | (((with_reducible refine vc_b ?_ ?_) <;> intro _) <;> try (simp -implicitDefEqProofs only [go_sem, codeD_eq, codeC_eq, rowsD_eq, optR_none])) | simp (disch := omega) only [wrapI, wrapU, shl1, shl1', shl1'', shrN, shrN', and_one] | ((with_reducible refine isEx8 ?_); refine ⟨(_, _, _, _, _, _, _, _), rfl, ?_, ?_⟩) | ((with_reducible refine isEx7 ?_); refine ⟨(_, _, _, _, _, _, _), rfl, ?_, ?_⟩) | ((with_reducible refine isEx6 ?_); refine ⟨(_, _, _, _, _, _), rfl, ?_, ?_⟩) | ((with_reducible refine isEx5 ?_); refine ⟨(_, _, _, _, _), rfl, ?_, ?_⟩) | ((with_reducible refine isEx4 ?_); refine ⟨(_, _, _, _), rfl, ?_, ?_⟩) | ((with_reducible refine isEx3 ?_); refine ⟨(_, _, _), rfl, ?_, ?_⟩) | ((with_reducible refine isEx2 ?_); refine ⟨(_, _), rfl, ?_, ?_⟩) | ((with_reducible refine isEx ?_); refine ⟨_, rfl, ?_, ?_⟩)
    all_goals simp_all
  | true =>
  have hd := GCode.ok_head hok
  have co := ref04_CheckState_ret c s
  simp only [hok, hst, Bool.not_true, Bool.false_eq_true, if_false] at co
  have hw24 : IntKind.i64.wrap (c.out * 24) = c.out * 24 := wrapI _ (by omega)
  cases hg : (areBits bits && decide ((bits.length : Int).tmod c.out = 0) && decide ((bits.length : Int) ≤ c.out * 24)) with
  | false =>
    have hr : c.decR s bits = (none, 1) := by simp only [GCode.decR, hok, hst, hg]; rfl
    rw [hr]
    (try (simp -implicitDefEqProofs only [go_sem, codeD_eq, codeC_eq, rowsD_eq, optR_none, hw24])); repeat' first | with_reducible exact True.intro | with_reducible refine And.intro ?_ ?_ | with_reducible intro _ | (((with_reducible refine isCall ?_); first | refine call_b (co) rfl ?_ ?_ | refine call_d (co) rfl ?_ | refine call_sb (co) rfl ?_ ?_ | refine call_s (co) rfl rfl ?_ | refine call_b (ref04_AreBits_ret nb bits) rfl ?_ ?_ | refine call_d (ref04_AreBits_ret nb bits) rfl ?_ | refine call_sb (ref04_AreBits_ret nb bits) rfl ?_ ?_ | refine call_s (ref04_AreBits_ret nb bits) rfl rfl ?_) <;> try (simp -implicitDefEqProofs only [go_sem, codeD_eq, codeC_eq, rowsD_eq, optR_none, hw24])) | (((with_reducible refine vc_b ?_ ?_) <;> intro _) <;> try (simp -implicitDefEqProofs only [go_sem, codeD_eq, codeC_eq, rowsD_eq, optR_none, hw24])) | simp (disch := omega) only [wrapI, wrapU, shl1, shl1', shl1'', shrN, shrN', and_one] | ((with_reducible refine isEx8 ?_); refine ⟨(_, _, _, _, _, _, _, _), rfl, ?_, ?_⟩) | ((with_reducible refine isEx7 ?_); refine ⟨(_, _, _, _, _, _, _), rfl, ?_, ?_⟩) | ((with_reducible refine isEx6 ?_); refine ⟨(_, _, _, _, _, _), rfl, ?_, ?_⟩) | ((with_reducible refine isEx5 ?_); refine ⟨(_, _, _, _, _), rfl, ?_, ?_⟩) | ((with_reducible refine isEx4 ?_); refine ⟨(_, _, _, _), rfl, ?_, ?_⟩) | ((with_reducible refine isEx3 ?_); refine ⟨(_, _, _), rfl, ?_, ?_⟩) | ((with_reducible refine isEx2 ?_); refine ⟨(_, _), rfl, ?_, ?_⟩) | ((with_reducible refine isEx ?_); refine ⟨_, rfl, ?_, ?_⟩)
    all_goals first | omega | (simp_all; done) | (exfalso; simp_all; omega)
  | true =>
    have hg' := hg
    simp only [Bool.and_eq_true, decide_eq_true_eq] at hg'
    obtain ⟨⟨hab, hmod⟩, hl24⟩ := hg'
    obtain ⟨k, hk⟩ : ∃ k, bits.length / c.out.toNat = k := ⟨_, rfl⟩
    have hr := decR_eq c s bits hok hst k hk hg
    rw [hr]
    have hkk : (k : Int) * c.out = bits.length := by
      have e1 : (bits.length : Int) % c.out = 0 := by rw [Int.tmod_eq_emod_of_nonneg (by omega)] at hmod; exact hmod
      have e2 : ((k : Nat) : Int) = (bits.length : Int) / c.out := by
        rw [← hk, Int.natCast_ediv]; congr 1; omega
      rw [e2]
      exact Int.ediv_mul_cancel (Int.dvd_of_emod_eq_zero e1)
    have hk24 : k ≤ 24 := by
      have h5 : (k : Int) * c.out ≤ 24 * c.out := by rw [hkk, Int.mul_comm 24]; exact hl24
      have := Int.le_of_mul_le_mul_right h5 (by omega)
      omega
    have ci := ref04_decode_ret c hok s nb bits k hst hkk hk24
    generalize c.decP bits k s 0 = o0 at *
    cases o0 with
    | some l =>
      dsimp only at ci ⊢
      (try (simp -implicitDefEqProofs only [go_sem, codeD_eq, codeC_eq, rowsD_eq, optR_some, Option.isSome_some, hw24])); repeat' first | with_reducible exact True.intro | with_reducible refine And.intro ?_ ?_ | with_reducible intro _ | (((with_reducible refine isCall ?_); first | refine call_b (co) rfl ?_ ?_ | refine call_d (co) rfl ?_ | refine call_sb (co) rfl ?_ ?_ | refine call_s (co) rfl rfl ?_ | refine call_b (ref04_AreBits_ret nb bits) rfl ?_ ?_ | refine call_d (ref04_AreBits_ret nb bits) rfl ?_ | refine call_sb (ref04_AreBits_ret nb bits) rfl ?_ ?_ | refine call_s (ref04_AreBits_ret nb bits) rfl rfl ?_ | refine call_b (ci) rfl ?_ ?_ | refine call_d (ci) rfl ?_ | refine call_sb (ci) rfl ?_ ?_ | refine call_s (ci) rfl rfl ?_) <;> try (simp -implicitDefEqProofs only [go_sem, codeD_eq, codeC_eq, rowsD_eq, optR_some, Option.isSome_some, hw24])) | (((with_reducible refine vc_b ?_ ?_) <;> intro _) <;> try (simp -implicitDefEqProofs only [go_sem, codeD_eq, codeC_eq, rowsD_eq, optR_some, Option.isSome_some, hw24])) | simp (disch := omega) only [wrapI, wrapU, shl1, shl1', shl1'', shrN, shrN', and_one] | ((with_reducible refine isEx8 ?_); refine ⟨(_, _, _, _, _, _, _, _), rfl, ?_, ?_⟩) | ((with_reducible refine isEx7 ?_); refine ⟨(_, _, _, _, _, _, _), rfl, ?_, ?_⟩) | ((with_reducible refine isEx6 ?_); refine ⟨(_, _, _, _, _, _), rfl, ?_, ?_⟩) | ((with_reducible refine isEx5 ?_); refine ⟨(_, _, _, _, _), rfl, ?_, ?_⟩) | ((with_reducible refine isEx4 ?_); refine ⟨(_, _, _, _), rfl, ?_, ?_⟩) | ((with_reducible refine isEx3 ?_); refine ⟨(_, _, _), rfl, ?_, ?_⟩) | ((with_reducible refine isEx2 ?_); refine ⟨(_, _), rfl, ?_, ?_⟩) | ((with_reducible refine isEx ?_); refine ⟨_, rfl, ?_, ?_⟩)
      all_goals first | omega | (simp_all; done)
    | none =>
      dsimp only at ci ⊢
      (try (simp -implicitDefEqProofs only [go_sem, codeD_eq, codeC_eq, rowsD_eq, optR_none, Option.isSome_none, hw24])); repeat' first | with_reducible exact True.intro | with_reducible refine And.intro ?_ ?_ | with_reducible intro _ | (((with_reducible refine isCall ?_); first | refine call_b (co) rfl ?_ ?_ | refine call_d (co) rfl ?_ | refine call_sb (co) rfl ?_ ?_ | refine call_s (co) rfl rfl ?_ | refine call_b (ref04_AreBits_ret nb bits) rfl ?_ ?_ | refine call_d (ref04_AreBits_ret nb bits) rfl ?_ | refine call_sb (ref04_AreBits_ret nb bits) rfl ?_ ?_ | refine call_s (ref04_AreBits_ret nb bits) rfl rfl ?_ | refine call_b (ci) rfl ?_ ?_ | refine call_d (ci) rfl ?_ | refine call_sb (ci) rfl ?_ ?_ | refine call_s (ci) rfl rfl ?_) <;> try (simp -implicitDefEqProofs only [go_sem, codeD_eq, codeC_eq, rowsD_eq, optR_none, Option.isSome_none, hw24])) | (((with_reducible refine vc_b ?_ ?_) <;> intro _) <;> try (simp -implicitDefEqProofs only [go_sem, codeD_eq, codeC_eq, rowsD_eq, optR_none, Option.isSome_none, hw24])) | simp (disch := omega) only [wrapI, wrapU, shl1, shl1', shl1'', shrN, shrN', and_one] | ((with_reducible refine isEx8 ?_); refine ⟨(_, _, _, _, _, _, _, _), rfl, ?_, ?_⟩) | ((with_reducible refine isEx7 ?_); refine ⟨(_, _, _, _, _, _, _), rfl, ?_, ?_⟩) | ((with_reducible refine isEx6 ?_); refine ⟨(_, _, _, _, _, _), rfl, ?_, ?_⟩) | ((with_reducible refine isEx5 ?_); refine ⟨(_, _, _, _, _), rfl, ?_, ?_⟩) | ((with_reducible refine isEx4 ?_); refine ⟨(_, _, _, _), rfl, ?_, ?_⟩) | ((with_reducible refine isEx3 ?_); refine ⟨(_, _, _), rfl, ?_, ?_⟩) | ((with_reducible refine isEx2 ?_); refine ⟨(_, _), rfl, ?_, ?_⟩) | ((with_reducible refine isEx ?_); refine ⟨_, rfl, ?_, ?_⟩)
      all_goals first | omega | (simp_all; done)

/-! the copy -/
def cpR (r : Bool × List Int) : Bool × List Int := (false, r.2)
def copyC (c : GCode) : GCode := ⟨c.bits, c.out, c.least, c.most, c.words.isEmpty, c.words.map cpR, c.next.isEmpty, c.next.map cpR⟩
theorem cp_get (l : Rows) (i : Nat) : ((l.map cpR)[i]?.getD default).2 = (l[i]?.getD default).2 := by
  rw [List.getElem?_map]; cases l[i]? <;> simp [cpR]
theorem head_congr (b o l m : Int) (wn nn wn' nn' : Bool) (w w' n n' : Rows) (hw : w'.length = w.length) (hn : n'.length = n.length) :
    GCode.head ⟨b, o, l, m, wn', w', nn', n'⟩ = GCode.head ⟨b, o, l, m, wn, w, nn, n⟩ := by
  simp only [GCode.head]; rw [hw, hn]
theorem copy_ok (c : GCode) : (copyC c).ok = c.ok := by
  have h : ∀ (n : Nat) (hi : Int) (l : Rows), (l.map cpR).all (rowOk n hi) = l.all (rowOk n hi) := by
    intro n hi l; rw [List.all_map]; rfl
  have hl : ∀ l : Rows, (l.map cpR).length = l.length := fun l => List.length_map ..
  have hh : (copyC c).head = c.head := head_congr _ _ _ _ _ _ _ _ _ _ _ _ (hl c.words) (hl c.next)
  simp only [GCode.ok, hh]; simp only [copyC, h, hl]
theorem copy_wrd (c : GCode) : (copyC c).wrd = c.wrd := by
  funext s w; simp only [GCode.wrd, at2, copyC, cp_get]
theorem copy_nxt (c : GCode) : (copyC c).nxt = c.nxt := by
  funext s w; simp only [GCode.nxt, at2, copyC, cp_get]
theorem copy_state (c : GCode) : (copyC c).isState = c.isState := by
  funext s; simp [GCode.isState, copyC]
theorem copy_stream (c : GCode) : ∀ (l : List Int) (s : Int), (copyC c).stream s l = c.stream s l
  | [], s => rfl
  | w :: l, s => by simp only [GCode.stream, copy_wrd, copy_nxt, copy_stream c l]; rfl
theorem copy_encode (c : GCode) (s : Int) (l : List Int) : (copyC c).encode s l = c.encode s l := by
  simp only [GCode.encode, copy_ok, copy_state, copy_stream]; rfl
theorem copy_decW (c : GCode) (rec : Int → Memo → Option (List Int) × Memo) (s : Int) (own : List Int) : ∀ (n : Nat) (w : Int) (m : Memo), (copyC c).decW rec s own n w m = c.decW rec s own n w m
  | 0, w, m => rfl
  | n + 1, w, m => by simp only [GCode.decW, copy_wrd, copy_nxt, copy_decW c rec s own n]; rfl
theorem copy_decM (c : GCode) (bits : List Int) : ∀ (k : Nat) (s p : Int) (m : Memo), (copyC c).decM bits k s p m = c.decM bits k s p m
  | 0, s, p, m => rfl
  | k + 1, s, p, m => by
    have h1 : (fun s' m' => (copyC c).decM bits k s' (p + 1) m') = fun s' m' => c.decM bits k s' (p + 1) m' := by funext s' m'; exact copy_decM c bits k s' (p + 1) m'
    simp only [GCode.decM, h1, copy_decW]; rfl
theorem copy_decR (c : GCode) (s : Int) (bits : List Int) : (copyC c).decR s bits = c.decR s bits := by
  simp only [GCode.decR, copy_ok, copy_state, copy_decM]; rfl
end Go.Pw
