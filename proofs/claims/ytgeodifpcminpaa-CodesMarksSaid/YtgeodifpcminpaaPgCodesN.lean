/- A part of the proof. -/
import Derived.Test.YtgeodifpcminpaaPgCodesM
import Derived.Test.YtgeodifpcminpaaPgCodesJ
set_option linter.all false
section
open Go Go.Pw Go.Proofs
namespace Go.Pw
set_option linter.unusedSimpArgs false
set_option linter.unusedVariables false
set_option maxRecDepth 100000
set_option maxHeartbeats 800000
attribute [local congr] cg_pw cg_seqI cg_seqE cg_stepI cg_ev cg_evBin cg_condB cg_condV cg_thenQ cg_blockQ cg_onSome cg_onCells cg_onRow cg_onRow2 cg_frhV cg_frhO cg_onMap cg_onOpt cg_ghosts cg_ghost cg_evCall cg_part cg_rng cg_guardV cg_frzV cg_frpV cg_ownV cg_owcV cg_occV cg_occX cg_resK cg_res1 cg_yldP cg_rndE cg_onlyN cg_onHist
attribute [local irreducible] IntKind.wrap bitsOp Option.getD and or

def GCode.apFirst (c : GCode) (mark : List Int) (s : Int) : Nat → Int → Int → Memo → Int × Memo
  | 0, _, least, m => (least, m)
  | k + 1, f, least, m => c.apFirst mark s k (f + 1) (min least (c.apM 16 s f mark m).1) (c.apM 16 s f mark m).2
def GCode.apStates (c : GCode) (mark : List Int) : Nat → Int → Int → Memo → Int × Memo
  | 0, _, least, m => (least, m)
  | k + 1, s, least, m => c.apStates mark k (s + 1) (c.apFirst mark s c.out.toNat 0 least m).1 (c.apFirst mark s c.out.toNat 0 least m).2
def GCode.apart (c : GCode) (mark : List Int) : Int := (c.apStates mark c.words.length 0 16 []).1
def GCode.apartR (c : GCode) (mark : List Int) : Int × Int := if !c.ok then (0, 40) else if !isMarkB mark then (0, 1) else (c.apart mark, 0)

theorem apFirst_bound (c : GCode) (mark : List Int) (s : Int) : ∀ (n : Nat) (f least : Int) (m : Memo), 0 ≤ least ∧ least ≤ 16 → MemB m → (0 ≤ (c.apFirst mark s n f least m).1 ∧ (c.apFirst mark s n f least m).1 ≤ 16) ∧ MemB (c.apFirst mark s n f least m).2
  | 0, f, least, m, h1, h2 => ⟨h1, h2⟩
  | n + 1, f, least, m, h1, h2 => by
    simp only [GCode.apFirst]
    obtain ⟨h3, h4⟩ := apM_bound c 16 s f mark m h2
    exact apFirst_bound c mark s n _ _ _ ⟨by omega, by omega⟩ h4
theorem apStates_bound (c : GCode) (mark : List Int) : ∀ (n : Nat) (s least : Int) (m : Memo), 0 ≤ least ∧ least ≤ 16 → MemB m → 0 ≤ (c.apStates mark n s least m).1 ∧ (c.apStates mark n s least m).1 ≤ 16
  | 0, s, least, m, h1, h2 => h1
  | n + 1, s, least, m, h1, h2 => by
    simp only [GCode.apStates]
    obtain ⟨h3, h4⟩ := apFirst_bound c mark s c.out.toNat 0 least m h1 h2
    exact apStates_bound c mark n _ _ _ h3 h4

theorem codes_Apart_ret (c : GCode) (nl : Bool) (mark : List Int) : Ret E0 F_codes_Apart [codeD c, .list nl (ints mark)] (.tup [.int .i64 (c.apartR mark).1, .int .i64 (c.apartR mark).2]) := by
  refine ret_of_pw dec_codes_Apart mixed (by simp) fun hwf => ?_
  rw [enter_eq]; unfold pc_codes_Apart
  cases hok : c.ok with
  | false =>
    have ho : c.apartR mark = (0, 40) := by simp [GCode.apartR, hok]
    rw [ho]
    (try (simp -implicitDefEqProofs only [go_sem, codeD_eq, codeC_eq, rowsD_eq])); repeat' first | with_reducible exact True.intro | with_reducible refine And.intro ?_ ?_ | with_reducible intro _ | (((with_reducible refine isCall ?_); first | refine call_b (codes_Check_ret c) rfl ?_ ?_ | refine call_d (codes_Check_ret c) rfl ?_ | refine call_sb (codes_Check_ret c) rfl ?_ ?_ | refine call_s (codes_Check_ret c) rfl rfl ?_ | refine call_b (codes_isMark_ret nl mark) rfl ?_ ?_ | refine call_d (codes_isMark_ret nl mark) rfl ?_ | refine call_sb (codes_isMark_ret nl mark) rfl ?_ ?_ | refine call_s (codes_isMark_ret nl mark) rfl rfl ?_) <;> try (simp -implicitDefEqProofs only [go_sem, codeD_eq, codeC_eq, rowsD_eq])) | (((with_reducible refine vc_b ?_ ?_) <;> intro _) <;> try (simp -implicitDefEqProofs only [go_sem, codeD_eq, codeC_eq, rowsD_eq])) | simp (disch := omega) only [wrapI, wrapU, shl1, shl1', shl1'', shrN, shrN', and_one] | ((with_reducible refine isEx3 ?_); refine ⟨(_, _, _), rfl, ?_, ?_⟩)
    all_goals simp_all [errI]
  | true =>
    have hd := GCode.ok_head hok
    cases hmk : isMarkB mark with
    | false =>
      have ho : c.apartR mark = (0, 1) := by simp [GCode.apartR, hok, hmk]
      rw [ho]
      simp only [isMarkB] at hmk
      (try (simp -implicitDefEqProofs only [go_sem, codeD_eq, codeC_eq, rowsD_eq])); repeat' first | with_reducible exact True.intro | with_reducible refine And.intro ?_ ?_ | with_reducible intro _ | (((with_reducible refine isCall ?_); first | refine call_b (codes_Check_ret c) rfl ?_ ?_ | refine call_d (codes_Check_ret c) rfl ?_ | refine call_sb (codes_Check_ret c) rfl ?_ ?_ | refine call_s (codes_Check_ret c) rfl rfl ?_ | refine call_b (codes_isMark_ret nl mark) rfl ?_ ?_ | refine call_d (codes_isMark_ret nl mark) rfl ?_ | refine call_sb (codes_isMark_ret nl mark) rfl ?_ ?_ | refine call_s (codes_isMark_ret nl mark) rfl rfl ?_) <;> try (simp -implicitDefEqProofs only [go_sem, codeD_eq, codeC_eq, rowsD_eq])) | (((with_reducible refine vc_b ?_ ?_) <;> intro _) <;> try (simp -implicitDefEqProofs only [go_sem, codeD_eq, codeC_eq, rowsD_eq])) | simp (disch := omega) only [wrapI, wrapU, shl1, shl1', shl1'', shrN, shrN', and_one] | ((with_reducible refine isEx3 ?_); refine ⟨(_, _, _), rfl, ?_, ?_⟩)
      all_goals simp_all [errI]
    | true =>
      have ho : c.apartR mark = (c.apart mark, 0) := by simp [GCode.apartR, hok, hmk]
      rw [ho]
      have hmb : areBits mark = true := by simp only [isMarkB, Bool.and_eq_true] at hmk; exact hmk.2
      have hm1 : 1 ≤ mark.length ∧ mark.length ≤ 16 := by simp [isMarkB, inR] at hmk; omega
      simp only [isMarkB] at hmk
      (try (simp -implicitDefEqProofs only [go_sem, codeD_eq, codeC_eq, rowsD_eq])); repeat' first | with_reducible exact True.intro | with_reducible refine And.intro ?_ ?_ | with_reducible intro _ | (((with_reducible refine isCall ?_); first | refine call_b (codes_Check_ret c) rfl ?_ ?_ | refine call_d (codes_Check_ret c) rfl ?_ | refine call_sb (codes_Check_ret c) rfl ?_ ?_ | refine call_s (codes_Check_ret c) rfl rfl ?_ | refine call_b (codes_isMark_ret nl mark) rfl ?_ ?_ | refine call_d (codes_isMark_ret nl mark) rfl ?_ | refine call_sb (codes_isMark_ret nl mark) rfl ?_ ?_ | refine call_s (codes_isMark_ret nl mark) rfl rfl ?_) <;> try (simp -implicitDefEqProofs only [go_sem, codeD_eq, codeC_eq, rowsD_eq])) | (((with_reducible refine vc_b ?_ ?_) <;> intro _) <;> try (simp -implicitDefEqProofs only [go_sem, codeD_eq, codeC_eq, rowsD_eq])) | simp (disch := omega) only [wrapI, wrapU, shl1, shl1', shl1'', shrN, shrN', and_one] | ((with_reducible refine isEx3 ?_); refine ⟨(_, _, _), rfl, ?_, ?_⟩)
      all_goals try (exfalso; simp_all [errI]; done)
      refine pw_loopS (α := Int × Int × Memo) (l0 := ?l1) (m0 := ?m1) (fun x => [(27, .d (.int .i64 x.1)), (9, .d (.int .i64 x.2.1))]) (fun x => [(22, .map tyP (memD x.2.2))]) (fun x => 0 ≤ x.1 ∧ x.1 ≤ c.words.length ∧ (0 ≤ x.2.1 ∧ x.2.1 ≤ 16) ∧ MemB x.2.2 ∧ (c.apStates mark (c.words.length - x.1.toNat) x.1 x.2.1 x.2.2).1 = c.apart mark) (fun x => (c.words.length - x.1).toNat) (?a1_0, ?a1_1, []) ?h01 ?he1 ?he21 ?hI1 ?step1
      case h01 => (simp -implicitDefEqProofs only [go_sem]; rfl)
      case he1 => rfl
      case he21 => rfl
      case' step1 => (rintro ⟨s, least, m⟩ hI; try dsimp only at hI)
      case' hI1 => try dsimp only
      · exact ⟨by omega, by omega, by omega, fun e he => (by cases he), rfl⟩
      · obtain ⟨hs0, hsW, hl, hm, heq⟩ := hI
        by_cases hs : s < c.words.length
        · have hst : c.isState s = true := by simp only [GCode.isState, inR, decide_eq_true_eq]; omega
          have hstep : (c.apStates mark (c.words.length - s.toNat) s least m).1 = (c.apStates mark (c.words.length - (s + 1).toNat) (s + 1) (c.apFirst mark s c.out.toNat 0 least m).1 (c.apFirst mark s c.out.toNat 0 least m).2).1 := by
            rw [show c.words.length - s.toNat = (c.words.length - (s + 1).toNat) + 1 by omega]
            simp only [GCode.apStates]
          rw [hstep] at heq
          have hfb := apFirst_bound c mark s c.out.toNat 0 least m hl hm
          (try (simp -implicitDefEqProofs only [go_sem, codeD_eq, codeC_eq, rowsD_eq])); repeat' first | with_reducible exact True.intro | with_reducible refine And.intro ?_ ?_ | with_reducible intro _ | (((with_reducible refine vc_b ?_ ?_) <;> intro _) <;> try (simp -implicitDefEqProofs only [go_sem, codeD_eq, codeC_eq, rowsD_eq])) | simp (disch := omega) only [wrapI, wrapU, shl1, shl1', shl1'', shrN, shrN', and_one] | ((with_reducible refine isEx3 ?_); refine ⟨(_, _, _), rfl, ?_, ?_⟩)
          all_goals first | omega | (simp; done) | (simp; omega) | skip
          refine pw_loopS (α := Int × Int × Memo) (l0 := ?l2) (m0 := ?m2) (fun x => [(33, .d (.int .i64 x.1)), (9, .d (.int .i64 x.2.1))]) (fun x => [(22, .map tyP (memD x.2.2))]) (fun x => 0 ≤ x.1 ∧ x.1 ≤ c.out ∧ (0 ≤ x.2.1 ∧ x.2.1 ≤ 16) ∧ MemB x.2.2 ∧ c.apFirst mark s (c.out.toNat - x.1.toNat) x.1 x.2.1 x.2.2 = c.apFirst mark s c.out.toNat 0 least m) (fun x => (c.out - x.1).toNat) (?a2_0, least, m) ?h02 ?he2 ?he22 ?hI2 ?step2
          case h02 => (simp -implicitDefEqProofs only [go_sem]; rfl)
          case he2 => rfl
          case he22 => rfl
          case' step2 => (rintro ⟨f, lst, mm⟩ hI2; try dsimp only at hI2)
          case' hI2 => try dsimp only
          · exact ⟨by omega, by omega, by omega, hm, by simp⟩
          · obtain ⟨hf0, hfW, hl2, hm2, heq2⟩ := hI2
            by_cases hf : f < c.out
            · have hstep2 : c.apFirst mark s (c.out.toNat - f.toNat) f lst mm = c.apFirst mark s (c.out.toNat - (f + 1).toNat) (f + 1) (min lst (c.apM 16 s f mark mm).1) (c.apM 16 s f mark mm).2 := by
                rw [show c.out.toNat - f.toNat = (c.out.toNat - (f + 1).toNat) + 1 by omega]
                simp only [GCode.apFirst]
              rw [hstep2] at heq2
              have hrb := apM_bound c 16 s f mark mm hm2
              have ci := codes_code_apart_ret c hok 16 s f nl mark mm hst hf0 hf hmb hm1.2 hm1.2 hm2
              generalize c.apM 16 s f mark mm = R0 at *
              (try (simp -implicitDefEqProofs only [go_sem, codeD_eq, codeC_eq, rowsD_eq])); repeat' first | with_reducible exact True.intro | with_reducible refine And.intro ?_ ?_ | with_reducible intro _ | (((with_reducible refine isCall ?_); first | (refine call_m ([((900004, 0), (22, 0))]) ([((900004, 0), (22, 0))]) (ci) (by repeat' first | exact True.intro | exact rfl | refine And.intro ?_ ?_) (by simp [Handed, Ren.get, AObj.ren, AV.ren, AV.ren.renL, View.get, lookO, callF, newS, View.reach, AV.sites, AV.sites.sitesL, View.osites]) (by simp [namesOk, hasN, nodupB, Ren.get, newS, lim, upd]) (by rfl) (by simp only [backC, Ren.get, AObj.ren, AV.ren, AV.ren.renL, and_self, and_true, true_and, if_true, reduceIte]; rfl) ?_)) <;> try (simp -implicitDefEqProofs only [go_sem, codeD_eq, codeC_eq, rowsD_eq])) | (((with_reducible refine vc_b ?_ ?_) <;> intro _) <;> try (simp -implicitDefEqProofs only [go_sem, codeD_eq, codeC_eq, rowsD_eq])) | simp (disch := omega) only [wrapI, wrapU, shl1, shl1', shl1'', shrN, shrN', and_one] | ((with_reducible refine isEx3 ?_); refine ⟨(_, _, _), rfl, ?_, ?_⟩)
              all_goals (try simp (disch := omega) only [wrapI, wrapU, shl1, shl1', shl1'', shrN, shrN', and_one] at *)
              all_goals first | omega | (simp; done) | (simp; omega) | skip
              all_goals exact hrb.2
            · have hz : c.out.toNat - f.toNat = 0 := by omega
              rw [hz, GCode.apFirst] at heq2
              rw [← heq2] at hfb heq
              (try (simp -implicitDefEqProofs only [go_sem, codeD_eq, codeC_eq, rowsD_eq])); repeat' first | with_reducible exact True.intro | with_reducible refine And.intro ?_ ?_ | with_reducible intro _ | (((with_reducible refine vc_b ?_ ?_) <;> intro _) <;> try (simp -implicitDefEqProofs only [go_sem, codeD_eq, codeC_eq, rowsD_eq])) | simp (disch := omega) only [wrapI, wrapU, shl1, shl1', shl1'', shrN, shrN', and_one] | ((with_reducible refine isEx3 ?_); refine ⟨(_, _, _), rfl, ?_, ?_⟩)
              all_goals first | omega | (simp; done) | (simp; omega) | skip
              all_goals first | exact hfb.2 | exact heq
        · have hz : c.words.length - s.toNat = 0 := by omega
          rw [hz, GCode.apStates] at heq
          (try (simp -implicitDefEqProofs only [go_sem, codeD_eq, codeC_eq, rowsD_eq])); repeat' first | with_reducible exact True.intro | with_reducible refine And.intro ?_ ?_ | with_reducible intro _ | (((with_reducible refine vc_b ?_ ?_) <;> intro _) <;> try (simp -implicitDefEqProofs only [go_sem, codeD_eq, codeC_eq, rowsD_eq])) | simp (disch := omega) only [wrapI, wrapU, shl1, shl1', shl1'', shrN, shrN', and_one] | ((with_reducible refine isEx3 ?_); refine ⟨(_, _, _), rfl, ?_, ?_⟩)
          all_goals first | omega | (simp; done) | (simp; omega) | skip
          all_goals (rw [← heq]; done)

theorem ref04_Distance_ret (n1 n2 : Bool) (xs ys : List Int) (at_ : Int) (h0 : 0 ≤ at_) (hl : at_ + xs.length ≤ ys.length) (h128 : xs.length ≤ 1000000) (h129 : ys.length ≤ 1000000) :
    Ret E0 F_ref04_Distance [.list n1 (ints xs), .list n2 (ints ys), .int .i64 at_] (.int .i64 (dist xs (ys.drop at_.toNat))) := by
  refine ret_of_pw dec_ref04_Distance mixed (by simp) fun hwf => ?_
  rw [enter_eq]; unfold pc_ref04_Distance
  simp -implicitDefEqProofs only [go_sem]
  obtain ⟨Y, hY⟩ : ∃ Y, ys.drop at_.toNat = Y := ⟨_, rfl⟩
  have hYl : Y.length = ys.length - at_.toNat := by rw [← hY]; simp
  rw [hY]
  refine pw_loopS (α := Int × Int) (l0 := ?l3) (m0 := ?m3) (fun x => [(8, .d (.int .i64 x.1)), (7, .d (.int .i64 x.2))]) (fun x => []) (fun x => 0 ≤ x.1 ∧ x.1 ≤ xs.length ∧ 0 ≤ x.2 ∧ x.2 ≤ x.1 ∧ x.2 + dist (xs.drop x.1.toNat) (Y.drop x.1.toNat) = dist xs Y) (fun x => (xs.length - x.1).toNat) (?a3_0, ?a3_1) ?h03 ?he3 ?he23 ?hI3 ?step3
  case h03 => (simp -implicitDefEqProofs only [go_sem]; rfl)
  case he3 => rfl
  case he23 => rfl
  case' step3 => (rintro ⟨i, n⟩ hI; try dsimp only at hI)
  case' hI3 => try dsimp only
  · simp
  · obtain ⟨hi0, hi1, hn0, hn1, heq⟩ := hI
    by_cases hi : i < xs.length
    · have hg : Y[i.toNat]?.getD 0 = ys[(at_ + i).toNat]?.getD 0 := by
        rw [← hY, List.getElem?_drop, show at_.toNat + i.toNat = (at_ + i).toNat by omega]
      have hd : dist (xs.drop i.toNat) (Y.drop i.toNat) = (if xs[i.toNat]?.getD 0 = ys[(at_ + i).toNat]?.getD 0 then 0 else 1) + dist (xs.drop (i + 1).toNat) (Y.drop (i + 1).toNat) := by
        rw [drop_get (xs := xs) (i := i.toNat) (by omega), drop_get (xs := Y) (i := i.toNat) (by omega), dist, hg, show (i + 1).toNat = i.toNat + 1 by omega]
      rw [hd] at heq
      have hwr : IntKind.i64.wrap (at_ + i) = at_ + i := wrapI _ (by omega)
      (try (simp -implicitDefEqProofs only [go_sem, hwr])); repeat' first | with_reducible exact True.intro | with_reducible refine And.intro ?_ ?_ | with_reducible intro _ | (((with_reducible refine vc_b ?_ ?_) <;> intro _) <;> try (simp -implicitDefEqProofs only [go_sem, hwr])) | simp (disch := omega) only [wrapI, wrapU, shl1, shl1', shl1'', shrN, shrN', and_one] | ((with_reducible refine isEx2 ?_); refine ⟨(_, _), rfl, ?_, ?_⟩)
      all_goals first | omega | (simp; done) | (simp; omega) | skip
      all_goals simp_all
      all_goals omega
    · (try (simp -implicitDefEqProofs only [go_sem])); repeat' first | with_reducible exact True.intro | with_reducible refine And.intro ?_ ?_ | with_reducible intro _ | (((with_reducible refine vc_b ?_ ?_) <;> intro _) <;> try (simp -implicitDefEqProofs only [go_sem])) | simp (disch := omega) only [wrapI, wrapU, shl1, shl1', shl1'', shrN, shrN', and_one] | ((with_reducible refine isEx2 ?_); refine ⟨(_, _), rfl, ?_, ?_⟩)
      all_goals first | omega | (simp; done) | (simp; omega) | skip
      have h0 : xs.drop i.toNat = [] := List.drop_eq_nil_of_le (by omega)
      rw [h0, show dist [] (Y.drop i.toNat) = 0 by simp [dist]] at heq
      rw [← heq]; simp

theorem ref04_IsMark_ret (nl : Bool) (xs : List Int) : Ret E0 F_ref04_IsMark [.list nl (ints xs)] (.bool (isMarkB xs)) := by
  refine ret_of_pw dec_ref04_IsMark mixed (by simp) fun hwf => ?_
  rw [enter_eq]; unfold pc_ref04_IsMark
  (try (simp -implicitDefEqProofs only [go_sem])); repeat' first | with_reducible exact True.intro | with_reducible refine And.intro ?_ ?_ | with_reducible intro _ | (((with_reducible refine isCall ?_); first | refine call_b (ref04_within_ret _ _ _) rfl ?_ ?_ | refine call_d (ref04_within_ret _ _ _) rfl ?_ | refine call_sb (ref04_within_ret _ _ _) rfl ?_ ?_ | refine call_s (ref04_within_ret _ _ _) rfl rfl ?_ | refine call_b (ref04_AreBits_ret nl xs) rfl ?_ ?_ | refine call_d (ref04_AreBits_ret nl xs) rfl ?_ | refine call_sb (ref04_AreBits_ret nl xs) rfl ?_ ?_ | refine call_s (ref04_AreBits_ret nl xs) rfl rfl ?_) <;> try (simp -implicitDefEqProofs only [go_sem])) | (((with_reducible refine vc_b ?_ ?_) <;> intro _) <;> try (simp -implicitDefEqProofs only [go_sem])) | simp (disch := omega) only [wrapI, wrapU, shl1, shl1', shl1'', shrN, shrN', and_one] 
  all_goals simp_all [isMarkB]

def stainF (bits : List Int) : List Int → List Int → List Int
  | out, [] => out
  | out, s :: l => stainF bits (if 0 ≤ s ∧ s < bits.length then out.set s.toNat (1 - bits[s.toNat]?.getD 0) else out) l
theorem stainF_len (bits : List Int) : ∀ (l out : List Int), (stainF bits out l).length = out.length
  | [], out => rfl
  | s :: l, out => by simp only [stainF]; rw [stainF_len bits l]; split <;> simp

theorem law04_stained_ret (n1 n2 : Bool) (bits spots : List Int) (hb : areBits bits = true) (h1000 : bits.length ≤ 1000000) : Ret E0 F_law04_stained [.list n1 (ints bits), .list n2 (ints spots)] (.list false (ints (stainF bits bits spots))) := by
  refine ret_of_pw dec_law04_stained mixed (by simp) fun hwf => ?_
  simp only [wf_int, wf_bool, wf_ints, wf_list, wf_agg, wf_ptr, wf_fn, wf_tup, wf_all_cons, wf_all_nil, wf_all_map, inK_i64, maxLen_eq, List.length_map, ints_len, true_and, and_true] at hwf
  rw [enter_eq]; unfold pc_law04_stained
  by_cases hb0 : bits = []
  · subst hb0
    have h0 : ∀ l : List Int, stainF [] [] l = [] := fun l => by
      have := stainF_len [] l []
      exact List.length_eq_zero_iff.1 (by simpa using this)
    rw [h0]
    (try (simp -implicitDefEqProofs only [go_sem])); repeat' first | with_reducible exact True.intro | with_reducible refine And.intro ?_ ?_ | with_reducible intro _ | (((with_reducible refine vc_b ?_ ?_) <;> intro _) <;> try (simp -implicitDefEqProofs only [go_sem])) | simp (disch := omega) only [wrapI, wrapU, shl1, shl1', shl1'', shrN, shrN', and_one] | ((with_reducible refine isEx2 ?_); refine ⟨(_, _), rfl, ?_, ?_⟩) | ((with_reducible refine isEx ?_); refine ⟨_, rfl, ?_, ?_⟩)
    all_goals first | omega | (simp; done) | (simp; omega) | skip
    all_goals try (exfalso; simp_all; done)
    refine pw_loopS (α := Int) (l0 := ?l4) (m0 := ?m4) (fun x => [(6, .d (.int .i64 x))]) (fun x => []) (fun x => 0 ≤ x ∧ x ≤ spots.length) (fun x => (spots.length - x).toNat) ?a4_0 ?h04 ?he4 ?he24 ?hI4 ?step4
    case h04 => (simp -implicitDefEqProofs only [go_sem]; rfl)
    case he4 => rfl
    case he24 => rfl
    case' step4 => (rintro i hI; try dsimp only at hI)
    case' hI4 => try dsimp only
    · omega
    · by_cases hi : i < spots.length
      · (try (simp -implicitDefEqProofs only [go_sem])); repeat' first | with_reducible exact True.intro | with_reducible refine And.intro ?_ ?_ | with_reducible intro _ | (((with_reducible refine vc_b ?_ ?_) <;> intro _) <;> try (simp -implicitDefEqProofs only [go_sem])) | simp (disch := omega) only [wrapI, wrapU, shl1, shl1', shl1'', shrN, shrN', and_one] | ((with_reducible refine isEx2 ?_); refine ⟨(_, _), rfl, ?_, ?_⟩) | ((with_reducible refine isEx ?_); refine ⟨_, rfl, ?_, ?_⟩)
        all_goals first | omega | (simp; done) | (simp; omega) | skip
      · (try (simp -implicitDefEqProofs only [go_sem])); repeat' first | with_reducible exact True.intro | with_reducible refine And.intro ?_ ?_ | with_reducible intro _ | (((with_reducible refine vc_b ?_ ?_) <;> intro _) <;> try (simp -implicitDefEqProofs only [go_sem])) | simp (disch := omega) only [wrapI, wrapU, shl1, shl1', shl1'', shrN, shrN', and_one] | ((with_reducible refine isEx2 ?_); refine ⟨(_, _), rfl, ?_, ?_⟩) | ((with_reducible refine isEx ?_); refine ⟨_, rfl, ?_, ?_⟩)
        all_goals first | omega | (simp; done) | (simp; omega) | skip
  · (try (simp -implicitDefEqProofs only [go_sem])); repeat' first | with_reducible exact True.intro | with_reducible refine And.intro ?_ ?_ | with_reducible intro _ | (((with_reducible refine vc_b ?_ ?_) <;> intro _) <;> try (simp -implicitDefEqProofs only [go_sem])) | simp (disch := omega) only [wrapI, wrapU, shl1, shl1', shl1'', shrN, shrN', and_one] | ((with_reducible refine isEx2 ?_); refine ⟨(_, _), rfl, ?_, ?_⟩) | ((with_reducible refine isEx ?_); refine ⟨_, rfl, ?_, ?_⟩)
    all_goals first | omega | (simp; done) | (simp; omega) | skip
    all_goals try (exfalso; simp_all; done)
    refine pw_loopS (α := Int × (List Int)) (l0 := ?l5) (m0 := ?m5) (fun x => [(6, .d (.int .i64 x.1))]) (fun x => [(9, .row T_int 1 false (ints x.2))]) (fun x => 0 ≤ x.1 ∧ x.1 ≤ spots.length ∧ x.2.length = bits.length ∧ stainF bits x.2 (spots.drop x.1.toNat) = stainF bits bits spots) (fun x => (spots.length - x.1).toNat) (?a5_0, bits) ?h05 ?he5 ?he25 ?hI5 ?step5
    case h05 => (simp -implicitDefEqProofs only [go_sem]; rfl)
    case he5 => rfl
    case he25 => rfl
    case' step5 => (rintro ⟨i, acc⟩ hI2; try dsimp only at hI2)
    case' hI5 => try dsimp only
    · simp
    · obtain ⟨hi0, hi1, hl, heq⟩ := hI2
      by_cases hi : i < spots.length
      · have hstep : stainF bits acc (spots.drop i.toNat) = stainF bits (if 0 ≤ (spots[i.toNat]?.getD 0) ∧ (spots[i.toNat]?.getD 0) < bits.length then acc.set (spots[i.toNat]?.getD 0).toNat (1 - bits[(spots[i.toNat]?.getD 0).toNat]?.getD 0) else acc) (spots.drop (i + 1).toNat) := by
          rw [drop_get (xs := spots) (i := i.toNat) (by omega), stainF, show (i + 1).toNat = i.toNat + 1 by omega]
        rw [hstep] at heq
        by_cases hin : 0 ≤ (spots[i.toNat]?.getD 0) ∧ (spots[i.toNat]?.getD 0) < bits.length
        · rw [if_pos hin] at heq
          have hbit := areBits_get hb (i := (spots[i.toNat]?.getD 0).toNat) (by omega)
          (try (simp -implicitDefEqProofs only [go_sem])); repeat' first | with_reducible exact True.intro | with_reducible refine And.intro ?_ ?_ | with_reducible intro _ | (((with_reducible refine vc_b ?_ ?_) <;> intro _) <;> try (simp -implicitDefEqProofs only [go_sem])) | simp (disch := omega) only [wrapI, wrapU, shl1, shl1', shl1'', shrN, shrN', and_one] | ((with_reducible refine isEx2 ?_); refine ⟨(_, _), rfl, ?_, ?_⟩) | ((with_reducible refine isEx ?_); refine ⟨_, rfl, ?_, ?_⟩)
          all_goals (try simp (disch := omega) only [wrapI, wrapU, shl1, shl1', shl1'', shrN, shrN', and_one] at *)
          all_goals first | omega | (simp; done) | (simp; omega) | skip
          all_goals first | exact heq | (simp_all; done)
        · rw [if_neg hin] at heq
          (try (simp -implicitDefEqProofs only [go_sem])); repeat' first | with_reducible exact True.intro | with_reducible refine And.intro ?_ ?_ | with_reducible intro _ | (((with_reducible refine vc_b ?_ ?_) <;> intro _) <;> try (simp -implicitDefEqProofs only [go_sem])) | simp (disch := omega) only [wrapI, wrapU, shl1, shl1', shl1'', shrN, shrN', and_one] | ((with_reducible refine isEx2 ?_); refine ⟨(_, _), rfl, ?_, ?_⟩) | ((with_reducible refine isEx ?_); refine ⟨_, rfl, ?_, ?_⟩)
          all_goals first | omega | (simp; done) | (simp; omega) | skip
          all_goals first | exact heq | (simp_all; done)
      · (try (simp -implicitDefEqProofs only [go_sem])); repeat' first | with_reducible exact True.intro | with_reducible refine And.intro ?_ ?_ | with_reducible intro _ | (((with_reducible refine vc_b ?_ ?_) <;> intro _) <;> try (simp -implicitDefEqProofs only [go_sem])) | simp (disch := omega) only [wrapI, wrapU, shl1, shl1', shl1'', shrN, shrN', and_one] | ((with_reducible refine isEx2 ?_); refine ⟨(_, _), rfl, ?_, ?_⟩) | ((with_reducible refine isEx ?_); refine ⟨_, rfl, ?_, ?_⟩)
        all_goals first | omega | (simp; done) | (simp; omega) | skip
        have h0 : spots.drop i.toNat = [] := List.drop_eq_nil_of_le (by omega)
        rw [h0, stainF] at heq
        rw [← heq]
end Go.Pw
end
section
open Go Go.Pw Go.Proofs
namespace Go.Pw
set_option linter.unusedSimpArgs false
set_option linter.unusedVariables false

def GCode.apPW (c : GCode) (rec : Int → List Int → Int) (s first : Int) (mark : List Int) : Nat → Int → Int → Int
  | 0, _, least => least
  | k + 1, w, least =>
    let bits := (bitsOf c.out.toNat (c.wrd s w)).drop first.toNat
    let n := min mark.length bits.length
    c.apPW rec s first mark k (w + 1) (min least (dist (mark.take n) bits + rec (c.nxt s w) (mark.drop n)))
def GCode.apP (c : GCode) : Nat → Int → Int → List Int → Int
  | 0, _, _, _ => 0
  | n + 1, s, first, mark => if mark = [] then 0 else c.apPW (fun s' mk => c.apP n s' 0 mk) s first mark c.W 0 16

theorem apPW_congr (c : GCode) {r r' : Int → List Int → Int} {s f : Int} {mark : List Int} (h : ∀ s' k, 1 ≤ k → r s' (mark.drop k) = r' s' (mark.drop k)) (hm : mark ≠ []) (hf : f.toNat < c.out.toNat) : ∀ (n : Nat) (w least : Int), c.apPW r s f mark n w least = c.apPW r' s f mark n w least
  | 0, _, _ => rfl
  | n + 1, w, least => by
    simp only [GCode.apPW]
    have h1 := List.length_pos_iff.2 hm
    have h2 := bitsOf_length c.out.toNat (c.wrd s w)
    rw [h _ _ (by simp [h2]; omega), apPW_congr c h hm hf n]

theorem apP_fuel (c : GCode) : ∀ (n : Nat) (s f : Int) (mark : List Int), mark.length ≤ n → f.toNat < c.out.toNat → c.apP n s f mark = c.apP mark.length s f mark := by
  intro n
  induction n using Nat.strongRecOn with
  | _ n ih =>
    intro s f mark hl hf
    cases n with
    | zero => rw [show mark.length = 0 by omega]
    | succ n =>
      by_cases hm : mark = []
      · subst hm; simp [GCode.apP]
      · obtain ⟨k, hk⟩ : ∃ k, mark.length = k + 1 := ⟨mark.length - 1, by have := List.length_pos_iff.2 hm; omega⟩
        rw [hk]
        simp only [GCode.apP, hm, if_false]
        refine apPW_congr c (fun s' j hj => ?_) hm hf _ _ _
        rw [ih n (by omega) s' 0 (mark.drop j) (by simp; omega) (by simp; omega)]
        by_cases hkn : k = n
        · subst hkn; exact (ih k (by omega) s' 0 (mark.drop j) (by simp; omega) (by simp; omega)).symm
        · exact (ih k (by omega) s' 0 (mark.drop j) (by simp; omega) (by simp; omega)).symm

/-- What the table says is right. -/
def GCode.MemGood (c : GCode) (M : List Int) (m : Memo) : Prop := ∀ e, e ∈ m → 0 ≤ e.1.2 ∧ e.1.2 ≤ M.length ∧ e.2 = c.apP e.1.2.toNat e.1.1 0 (M.drop (M.length - e.1.2.toNat))

theorem apW_eq (c : GCode) {M : List Int} {rec : Int → List Int → Memo → Int × Memo} {r : Int → List Int → Int} {s f : Int} {mark : List Int}
    (h : ∀ s' k m, 1 ≤ k → c.MemGood M m → (rec s' (mark.drop k) m).1 = r s' (mark.drop k) ∧ c.MemGood M (rec s' (mark.drop k) m).2) (hm : mark ≠ []) (hf : f.toNat < c.out.toNat) :
    ∀ (n : Nat) (w least : Int) (m : Memo), c.MemGood M m → (c.apW rec s f mark n w least m).1 = c.apPW r s f mark n w least ∧ c.MemGood M (c.apW rec s f mark n w least m).2
  | 0, _, _, m, hg => ⟨rfl, hg⟩
  | n + 1, w, least, m, hg => by
    simp only [GCode.apPW, GCode.apW]
    have h1 := List.length_pos_iff.2 hm
    have h2 := bitsOf_length c.out.toNat (c.wrd s w)
    obtain ⟨h3, h4⟩ := h (c.nxt s w) (min mark.length ((bitsOf c.out.toNat (c.wrd s w)).drop f.toNat).length) m (by simp [h2]; omega) hg
    rw [h3]
    exact apW_eq c h hm hf n _ _ _ h4

theorem drop_suffix {mark M : List Int} (h1 : mark = M.drop (M.length - mark.length)) (h2 : mark.length ≤ M.length) (k : Nat) : mark.drop k = M.drop (M.length - (mark.drop k).length) := by
  rw [List.length_drop]
  obtain ⟨j, hj⟩ : ∃ j, M.length - mark.length = j := ⟨_, rfl⟩
  obtain ⟨len, hlen⟩ : ∃ len, mark.length = len := ⟨_, rfl⟩
  rw [hj] at h1
  rw [hlen] at h2 hj ⊢
  by_cases hk : k ≤ len
  · rw [h1, List.drop_drop]; congr 1; omega
  · rw [List.drop_eq_nil_of_le (by omega), List.drop_eq_nil_of_le (by omega)]

theorem apM_eq (c : GCode) {M : List Int} (ho : 1 ≤ c.out) : ∀ (n : Nat) (s f : Int) (mark : List Int) (m : Memo), mark = M.drop (M.length - mark.length) → mark.length ≤ M.length → mark.length ≤ n → 0 ≤ f → f < c.out → c.MemGood M m →
    (c.apM n s f mark m).1 = c.apP n s f mark ∧ c.MemGood M (c.apM n s f mark m).2
  | 0, s, f, mark, m, h1, h2, h3, h4, h5, hg => ⟨rfl, hg⟩
  | n + 1, s, f, mark, m, h1, h2, h3, h4, h5, hg => by
    by_cases hm : mark = []
    · subst hm; simp only [GCode.apM, GCode.apP, if_true, true_and]; exact hg
    have hw := apW_eq c (M := M) (rec := fun s' mk m' => c.apM n s' 0 mk m') (r := fun s' mk => c.apP n s' 0 mk) (s := s) (f := f) (mark := mark) (fun s' k m' hk hm' =>
      apM_eq c ho n s' 0 (mark.drop k) m' (drop_suffix h1 h2 k) (by simp; omega) (by simp; omega) (by omega) (by omega) hm') hm (by omega) c.W 0 16 m hg
    have hpp : c.apP (n + 1) s f mark = c.apPW (fun s' mk => c.apP n s' 0 mk) s f mark c.W 0 16 := by simp only [GCode.apP, hm, if_false]
    rw [hpp]
    have hA : c.apP (n + 1) s 0 mark = c.apP mark.length s 0 mark := apP_fuel c (n + 1) s 0 mark h3 (by simp; omega)
    cases hlk : lookM (s, mark.length) m with
    | some v =>
      by_cases hf : f = 0
      · subst hf
        have hv := (hg _ (lookM_mem hlk)).2.2
        simp only [Int.toNat_natCast] at hv
        rw [← h1, ← hA, hpp] at hv
        have : c.apM (n + 1) s 0 mark m = (v, m) := by simp only [GCode.apM, hm, if_false, hlk, if_true]
        rw [this]
        exact ⟨hv, hg⟩
      · have : c.apM (n + 1) s f mark m = c.apW (fun s' mk m' => c.apM n s' 0 mk m') s f mark c.W 0 16 m := by simp only [GCode.apM, hm, if_false, hlk, hf]
        rw [this]; exact hw
    | none =>
      by_cases hf : f = 0
      · subst hf
        have : c.apM (n + 1) s 0 mark m = ((c.apW (fun s' mk m' => c.apM n s' 0 mk m') s 0 mark c.W 0 16 m).1, setM (s, mark.length) (c.apW (fun s' mk m' => c.apM n s' 0 mk m') s 0 mark c.W 0 16 m).1 (c.apW (fun s' mk m' => c.apM n s' 0 mk m') s 0 mark c.W 0 16 m).2) := by simp only [GCode.apM, hm, if_false, hlk, if_true]
        rw [this]
        refine ⟨hw.1, fun e he => ?_⟩
        rcases setM_mem he with rfl | he
        · refine ⟨by simp, by simp only; omega, ?_⟩
          simp only [Int.toNat_natCast]
          rw [← h1, ← hA, hpp, hw.1]
        · exact hw.2 e he
      · have : c.apM (n + 1) s f mark m = c.apW (fun s' mk m' => c.apM n s' 0 mk m') s f mark c.W 0 16 m := by simp only [GCode.apM, hm, if_false, hlk, hf]
        rw [this]; exact hw

theorem apPW_le (c : GCode) {r : Int → List Int → Int} {s f : Int} {mark : List Int} : ∀ (n : Nat) (w least : Int), c.apPW r s f mark n w least ≤ least ∧
    ∀ w', w ≤ w' → w' < w + n → c.apPW r s f mark n w least ≤ dist (mark.take (min mark.length ((bitsOf c.out.toNat (c.wrd s w')).drop f.toNat).length)) ((bitsOf c.out.toNat (c.wrd s w')).drop f.toNat) + r (c.nxt s w') (mark.drop (min mark.length ((bitsOf c.out.toNat (c.wrd s w')).drop f.toNat).length))
  | 0, w, least => ⟨by simp [GCode.apPW], fun w' h1 h2 => by omega⟩
  | n + 1, w, least => by
    simp only [GCode.apPW]
    obtain ⟨h1, h2⟩ := apPW_le c (r := r) (s := s) (f := f) (mark := mark) n (w + 1) (min least (dist (mark.take (min mark.length ((bitsOf c.out.toNat (c.wrd s w)).drop f.toNat).length)) ((bitsOf c.out.toNat (c.wrd s w)).drop f.toNat) + r (c.nxt s w) (mark.drop (min mark.length ((bitsOf c.out.toNat (c.wrd s w)).drop f.toNat).length))))
    refine ⟨by omega, fun w' h3 h4 => ?_⟩
    by_cases hw : w' = w
    · subst hw; omega
    · exact h2 w' (by omega) (by omega)

theorem dist_split : ∀ (mk B R : List Int), dist mk (B ++ R) = dist (mk.take (min mk.length B.length)) B + dist (mk.drop (min mk.length B.length)) R
  | [], B, R => by simp [dist]
  | x :: mk, [], R => by simp [dist]
  | x :: mk, y :: B, R => by
    have := dist_split mk B R
    simp only [List.cons_append, dist, List.length_cons, Nat.add_min_add_right, List.take_succ_cons, List.drop_succ_cons]
    omega

theorem GCode.W_pos (c : GCode) : 1 ≤ c.W := Nat.one_le_two_pow

theorem apP_low (c : GCode) (h : c.ok = true) : ∀ (n : Nat) (s f : Int) (mark l : List Int), (∀ w, w ∈ l → c.isWord w = true) → 0 ≤ f → f < c.out → mark.length ≤ n → mark.length + f.toNat ≤ (c.stream s l).1.length →
    c.apP n s f mark ≤ dist mark ((c.stream s l).1.drop f.toNat)
  | 0, s, f, mark, l, hw, hf0, hf, hn, hl => by
    have : mark = [] := List.length_eq_zero_iff.1 (by omega)
    subst this; simp [GCode.apP, dist]
  | n + 1, s, f, mark, l, hw, hf0, hf, hn, hl => by
    by_cases hm : mark = []
    · subst hm; simp [GCode.apP, dist]
    have hm1 := List.length_pos_iff.2 hm
    cases l with
    | nil => simp only [GCode.stream, List.length_nil] at hl; omega
    | cons w l =>
      have hww := hw w (by simp)
      simp only [GCode.isWord, inR, decide_eq_true_eq] at hww
      have hWe := GCode.W_eq' c
      simp only [GCode.stream] at hl ⊢
      have h2 := bitsOf_length c.out.toNat (c.wrd s w)
      rw [List.drop_append_of_le_length (by omega), dist_split]
      simp only [GCode.apP, hm, if_false]
      have := (apPW_le c (r := fun s' mk => c.apP n s' 0 mk) (s := s) (f := f) (mark := mark) c.W 0 16).2 w (by omega) (by omega)
      refine Int.le_trans this (Int.add_le_add_left ?_ _)
      have hB : ((bitsOf c.out.toNat (c.wrd s w)).drop f.toNat).length = c.out.toNat - f.toNat := by simp [h2]
      rw [hB]
      have hl2 : mark.length + f.toNat ≤ c.out.toNat + (c.stream (c.nxt s w) l).1.length := by simpa [h2] using hl
      have := apP_low c h n (c.nxt s w) 0 (mark.drop (min mark.length (c.out.toNat - f.toNat))) l (fun w' hw' => hw w' (by simp [hw'])) (by omega) (by omega) (by simp; omega) (by simp; omega)
      simpa using this

theorem apP_high (c : GCode) (ho : 1 ≤ c.out) : ∀ (n : Nat) (s f : Int) (mark : List Int), 0 ≤ f → f < c.out → c.apP n s f mark ≤ mark.length
  | 0, s, f, mark, _, _ => by simp only [GCode.apP]; omega
  | n + 1, s, f, mark, hf0, hf => by
    by_cases hm : mark = []
    · subst hm; simp [GCode.apP]
    simp only [GCode.apP, hm, if_false]
    have h1 := (apPW_le c (r := fun s' mk => c.apP n s' 0 mk) (s := s) (f := f) (mark := mark) c.W 0 16).2 0 (by omega) (by have := c.W_pos; omega)
    have h2 := bitsOf_length c.out.toNat (c.wrd s 0)
    have hB : ((bitsOf c.out.toNat (c.wrd s 0)).drop f.toNat).length = c.out.toNat - f.toNat := by simp [h2]
    rw [hB] at h1
    have h3 := dist_bound (mark.take (min mark.length (c.out.toNat - f.toNat))) ((bitsOf c.out.toNat (c.wrd s 0)).drop f.toNat)
    have h4 := apP_high c ho n (c.nxt s 0) 0 (mark.drop (min mark.length (c.out.toNat - f.toNat))) (by omega) (by omega)
    simp at h3 h4
    omega

theorem apFirst_le (c : GCode) (ho : 1 ≤ c.out) {mark : List Int} (hl : mark.length ≤ 16) {s : Int} : ∀ (n : Nat) (f least : Int) (m : Memo), 0 ≤ f → f + n ≤ c.out → c.MemGood mark m →
    c.MemGood mark (c.apFirst mark s n f least m).2 ∧ (c.apFirst mark s n f least m).1 ≤ least ∧ ∀ f', f ≤ f' → f' < f + n → (c.apFirst mark s n f least m).1 ≤ c.apP 16 s f' mark
  | 0, f, least, m, _, _, hg => ⟨hg, Int.le_refl _, fun f' h1 h2 => by omega⟩
  | n + 1, f, least, m, h0, h1, hg => by
    simp only [GCode.apFirst]
    obtain ⟨k1, k2⟩ := apM_eq c (M := mark) ho 16 s f mark m (by simp) (Nat.le_refl _) hl h0 (by omega) hg
    obtain ⟨i1, i2, i3⟩ := apFirst_le c ho hl (s := s) n (f + 1) (min least (c.apM 16 s f mark m).1) (c.apM 16 s f mark m).2 (by omega) (by omega) k2
    refine ⟨i1, by omega, fun f' h2 h3 => ?_⟩
    by_cases hf : f' = f
    · subst hf; rw [← k1]; omega
    · exact i3 f' (by omega) (by omega)

theorem apStates_le (c : GCode) (ho : 1 ≤ c.out) {mark : List Int} (hl : mark.length ≤ 16) : ∀ (n : Nat) (s least : Int) (m : Memo), c.MemGood mark m →
    (c.apStates mark n s least m).1 ≤ least ∧ ∀ s', s ≤ s' → s' < s + n → ∀ f, 0 ≤ f → f < c.out → (c.apStates mark n s least m).1 ≤ c.apP 16 s' f mark
  | 0, s, least, m, hg => ⟨Int.le_refl _, fun s' h1 h2 => by omega⟩
  | n + 1, s, least, m, hg => by
    simp only [GCode.apStates]
    obtain ⟨k1, k2, k3⟩ := apFirst_le c ho hl (s := s) c.out.toNat 0 least m (by omega) (by omega) hg
    obtain ⟨i1, i2⟩ := apStates_le c ho hl n (s + 1) (c.apFirst mark s c.out.toNat 0 least m).1 (c.apFirst mark s c.out.toNat 0 least m).2 k1
    refine ⟨by omega, fun s' h1 h2 f h3 h4 => ?_⟩
    by_cases hs : s' = s
    · subst hs; have := k3 f (by omega) (by omega); omega
    · exact i2 s' (by omega) (by omega) f h3 h4

theorem apart_le (c : GCode) (h : c.ok = true) {mark : List Int} (hl : mark.length ≤ 16) {s f : Int} (hs : c.isState s = true) (h0 : 0 ≤ f) (hf : f < c.out) : c.apart mark ≤ c.apP 16 s f mark := by
  have hd := GCode.ok_head h
  simp only [GCode.isState, inR, decide_eq_true_eq] at hs
  exact (apStates_le c (by omega) hl c.words.length 0 16 [] (fun e he => by cases he)).2 s (by omega) (by omega) f h0 hf

theorem apart_high (c : GCode) (h : c.ok = true) {mark : List Int} (hl : mark.length ≤ 16) : c.apart mark ≤ mark.length := by
  have hd := GCode.ok_head h
  have h1 := apart_le c h hl (s := 0) (f := 0) (by simp [GCode.isState, inR]; omega) (by omega) (by omega)
  have h2 := apP_high c (by omega) 16 0 0 mark (by omega) (by omega)
  omega
theorem apart_pos (c : GCode) (mark : List Int) : 0 ≤ c.apart mark := (apStates_bound c mark c.words.length 0 16 [] (by omega) fun e he => by cases he).1

theorem apart_dist (c : GCode) (h : c.ok = true) {mark l : List Int} (hl : mark.length ≤ 16) {s : Int} (hs : c.isState s = true) (hw : ∀ w, w ∈ l → c.isWord w = true) (a : Nat) (ha : a + mark.length ≤ (c.stream s l).1.length) (h1 : 1 ≤ mark.length) :
    c.apart mark ≤ dist mark ((c.stream s l).1.drop a) := by
  have hd := GCode.ok_head h
  have hlen := stream_len c l s
  obtain ⟨q, hq⟩ : ∃ q, a / c.out.toNat = q := ⟨_, rfl⟩
  have hpos : 0 < c.out.toNat := by omega
  have hdm := Nat.div_add_mod a c.out.toNat
  have hml := Nat.mod_lt a hpos
  rw [hq, Nat.mul_comm] at hdm
  have hql : q ≤ l.length := by
    have e1 : q * c.out.toNat ≤ l.length * c.out.toNat := by omega
    exact Nat.le_of_mul_le_mul_right e1 hpos
  have hsp := stream_append c (l.take q) s (l.drop q)
  rw [List.take_append_drop] at hsp
  have hA := stream_len c (l.take q) s
  have hAl : (c.stream s (l.take q)).1.length = q * c.out.toNat := by rw [hA, List.length_take, Nat.min_eq_left hql]
  have hst := stream_state c h (l.take q) s hs fun w hw' => hw w (List.mem_of_mem_take hw')
  have e : (c.stream s l).1 = (c.stream s (l.take q)).1 ++ (c.stream (c.stream s (l.take q)).2 (l.drop q)).1 := by rw [hsp]
  have hdr : (c.stream s l).1.drop a = (c.stream (c.stream s (l.take q)).2 (l.drop q)).1.drop (a % c.out.toNat) := by
    rw [e, ← hdm, ← hAl, ← List.drop_drop, List.drop_left]
    congr 1
    rw [hAl]; simp [Nat.add_mod, Nat.mul_mod_left]
  have hlen2 : (c.stream s l).1.length = q * c.out.toNat + (c.stream (c.stream s (l.take q)).2 (l.drop q)).1.length := by rw [e]; simp [hAl]
  rw [hdr]
  refine Int.le_trans (apart_le c h hl hst (f := ((a % c.out.toNat : Nat) : Int)) (by omega) (by omega)) ?_
  have := apP_low c h 16 (c.stream s (l.take q)).2 ((a % c.out.toNat : Nat) : Int) mark (l.drop q) (fun w hw' => hw w (List.mem_of_mem_drop hw')) (by omega) (by omega) hl (by simp only [Int.toNat_natCast]; omega)
  rw [Int.toNat_natCast] at this
  exact this

/-! places that are found -/
theorem findF_mem {mark bits : List Int} {e : Int} : ∀ (n : Nat) (i j : Int), j ∈ findF mark bits e n i ↔ (i ≤ j ∧ j < i + n ∧ dist mark (bits.drop j.toNat) ≤ e)
  | 0, i, j => by simp [findF]; intro h1 h2; omega
  | n + 1, i, j => by
    have ih := findF_mem (mark := mark) (bits := bits) (e := e) n (i + 1) j
    simp only [findF]
    split
    · rename_i hd
      rw [List.mem_cons, ih]
      constructor
      · rintro (rfl | ⟨h1, h2, h3⟩)
        · exact ⟨by omega, by omega, hd⟩
        · exact ⟨by omega, by omega, h3⟩
      · rintro ⟨h1, h2, h3⟩
        by_cases hj : j = i
        · exact .inl hj
        · exact .inr ⟨by omega, by omega, h3⟩
    · rename_i hd
      rw [ih]
      constructor
      · rintro ⟨h1, h2, h3⟩; exact ⟨by omega, by omega, h3⟩
      · rintro ⟨h1, h2, h3⟩
        by_cases hj : j = i
        · subst hj; exact absurd h3 hd
        · exact ⟨by omega, by omega, h3⟩
theorem findF_len {mark bits : List Int} {e e' : Int} (h : e ≤ e') : ∀ (n : Nat) (i : Int), (findF mark bits e n i).length ≤ (findF mark bits e' n i).length
  | 0, i => by simp [findF]
  | n + 1, i => by
    have := findF_len (mark := mark) (bits := bits) h n (i + 1)
    simp only [findF]
    split <;> split <;> simp <;> omega

theorem dist_set : ∀ (xs ys : List Int) (i : Nat) (v : Int), dist xs ys - 1 ≤ dist xs (ys.set i v) ∧ dist xs (ys.set i v) ≤ dist xs ys + 1
  | [], ys, i, v => by simp [dist]
  | x :: xs, [], i, v => by simp [dist]
  | x :: xs, y :: ys, 0, v => by simp only [List.set_cons_zero, dist]; split <;> split <;> omega
  | x :: xs, y :: ys, i + 1, v => by
    have := dist_set xs ys i v
    simp only [List.set_cons_succ, dist]; omega
theorem dist_set_drop (xs ys : List Int) (a i : Nat) (v : Int) : dist xs (ys.drop a) - 1 ≤ dist xs ((ys.set i v).drop a) ∧ dist xs ((ys.set i v).drop a) ≤ dist xs (ys.drop a) + 1 := by
  by_cases h : a ≤ i
  · rw [List.drop_set, if_neg (by omega)]; exact dist_set xs _ _ v
  · rw [List.drop_set, if_pos (by omega)]; omega
theorem dist_stain (bits xs : List Int) (a : Nat) : ∀ (l out : List Int), dist xs (out.drop a) - l.length ≤ dist xs ((stainF bits out l).drop a) ∧ dist xs ((stainF bits out l).drop a) ≤ dist xs (out.drop a) + l.length
  | [], out => by simp [stainF]
  | s :: l, out => by
    simp only [stainF, List.length_cons]
    split
    · have h1 := dist_stain bits xs a l (out.set s.toNat (1 - bits[s.toNat]?.getD 0))
      have h2 := dist_set_drop xs out a s.toNat (1 - bits[s.toNat]?.getD 0)
      omega
    · have h1 := dist_stain bits xs a l out
      omega
theorem areBits_set {xs : List Int} (h : areBits xs = true) (i : Nat) {v : Int} (hv : inR v 0 1 = true) : areBits (xs.set i v) = true := by
  simp only [areBits, List.all_eq_true] at *
  intro x hx
  rcases List.mem_or_eq_of_mem_set hx with h1 | rfl
  · exact h x h1
  · exact hv
theorem stain_bits {bits : List Int} (hb : areBits bits = true) : ∀ (l out : List Int), areBits out = true → areBits (stainF bits out l) = true
  | [], out, h => h
  | s :: l, out, h => by
    simp only [stainF]
    split
    · rename_i hs
      refine stain_bits hb l _ (areBits_set h _ ?_)
      have := areBits_get hb (i := s.toNat) (by omega)
      simp only [inR, decide_eq_true_eq]; omega
    · exact stain_bits hb l _ h
theorem dist_self : ∀ xs : List Int, dist xs xs = 0
  | [] => rfl
  | x :: xs => by simp [dist, dist_self xs]
end Go.Pw
end
