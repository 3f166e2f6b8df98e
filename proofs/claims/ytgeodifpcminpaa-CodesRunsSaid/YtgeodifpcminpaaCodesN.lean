/- A part of the proof. -/
import Derived.Test.YtgeodifpcminpaaCodesM
import Derived.Test.YtgeodifpcminpaaCodesK
set_option linter.all false
open Go Go.Pw Go.Proofs
namespace Go.Pw
set_option linter.unusedSimpArgs false
set_option linter.unusedVariables false
set_option maxRecDepth 100000
set_option maxHeartbeats 800000
attribute [local congr] cg_pw cg_seqI cg_seqE cg_stepI cg_ev cg_evBin cg_condB cg_condV cg_thenQ cg_blockQ cg_onSome cg_onCells cg_onRow cg_onMap cg_onOpt cg_ghosts cg_ghost cg_evCall cg_part cg_rng cg_guardV cg_frzV cg_frpV cg_ownV cg_owcV cg_occV cg_occX cg_resK cg_res1
attribute [local irreducible] IntKind.wrap bitsOp Option.getD and or

def GCode.apFirst (c : GCode) (mark : List Int) (s : Int) : Nat → Int → Int → Memo → Int × Memo
  | 0, _, least, m => (least, m)
  | k + 1, f, least, m => c.apFirst mark s k (f + 1) (min least (c.apM 16 s f mark m).1) (c.apM 16 s f mark m).2
def GCode.apStates (c : GCode) (mark : List Int) : Nat → Int → Int → Memo → Int × Memo
  | 0, _, least, m => (least, m)
  | k + 1, s, least, m => c.apStates mark k (s + 1) (c.apFirst mark s c.out.toNat 0 least m).1 (c.apFirst mark s c.out.toNat 0 least m).2
def GCode.apart (c : GCode) (mark : List Int) : Int := (c.apStates mark c.words.length 0 16 []).1
def GCode.apartR (c : GCode) (mark : List Int) : Int × Int := if !c.ok then (0, 40) else if !isMarkB mark then (0, 1) else (c.apart mark, 0)

theorem apFirst_bound (c : GCode) (mark : List Int) (s : Int) : ∀ (n : Nat) (f least : Int) (m : Memo), 0 ≤ least ∧ least ≤ 16 → MemB m → (0 ≤ (c.apFirst mark s n f least m).1 ∧ (c.apFirst mark s n f least m).1 ≤ 16) ∧ MemB (c.apFirst mark s n f least m).2
  | 0, f, least, m, h1, h2 => ⟨h1, h2⟩
  | n + 1, f, least, m, h1, h2 => by
    simp only [GCode.apFirst]
    obtain ⟨h3, h4⟩ := apM_bound c 16 s f mark m h2
    exact apFirst_bound c mark s n _ _ _ ⟨by omega, by omega⟩ h4
theorem apStates_bound (c : GCode) (mark : List Int) : ∀ (n : Nat) (s least : Int) (m : Memo), 0 ≤ least ∧ least ≤ 16 → MemB m → 0 ≤ (c.apStates mark n s least m).1 ∧ (c.apStates mark n s least m).1 ≤ 16
  | 0, s, least, m, h1, h2 => h1
  | n + 1, s, least, m, h1, h2 => by
    simp only [GCode.apStates]
    obtain ⟨h3, h4⟩ := apFirst_bound c mark s c.out.toNat 0 least m h1 h2
    exact apStates_bound c mark n _ _ _ h3 h4

theorem codes_Apart_ret (c : GCode) (nl : Bool) (mark : List Int) : Ret E0 F_codes_Apart [codeD c, .list nl (ints mark)] (.tup [.int .i64 (c.apartR mark).1, .int .i64 (c.apartR mark).2]) := by
  refine ret_of_pw dec_codes_Apart mixed (by simp) fun hwf => ?_
  rw [enter_eq]; unfold pc_codes_Apart
  cases hok : c.ok with
  | false =>
    have ho : c.apartR mark = (0, 40) := by simp [GCode.apartR, hok]
    rw [ho]
    (try (simp -implicitDefEqProofs only [go_sem, codeD_eq, codeC_eq, rowsD_eq])); repeat' first | with_reducible exact True.intro | with_reducible refine And.intro ?_ ?_ | with_reducible intro _ | (((with_reducible refine isCall ?_); first | refine call_b (codes_Check_ret c) rfl ?_ ?_ | refine call_d (codes_Check_ret c) rfl ?_ | refine call_sb (codes_Check_ret c) rfl ?_ ?_ | refine call_s (codes_Check_ret c) rfl rfl ?_ | refine call_b (codes_isMark_ret nl mark) rfl ?_ ?_ | refine call_d (codes_isMark_ret nl mark) rfl ?_ | refine call_sb (codes_isMark_ret nl mark) rfl ?_ ?_ | refine call_s (codes_isMark_ret nl mark) rfl rfl ?_) <;> try (simp -implicitDefEqProofs only [go_sem, codeD_eq, codeC_eq, rowsD_eq])) | (((with_reducible refine vc_b ?_ ?_) <;> intro _) <;> try (simp -implicitDefEqProofs only [go_sem, codeD_eq, codeC_eq, rowsD_eq])) | simp (disch := omega) only [wrapI, wrapU, shl1, shl1', shl1'', shrN, shrN', and_one] | ((with_reducible refine isEx8 ?_); refine ⟨(_, _, _, _, _, _, _, _), rfl, ?_, ?_⟩) | ((with_reducible refine isEx7 ?_); refine ⟨(_, _, _, _, _, _, _), rfl, ?_, ?_⟩) | ((with_reducible refine isEx6 ?_); refine ⟨(_, _, _, _, _, _), rfl, ?_, ?_⟩) | ((with_reducible refine isEx5 ?_); refine ⟨(_, _, _, _, _), rfl, ?_, ?_⟩) | ((with_reducible refine isEx4 ?_); refine ⟨(_, _, _, _), rfl, ?_, ?_⟩) | ((with_reducible refine isEx3 ?_); refine ⟨(_, _, _), rfl, ?_, ?_⟩) | ((with_reducible refine isEx2 ?_); refine ⟨(_, _), rfl, ?_, ?_⟩) | ((with_reducible refine isEx ?_); refine ⟨_, rfl, ?_, ?_⟩)
    all_goals simp_all [errI]
  | true =>
    have hd := GCode.ok_head hok
    cases hmk : isMarkB mark with
    | false =>
      have ho : c.apartR mark = (0, 1) := by simp [GCode.apartR, hok, hmk]
      rw [ho]
      simp only [isMarkB] at hmk
      (try (simp -implicitDefEqProofs only [go_sem, codeD_eq, codeC_eq, rowsD_eq])); repeat' first | with_reducible exact True.intro | with_reducible refine And.intro ?_ ?_ | with_reducible intro _ | (((with_reducible refine isCall ?_); first | refine call_b (codes_Check_ret c) rfl ?_ ?_ | refine call_d (codes_Check_ret c) rfl ?_ | refine call_sb (codes_Check_ret c) rfl ?_ ?_ | refine call_s (codes_Check_ret c) rfl rfl ?_ | refine call_b (codes_isMark_ret nl mark) rfl ?_ ?_ | refine call_d (codes_isMark_ret nl mark) rfl ?_ | refine call_sb (codes_isMark_ret nl mark) rfl ?_ ?_ | refine call_s (codes_isMark_ret nl mark) rfl rfl ?_) <;> try (simp -implicitDefEqProofs only [go_sem, codeD_eq, codeC_eq, rowsD_eq])) | (((with_reducible refine vc_b ?_ ?_) <;> intro _) <;> try (simp -implicitDefEqProofs only [go_sem, codeD_eq, codeC_eq, rowsD_eq])) | simp (disch := omega) only [wrapI, wrapU, shl1, shl1', shl1'', shrN, shrN', and_one] | ((with_reducible refine isEx8 ?_); refine ⟨(_, _, _, _, _, _, _, _), rfl, ?_, ?_⟩) | ((with_reducible refine isEx7 ?_); refine ⟨(_, _, _, _, _, _, _), rfl, ?_, ?_⟩) | ((with_reducible refine isEx6 ?_); refine ⟨(_, _, _, _, _, _), rfl, ?_, ?_⟩) | ((with_reducible refine isEx5 ?_); refine ⟨(_, _, _, _, _), rfl, ?_, ?_⟩) | ((with_reducible refine isEx4 ?_); refine ⟨(_, _, _, _), rfl, ?_, ?_⟩) | ((with_reducible refine isEx3 ?_); refine ⟨(_, _, _), rfl, ?_, ?_⟩) | ((with_reducible refine isEx2 ?_); refine ⟨(_, _), rfl, ?_, ?_⟩) | ((with_reducible refine isEx ?_); refine ⟨_, rfl, ?_, ?_⟩)
      all_goals simp_all [errI]
    | true =>
      have ho : c.apartR mark = (c.apart mark, 0) := by simp [GCode.apartR, hok, hmk]
      rw [ho]
      have hmb : areBits mark = true := by simp only [isMarkB, Bool.and_eq_true] at hmk; exact hmk.2
      have hm1 : 1 ≤ mark.length ∧ mark.length ≤ 16 := by simp [isMarkB, inR] at hmk; omega
      simp only [isMarkB] at hmk
      (try (simp -implicitDefEqProofs only [go_sem, codeD_eq, codeC_eq, rowsD_eq])); repeat' first | with_reducible exact True.intro | with_reducible refine And.intro ?_ ?_ | with_reducible intro _ | (((with_reducible refine isCall ?_); first | refine call_b (codes_Check_ret c) rfl ?_ ?_ | refine call_d (codes_Check_ret c) rfl ?_ | refine call_sb (codes_Check_ret c) rfl ?_ ?_ | refine call_s (codes_Check_ret c) rfl rfl ?_ | refine call_b (codes_isMark_ret nl mark) rfl ?_ ?_ | refine call_d (codes_isMark_ret nl mark) rfl ?_ | refine call_sb (codes_isMark_ret nl mark) rfl ?_ ?_ | refine call_s (codes_isMark_ret nl mark) rfl rfl ?_) <;> try (simp -implicitDefEqProofs only [go_sem, codeD_eq, codeC_eq, rowsD_eq])) | (((with_reducible refine vc_b ?_ ?_) <;> intro _) <;> try (simp -implicitDefEqProofs only [go_sem, codeD_eq, codeC_eq, rowsD_eq])) | simp (disch := omega) only [wrapI, wrapU, shl1, shl1', shl1'', shrN, shrN', and_one] | ((with_reducible refine isEx8 ?_); refine ⟨(_, _, _, _, _, _, _, _), rfl, ?_, ?_⟩) | ((with_reducible refine isEx7 ?_); refine ⟨(_, _, _, _, _, _, _), rfl, ?_, ?_⟩) | ((with_reducible refine isEx6 ?_); refine ⟨(_, _, _, _, _, _), rfl, ?_, ?_⟩) | ((with_reducible refine isEx5 ?_); refine ⟨(_, _, _, _, _), rfl, ?_, ?_⟩) | ((with_reducible refine isEx4 ?_); refine ⟨(_, _, _, _), rfl, ?_, ?_⟩) | ((with_reducible refine isEx3 ?_); refine ⟨(_, _, _), rfl, ?_, ?_⟩) | ((with_reducible refine isEx2 ?_); refine ⟨(_, _), rfl, ?_, ?_⟩) | ((with_reducible refine isEx ?_); refine ⟨_, rfl, ?_, ?_⟩)
      all_goals try (exfalso; simp_all [errI]; done)
      refine pw_loopS (α := Int × Int × Memo) (l0 := ?l1) (m0 := ?m1) (fun x => [(27, .d (.int .i64 x.1)), (9, .d (.int .i64 x.2.1))]) (fun x => [(22, .map tyP (memD x.2.2))]) (fun x => 0 ≤ x.1 ∧ x.1 ≤ c.words.length ∧ (0 ≤ x.2.1 ∧ x.2.1 ≤ 16) ∧ MemB x.2.2 ∧ (c.apStates mark (c.words.length - x.1.toNat) x.1 x.2.1 x.2.2).1 = c.apart mark) (fun x => (c.words.length - x.1).toNat) (?a1_0, ?a1_1, []) ?h01 ?he1 ?he21 ?hI1 ?step1
      case h01 => (simp -implicitDefEqProofs only [go_sem]; rfl)
      case he1 => rfl
      case he21 => rfl
      case' step1 => (rintro ⟨s, least, m⟩ hI; try dsimp only at hI)
      case' hI1 => try dsimp only
      · exact ⟨by omega, by omega, by omega, fun e he => (by cases he), rfl⟩
      · obtain ⟨hs0, hsW, hl, hm, heq⟩ := hI
        by_cases hs : s < c.words.length
        · have hst : c.isState s = true := by simp only [GCode.isState, inR, decide_eq_true_eq]; omega
          have hstep : (c.apStates mark (c.words.length - s.toNat) s least m).1 = (c.apStates mark (c.words.length - (s + 1).toNat) (s + 1) (c.apFirst mark s c.out.toNat 0 least m).1 (c.apFirst mark s c.out.toNat 0 least m).2).1 := by
            rw [show c.words.length - s.toNat = (c.words.length - (s + 1).toNat) + 1 by omega]
            simp only [GCode.apStates]
          rw [hstep] at heq
          have hfb := apFirst_bound c mark s c.out.toNat 0 least m hl hm
          (try (simp -implicitDefEqProofs only [go_sem, codeD_eq, codeC_eq, rowsD_eq])); repeat' first | with_reducible exact True.intro | with_reducible refine And.intro ?_ ?_ | with_reducible intro _ | (((with_reducible refine vc_b ?_ ?_) <;> intro _) <;> try (simp -implicitDefEqProofs only [go_sem, codeD_eq, codeC_eq, rowsD_eq])) | simp (disch := omega) only [wrapI, wrapU, shl1, shl1', shl1'', shrN, shrN', and_one] | ((with_reducible refine isEx8 ?_); refine ⟨(_, _, _, _, _, _, _, _), rfl, ?_, ?_⟩) | ((with_reducible refine isEx7 ?_); refine ⟨(_, _, _, _, _, _, _), rfl, ?_, ?_⟩) | ((with_reducible refine isEx6 ?_); refine ⟨(_, _, _, _, _, _), rfl, ?_, ?_⟩) | ((with_reducible refine isEx5 ?_); refine ⟨(_, _, _, _, _), rfl, ?_, ?_⟩) | ((with_reducible refine isEx4 ?_); refine ⟨(_, _, _, _), rfl, ?_, ?_⟩) | ((with_reducible refine isEx3 ?_); refine ⟨(_, _, _), rfl, ?_, ?_⟩) | ((with_reducible refine isEx2 ?_); refine ⟨(_, _), rfl, ?_, ?_⟩) | ((with_reducible refine isEx ?_); refine ⟨_, rfl, ?_, ?_⟩)
          all_goals first | omega | (simp; done) | (simp; omega) | skip
          refine pw_loopS (α := Int × Int × Memo) (l0 := ?l2) (m0 := ?m2) (fun x => [(33, .d (.int .i64 x.1)), (9, .d (.int .i64 x.2.1))]) (fun x => [(22, .map tyP (memD x.2.2))]) (fun x => 0 ≤ x.1 ∧ x.1 ≤ c.out ∧ (0 ≤ x.2.1 ∧ x.2.1 ≤ 16) ∧ MemB x.2.2 ∧ c.apFirst mark s (c.out.toNat - x.1.toNat) x.1 x.2.1 x.2.2 = c.apFirst mark s c.out.toNat 0 least m) (fun x => (c.out - x.1).toNat) (?a2_0, least, m) ?h02 ?he2 ?he22 ?hI2 ?step2
          case h02 => (simp -implicitDefEqProofs only [go_sem]; rfl)
          case he2 => rfl
          case he22 => rfl
          case' step2 => (rintro ⟨f, lst, mm⟩ hI2; try dsimp only at hI2)
          case' hI2 => try dsimp only
          · exact ⟨by omega, by omega, by omega, hm, by simp⟩
          · obtain ⟨hf0, hfW, hl2, hm2, heq2⟩ := hI2
            by_cases hf : f < c.out
            · have hstep2 : c.apFirst mark s (c.out.toNat - f.toNat) f lst mm = c.apFirst mark s (c.out.toNat - (f + 1).toNat) (f + 1) (min lst (c.apM 16 s f mark mm).1) (c.apM 16 s f mark mm).2 := by
                rw [show c.out.toNat - f.toNat = (c.out.toNat - (f + 1).toNat) + 1 by omega]
                simp only [GCode.apFirst]
              rw [hstep2] at heq2
              have hrb := apM_bound c 16 s f mark mm hm2
              have ci := codes_code_apart_ret c hok 16 s f nl mark mm hst hf0 hf hmb hm1.2 hm1.2 hm2
              generalize c.apM 16 s f mark mm = R0 at *
              (try (simp -implicitDefEqProofs only [go_sem, codeD_eq, codeC_eq, rowsD_eq])); repeat' first | with_reducible exact True.intro | with_reducible refine And.intro ?_ ?_ | with_reducible intro _ | (((with_reducible refine isCall ?_); first | (refine call_m ([((900004, 0), (22, 0))]) ([((900004, 0), (22, 0))]) (ci) (by repeat' first | exact True.intro | exact rfl | refine And.intro ?_ ?_) (by simp [Handed, Ren.get, AObj.ren, AV.ren, AV.ren.renL, View.get, lookO, callF, newS, View.reach, AV.sites, AV.sites.sitesL, View.osites]) (by simp [namesOk, hasN, nodupB, Ren.get, newS, lim, upd]) (by rfl) (by simp only [backC, Ren.get, AObj.ren, AV.ren, AV.ren.renL, and_self, and_true, true_and, if_true, reduceIte]; rfl) ?_)) <;> try (simp -implicitDefEqProofs only [go_sem, codeD_eq, codeC_eq, rowsD_eq])) | (((with_reducible refine vc_b ?_ ?_) <;> intro _) <;> try (simp -implicitDefEqProofs only [go_sem, codeD_eq, codeC_eq, rowsD_eq])) | simp (disch := omega) only [wrapI, wrapU, shl1, shl1', shl1'', shrN, shrN', and_one] | ((with_reducible refine isEx8 ?_); refine ⟨(_, _, _, _, _, _, _, _), rfl, ?_, ?_⟩) | ((with_reducible refine isEx7 ?_); refine ⟨(_, _, _, _, _, _, _), rfl, ?_, ?_⟩) | ((with_reducible refine isEx6 ?_); refine ⟨(_, _, _, _, _, _), rfl, ?_, ?_⟩) | ((with_reducible refine isEx5 ?_); refine ⟨(_, _, _, _, _), rfl, ?_, ?_⟩) | ((with_reducible refine isEx4 ?_); refine ⟨(_, _, _, _), rfl, ?_, ?_⟩) | ((with_reducible refine isEx3 ?_); refine ⟨(_, _, _), rfl, ?_, ?_⟩) | ((with_reducible refine isEx2 ?_); refine ⟨(_, _), rfl, ?_, ?_⟩) | ((with_reducible refine isEx ?_); refine ⟨_, rfl, ?_, ?_⟩)
              all_goals (try simp (disch := omega) only [wrapI, wrapU, shl1, shl1', shl1'', shrN, shrN', and_one] at *)
              all_goals first | omega | (simp; done) | (simp; omega) | skip
              all_goals exact hrb.2
            · have hz : c.out.toNat - f.toNat = 0 := by omega
              rw [hz, GCode.apFirst] at heq2
              rw [← heq2] at hfb heq
              (try (simp -implicitDefEqProofs only [go_sem, codeD_eq, codeC_eq, rowsD_eq])); repeat' first | with_reducible exact True.intro | with_reducible refine And.intro ?_ ?_ | with_reducible intro _ | (((with_reducible refine vc_b ?_ ?_) <;> intro _) <;> try (simp -implicitDefEqProofs only [go_sem, codeD_eq, codeC_eq, rowsD_eq])) | simp (disch := omega) only [wrapI, wrapU, shl1, shl1', shl1'', shrN, shrN', and_one] | ((with_reducible refine isEx8 ?_); refine ⟨(_, _, _, _, _, _, _, _), rfl, ?_, ?_⟩) | ((with_reducible refine isEx7 ?_); refine ⟨(_, _, _, _, _, _, _), rfl, ?_, ?_⟩) | ((with_reducible refine isEx6 ?_); refine ⟨(_, _, _, _, _, _), rfl, ?_, ?_⟩) | ((with_reducible refine isEx5 ?_); refine ⟨(_, _, _, _, _), rfl, ?_, ?_⟩) | ((with_reducible refine isEx4 ?_); refine ⟨(_, _, _, _), rfl, ?_, ?_⟩) | ((with_reducible refine isEx3 ?_); refine ⟨(_, _, _), rfl, ?_, ?_⟩) | ((with_reducible refine isEx2 ?_); refine ⟨(_, _), rfl, ?_, ?_⟩) | ((with_reducible refine isEx ?_); refine ⟨_, rfl, ?_, ?_⟩)
              all_goals first | omega | (simp; done) | (simp; omega) | skip
              all_goals first | exact hfb.2 | exact heq
        · have hz : c.words.length - s.toNat = 0 := by omega
          rw [hz, GCode.apStates] at heq
          (try (simp -implicitDefEqProofs only [go_sem, codeD_eq, codeC_eq, rowsD_eq])); repeat' first | with_reducible exact True.intro | with_reducible refine And.intro ?_ ?_ | with_reducible intro _ | (((with_reducible refine vc_b ?_ ?_) <;> intro _) <;> try (simp -implicitDefEqProofs only [go_sem, codeD_eq, codeC_eq, rowsD_eq])) | simp (disch := omega) only [wrapI, wrapU, shl1, shl1', shl1'', shrN, shrN', and_one] | ((with_reducible refine isEx8 ?_); refine ⟨(_, _, _, _, _, _, _, _), rfl, ?_, ?_⟩) | ((with_reducible refine isEx7 ?_); refine ⟨(_, _, _, _, _, _, _), rfl, ?_, ?_⟩) | ((with_reducible refine isEx6 ?_); refine ⟨(_, _, _, _, _, _), rfl, ?_, ?_⟩) | ((with_reducible refine isEx5 ?_); refine ⟨(_, _, _, _, _), rfl, ?_, ?_⟩) | ((with_reducible refine isEx4 ?_); refine ⟨(_, _, _, _), rfl, ?_, ?_⟩) | ((with_reducible refine isEx3 ?_); refine ⟨(_, _, _), rfl, ?_, ?_⟩) | ((with_reducible refine isEx2 ?_); refine ⟨(_, _), rfl, ?_, ?_⟩) | ((with_reducible refine isEx ?_); refine ⟨_, rfl, ?_, ?_⟩)
          all_goals first | omega | (simp; done) | (simp; omega) | skip
          all_goals (rw [← heq]; done)

theorem ref04_Distance_ret (n1 n2 : Bool) (xs ys : List Int) (at_ : Int) (h0 : 0 ≤ at_) (hl : at_ + xs.length ≤ ys.length) (h128 : xs.length ≤ 1000000) (h129 : ys.length ≤ 1000000) :
    Ret E0 F_ref04_Distance [.list n1 (ints xs), .list n2 (ints ys), .int .i64 at_] (.int .i64 (dist xs (ys.drop at_.toNat))) := by
  refine ret_of_pw dec_ref04_Distance mixed (by simp) fun hwf => ?_
  rw [enter_eq]; unfold pc_ref04_Distance
  simp -implicitDefEqProofs only [go_sem]
  obtain ⟨Y, hY⟩ : ∃ Y, ys.drop at_.toNat = Y := ⟨_, rfl⟩
  have hYl : Y.length = ys.length - at_.toNat := by rw [← hY]; simp
  rw [hY]
  refine pw_loopS (α := Int × Int) (l0 := ?l3) (m0 := ?m3) (fun x => [(8, .d (.int .i64 x.1)), (7, .d (.int .i64 x.2))]) (fun x => []) (fun x => 0 ≤ x.1 ∧ x.1 ≤ xs.length ∧ 0 ≤ x.2 ∧ x.2 ≤ x.1 ∧ x.2 + dist (xs.drop x.1.toNat) (Y.drop x.1.toNat) = dist xs Y) (fun x => (xs.length - x.1).toNat) (?a3_0, ?a3_1) ?h03 ?he3 ?he23 ?hI3 ?step3
  case h03 => (simp -implicitDefEqProofs only [go_sem]; rfl)
  case he3 => rfl
  case he23 => rfl
  case' step3 => (rintro ⟨i, n⟩ hI; try dsimp only at hI)
  case' hI3 => try dsimp only
  · simp
  · obtain ⟨hi0, hi1, hn0, hn1, heq⟩ := hI
    by_cases hi : i < xs.length
    · have hg : Y[i.toNat]?.getD 0 = ys[(at_ + i).toNat]?.getD 0 := by
        rw [← hY, List.getElem?_drop, show at_.toNat + i.toNat = (at_ + i).toNat by omega]
      have hd : dist (xs.drop i.toNat) (Y.drop i.toNat) = (if xs[i.toNat]?.getD 0 = ys[(at_ + i).toNat]?.getD 0 then 0 else 1) + dist (xs.drop (i + 1).toNat) (Y.drop (i + 1).toNat) := by
        rw [drop_get (xs := xs) (i := i.toNat) (by omega), drop_get (xs := Y) (i := i.toNat) (by omega), dist, hg, show (i + 1).toNat = i.toNat + 1 by omega]
      rw [hd] at heq
      have hwr : IntKind.i64.wrap (at_ + i) = at_ + i := wrapI _ (by omega)
      (try (simp -implicitDefEqProofs only [go_sem, hwr])); repeat' first | with_reducible exact True.intro | with_reducible refine And.intro ?_ ?_ | with_reducible intro _ | (((with_reducible refine vc_b ?_ ?_) <;> intro _) <;> try (simp -implicitDefEqProofs only [go_sem, hwr])) | simp (disch := omega) only [wrapI, wrapU, shl1, shl1', shl1'', shrN, shrN', and_one] | ((with_reducible refine isEx8 ?_); refine ⟨(_, _, _, _, _, _, _, _), rfl, ?_, ?_⟩) | ((with_reducible refine isEx7 ?_); refine ⟨(_, _, _, _, _, _, _), rfl, ?_, ?_⟩) | ((with_reducible refine isEx6 ?_); refine ⟨(_, _, _, _, _, _), rfl, ?_, ?_⟩) | ((with_reducible refine isEx5 ?_); refine ⟨(_, _, _, _, _), rfl, ?_, ?_⟩) | ((with_reducible refine isEx4 ?_); refine ⟨(_, _, _, _), rfl, ?_, ?_⟩) | ((with_reducible refine isEx3 ?_); refine ⟨(_, _, _), rfl, ?_, ?_⟩) | ((with_reducible refine isEx2 ?_); refine ⟨(_, _), rfl, ?_, ?_⟩) | ((with_reducible refine isEx ?_); refine ⟨_, rfl, ?_, ?_⟩)
      all_goals first | omega | (simp; done) | (simp; omega) | skip
      all_goals simp_all
      all_goals omega
    · (try (simp -implicitDefEqProofs only [go_sem])); repeat' first | with_reducible exact True.intro | with_reducible refine And.intro ?_ ?_ | with_reducible intro _ | (((with_reducible refine vc_b ?_ ?_) <;> intro _) <;> try (simp -implicitDefEqProofs only [go_sem])) | simp (disch := omega) only [wrapI, wrapU, shl1, shl1', shl1'', shrN, shrN', and_one] | ((with_reducible refine isEx8 ?_); refine ⟨(_, _, _, _, _, _, _, _), rfl, ?_, ?_⟩) | ((with_reducible refine isEx7 ?_); refine ⟨(_, _, _, _, _, _, _), rfl, ?_, ?_⟩) | ((with_reducible refine isEx6 ?_); refine ⟨(_, _, _, _, _, _), rfl, ?_, ?_⟩) | ((with_reducible refine isEx5 ?_); refine ⟨(_, _, _, _, _), rfl, ?_, ?_⟩) | ((with_reducible refine isEx4 ?_); refine ⟨(_, _, _, _), rfl, ?_, ?_⟩) | ((with_reducible refine isEx3 ?_); refine ⟨(_, _, _), rfl, ?_, ?_⟩) | ((with_reducible refine isEx2 ?_); refine ⟨(_, _), rfl, ?_, ?_⟩) | ((with_reducible refine isEx ?_); refine ⟨_, rfl, ?_, ?_⟩)
      all_goals first | omega | (simp; done) | (simp; omega) | skip
      have h0 : xs.drop i.toNat = [] := List.drop_eq_nil_of_le (by omega)
      rw [h0, show dist [] (Y.drop i.toNat) = 0 by simp [dist]] at heq
      rw [← heq]; simp

theorem ref04_IsMark_ret (nl : Bool) (xs : List Int) : Ret E0 F_ref04_IsMark [.list nl (ints xs)] (.bool (isMarkB xs)) := by
  refine ret_of_pw dec_ref04_IsMark mixed (by simp) fun hwf => ?_
  rw [enter_eq]; unfold pc_ref04_IsMark
  (try (simp -implicitDefEqProofs only [go_sem])); repeat' first | with_reducible exact True.intro | with_reducible refine And.intro ?_ ?_ | with_reducible intro _ | (((with_reducible refine isCall ?_); first | refine call_b (ref04_within_ret _ _ _) rfl ?_ ?_ | refine call_d (ref04_within_ret _ _ _) rfl ?_ | refine call_sb (ref04_within_ret _ _ _) rfl ?_ ?_ | refine call_s (ref04_within_ret _ _ _) rfl rfl ?_ | refine call_b (ref04_AreBits_ret nl xs) rfl ?_ ?_ | refine call_d (ref04_AreBits_ret nl xs) rfl ?_ | refine call_sb (ref04_AreBits_ret nl xs) rfl ?_ ?_ | refine call_s (ref04_AreBits_ret nl xs) rfl rfl ?_) <;> try (simp -implicitDefEqProofs only [go_sem])) | (((with_reducible refine vc_b ?_ ?_) <;> intro _) <;> try (simp -implicitDefEqProofs only [go_sem])) | simp (disch := omega) only [wrapI, wrapU, shl1, shl1', shl1'', shrN, shrN', and_one] | ((with_reducible refine isEx8 ?_); refine ⟨(_, _, _, _, _, _, _, _), rfl, ?_, ?_⟩) | ((with_reducible refine isEx7 ?_); refine ⟨(_, _, _, _, _, _, _), rfl, ?_, ?_⟩) | ((with_reducible refine isEx6 ?_); refine ⟨(_, _, _, _, _, _), rfl, ?_, ?_⟩) | ((with_reducible refine isEx5 ?_); refine ⟨(_, _, _, _, _), rfl, ?_, ?_⟩) | ((with_reducible refine isEx4 ?_); refine ⟨(_, _, _, _), rfl, ?_, ?_⟩) | ((with_reducible refine isEx3 ?_); refine ⟨(_, _, _), rfl, ?_, ?_⟩) | ((with_reducible refine isEx2 ?_); refine ⟨(_, _), rfl, ?_, ?_⟩) | ((with_reducible refine isEx ?_); refine ⟨_, rfl, ?_, ?_⟩)
  all_goals simp_all [isMarkB]

def stainF (bits : List Int) : List Int → List Int → List Int
  | out, [] => out
  | out, s :: l => stainF bits (if 0 ≤ s ∧ s < bits.length then out.set s.toNat (1 - bits[s.toNat]?.getD 0) else out) l
theorem stainF_len (bits : List Int) : ∀ (l out : List Int), (stainF bits out l).length = out.length
  | [], out => rfl
  | s :: l, out => by simp only [stainF]; rw [stainF_len bits l]; split <;> simp

theorem law04_stained_ret (n1 n2 : Bool) (bits spots : List Int) (hb : areBits bits = true) (h1000 : bits.length ≤ 1000000) : Ret E0 F_law04_stained [.list n1 (ints bits), .list n2 (ints spots)] (.list false (ints (stainF bits bits spots))) := by
  refine ret_of_pw dec_law04_stained mixed (by simp) fun hwf => ?_
  simp only [wf_int, wf_bool, wf_ints, wf_list, wf_agg, wf_ptr, wf_fn, wf_tup, wf_all_cons, wf_all_nil, wf_all_map, inK_i64, maxLen_eq, List.length_map, ints_len, true_and, and_true] at hwf
  rw [enter_eq]; unfold pc_law04_stained
  by_cases hb0 : bits = []
  · subst hb0
    have h0 : ∀ l : List Int, stainF [] [] l = [] := fun l => by
      have := stainF_len [] l []
      exact List.length_eq_zero_iff.1 (by simpa using this)
    rw [h0]
    (try (simp -implicitDefEqProofs only [go_sem])); repeat' first | with_reducible exact True.intro | with_reducible refine And.intro ?_ ?_ | with_reducible intro _ | (((with_reducible refine vc_b ?_ ?_) <;> intro _) <;> try (simp -implicitDefEqProofs only [go_sem])) | simp (disch := omega) only [wrapI, wrapU, shl1, shl1', shl1'', shrN, shrN', and_one] | ((with_reducible refine isEx8 ?_); refine ⟨(_, _, _, _, _, _, _, _), rfl, ?_, ?_⟩) | ((with_reducible refine isEx7 ?_); refine ⟨(_, _, _, _, _, _, _), rfl, ?_, ?_⟩) | ((with_reducible refine isEx6 ?_); refine ⟨(_, _, _, _, _, _), rfl, ?_, ?_⟩) | ((with_reducible refine isEx5 ?_); refine ⟨(_, _, _, _, _), rfl, ?_, ?_⟩) | ((with_reducible refine isEx4 ?_); refine ⟨(_, _, _, _), rfl, ?_, ?_⟩) | ((with_reducible refine isEx3 ?_); refine ⟨(_, _, _), rfl, ?_, ?_⟩) | ((with_reducible refine isEx2 ?_); refine ⟨(_, _), rfl, ?_, ?_⟩) | ((with_reducible refine isEx ?_); refine ⟨_, rfl, ?_, ?_⟩)
    all_goals first | omega | (simp; done) | (simp; omega) | skip
    all_goals try (exfalso; simp_all; done)
    refine pw_loopS (α := Int) (l0 := ?l4) (m0 := ?m4) (fun x => [(6, .d (.int .i64 x))]) (fun x => []) (fun x => 0 ≤ x ∧ x ≤ spots.length) (fun x => (spots.length - x).toNat) ?a4_0 ?h04 ?he4 ?he24 ?hI4 ?step4
    case h04 => (simp -implicitDefEqProofs only [go_sem]; rfl)
    case he4 => rfl
    case he24 => rfl
    case' step4 => (rintro i hI; try dsimp only at hI)
    case' hI4 => try dsimp only
    · omega
    · by_cases hi : i < spots.length
      · (try (simp -implicitDefEqProofs only [go_sem])); repeat' first | with_reducible exact True.intro | with_reducible refine And.intro ?_ ?_ | with_reducible intro _ | (((with_reducible refine vc_b ?_ ?_) <;> intro _) <;> try (simp -implicitDefEqProofs only [go_sem])) | simp (disch := omega) only [wrapI, wrapU, shl1, shl1', shl1'', shrN, shrN', and_one] | ((with_reducible refine isEx8 ?_); refine ⟨(_, _, _, _, _, _, _, _), rfl, ?_, ?_⟩) | ((with_reducible refine isEx7 ?_); refine ⟨(_, _, _, _, _, _, _), rfl, ?_, ?_⟩) | ((with_reducible refine isEx6 ?_); refine ⟨(_, _, _, _, _, _), rfl, ?_, ?_⟩) | ((with_reducible refine isEx5 ?_); refine ⟨(_, _, _, _, _), rfl, ?_, ?_⟩) | ((with_reducible refine isEx4 ?_); refine ⟨(_, _, _, _), rfl, ?_, ?_⟩) | ((with_reducible refine isEx3 ?_); refine ⟨(_, _, _), rfl, ?_, ?_⟩) | ((with_reducible refine isEx2 ?_); refine ⟨(_, _), rfl, ?_, ?_⟩) | ((with_reducible refine isEx ?_); refine ⟨_, rfl, ?_, ?_⟩)
        all_goals first | omega | (simp; done) | (simp; omega) | skip
      · (try (simp -implicitDefEqProofs only [go_sem])); repeat' first | with_reducible exact True.intro | with_reducible refine And.intro ?_ ?_ | with_reducible intro _ | (((with_reducible refine vc_b ?_ ?_) <;> intro _) <;> try (simp -implicitDefEqProofs only [go_sem])) | simp (disch := omega) only [wrapI, wrapU, shl1, shl1', shl1'', shrN, shrN', and_one] | ((with_reducible refine isEx8 ?_); refine ⟨(_, _, _, _, _, _, _, _), rfl, ?_, ?_⟩) | ((with_reducible refine isEx7 ?_); refine ⟨(_, _, _, _, _, _, _), rfl, ?_, ?_⟩) | ((with_reducible refine isEx6 ?_); refine ⟨(_, _, _, _, _, _), rfl, ?_, ?_⟩) | ((with_reducible refine isEx5 ?_); refine ⟨(_, _, _, _, _), rfl, ?_, ?_⟩) | ((with_reducible refine isEx4 ?_); refine ⟨(_, _, _, _), rfl, ?_, ?_⟩) | ((with_reducible refine isEx3 ?_); refine ⟨(_, _, _), rfl, ?_, ?_⟩) | ((with_reducible refine isEx2 ?_); refine ⟨(_, _), rfl, ?_, ?_⟩) | ((with_reducible refine isEx ?_); refine ⟨_, rfl, ?_, ?_⟩)
        all_goals first | omega | (simp; done) | (simp; omega) | skip
  · (try (simp -implicitDefEqProofs only [go_sem])); repeat' first | with_reducible exact True.intro | with_reducible refine And.intro ?_ ?_ | with_reducible intro _ | (((with_reducible refine vc_b ?_ ?_) <;> intro _) <;> try (simp -implicitDefEqProofs only [go_sem])) | simp (disch := omega) only [wrapI, wrapU, shl1, shl1', shl1'', shrN, shrN', and_one] | ((with_reducible refine isEx8 ?_); refine ⟨(_, _, _, _, _, _, _, _), rfl, ?_, ?_⟩) | ((with_reducible refine isEx7 ?_); refine ⟨(_, _, _, _, _, _, _), rfl, ?_, ?_⟩) | ((with_reducible refine isEx6 ?_); refine ⟨(_, _, _, _, _, _), rfl, ?_, ?_⟩) | ((with_reducible refine isEx5 ?_); refine ⟨(_, _, _, _, _), rfl, ?_, ?_⟩) | ((with_reducible refine isEx4 ?_); refine ⟨(_, _, _, _), rfl, ?_, ?_⟩) | ((with_reducible refine isEx3 ?_); refine ⟨(_, _, _), rfl, ?_, ?_⟩) | ((with_reducible refine isEx2 ?_); refine ⟨(_, _), rfl, ?_, ?_⟩) | ((with_reducible refine isEx ?_); refine ⟨_, rfl, ?_, ?_⟩)
    all_goals first | omega | (simp; done) | (simp; omega) | skip
    all_goals try (exfalso; simp_all; done)
    refine pw_loopS (α := Int × (List Int)) (l0 := ?l5) (m0 := ?m5) (fun x => [(6, .d (.int .i64 x.1))]) (fun x => [(9, .row T_int 1 false (ints x.2))]) (fun x => 0 ≤ x.1 ∧ x.1 ≤ spots.length ∧ x.2.length = bits.length ∧ stainF bits x.2 (spots.drop x.1.toNat) = stainF bits bits spots) (fun x => (spots.length - x.1).toNat) (?a5_0, bits) ?h05 ?he5 ?he25 ?hI5 ?step5
    case h05 => (simp -implicitDefEqProofs only [go_sem]; rfl)
    case he5 => rfl
    case he25 => rfl
    case' step5 => (rintro ⟨i, acc⟩ hI2; try dsimp only at hI2)
    case' hI5 => try dsimp only
    · simp
    · obtain ⟨hi0, hi1, hl, heq⟩ := hI2
      by_cases hi : i < spots.length
      · have hstep : stainF bits acc (spots.drop i.toNat) = stainF bits (if 0 ≤ (spots[i.toNat]?.getD 0) ∧ (spots[i.toNat]?.getD 0) < bits.length then acc.set (spots[i.toNat]?.getD 0).toNat (1 - bits[(spots[i.toNat]?.getD 0).toNat]?.getD 0) else acc) (spots.drop (i + 1).toNat) := by
          rw [drop_get (xs := spots) (i := i.toNat) (by omega), stainF, show (i + 1).toNat = i.toNat + 1 by omega]
        rw [hstep] at heq
        by_cases hin : 0 ≤ (spots[i.toNat]?.getD 0) ∧ (spots[i.toNat]?.getD 0) < bits.length
        · rw [if_pos hin] at heq
          have hbit := areBits_get hb (i := (spots[i.toNat]?.getD 0).toNat) (by omega)
          (try (simp -implicitDefEqProofs only [go_sem])); repeat' first | with_reducible exact True.intro | with_reducible refine And.intro ?_ ?_ | with_reducible intro _ | (((with_reducible refine vc_b ?_ ?_) <;> intro _) <;> try (simp -implicitDefEqProofs only [go_sem])) | simp (disch := omega) only [wrapI, wrapU, shl1, shl1', shl1'', shrN, shrN', and_one] | ((with_reducible refine isEx8 ?_); refine ⟨(_, _, _, _, _, _, _, _), rfl, ?_, ?_⟩) | ((with_reducible refine isEx7 ?_); refine ⟨(_, _, _, _, _, _, _), rfl, ?_, ?_⟩) | ((with_reducible refine isEx6 ?_); refine ⟨(_, _, _, _, _, _), rfl, ?_, ?_⟩) | ((with_reducible refine isEx5 ?_); refine ⟨(_, _, _, _, _), rfl, ?_, ?_⟩) | ((with_reducible refine isEx4 ?_); refine ⟨(_, _, _, _), rfl, ?_, ?_⟩) | ((with_reducible refine isEx3 ?_); refine ⟨(_, _, _), rfl, ?_, ?_⟩) | ((with_reducible refine isEx2 ?_); refine ⟨(_, _), rfl, ?_, ?_⟩) | ((with_reducible refine isEx ?_); refine ⟨_, rfl, ?_, ?_⟩)
          all_goals (try simp (disch := omega) only [wrapI, wrapU, shl1, shl1', shl1'', shrN, shrN', and_one] at *)
          all_goals first | omega | (simp; done) | (simp; omega) | skip
          all_goals first | exact heq | (simp_all; done)
        · rw [if_neg hin] at heq
          (try (simp -implicitDefEqProofs only [go_sem])); repeat' first | with_reducible exact True.intro | with_reducible refine And.intro ?_ ?_ | with_reducible intro _ | (((with_reducible refine vc_b ?_ ?_) <;> intro _) <;> try (simp -implicitDefEqProofs only [go_sem])) | simp (disch := omega) only [wrapI, wrapU, shl1, shl1', shl1'', shrN, shrN', and_one] | ((with_reducible refine isEx8 ?_); refine ⟨(_, _, _, _, _, _, _, _), rfl, ?_, ?_⟩) | ((with_reducible refine isEx7 ?_); refine ⟨(_, _, _, _, _, _, _), rfl, ?_, ?_⟩) | ((with_reducible refine isEx6 ?_); refine ⟨(_, _, _, _, _, _), rfl, ?_, ?_⟩) | ((with_reducible refine isEx5 ?_); refine ⟨(_, _, _, _, _), rfl, ?_, ?_⟩) | ((with_reducible refine isEx4 ?_); refine ⟨(_, _, _, _), rfl, ?_, ?_⟩) | ((with_reducible refine isEx3 ?_); refine ⟨(_, _, _), rfl, ?_, ?_⟩) | ((with_reducible refine isEx2 ?_); refine ⟨(_, _), rfl, ?_, ?_⟩) | ((with_reducible refine isEx ?_); refine ⟨_, rfl, ?_, ?_⟩)
          all_goals first | omega | (simp; done) | (simp; omega) | skip
          all_goals first | exact heq | (simp_all; done)
      · (try (simp -implicitDefEqProofs only [go_sem])); repeat' first | with_reducible exact True.intro | with_reducible refine And.intro ?_ ?_ | with_reducible intro _ | (((with_reducible refine vc_b ?_ ?_) <;> intro _) <;> try (simp -implicitDefEqProofs only [go_sem])) | simp (disch := omega) only [wrapI, wrapU, shl1, shl1', shl1'', shrN, shrN', and_one] | ((with_reducible refine isEx8 ?_); refine ⟨(_, _, _, _, _, _, _, _), rfl, ?_, ?_⟩) | ((with_reducible refine isEx7 ?_); refine ⟨(_, _, _, _, _, _, _), rfl, ?_, ?_⟩) | ((with_reducible refine isEx6 ?_); refine ⟨(_, _, _, _, _, _), rfl, ?_, ?_⟩) | ((with_reducible refine isEx5 ?_); refine ⟨(_, _, _, _, _), rfl, ?_, ?_⟩) | ((with_reducible refine isEx4 ?_); refine ⟨(_, _, _, _), rfl, ?_, ?_⟩) | ((with_reducible refine isEx3 ?_); refine ⟨(_, _, _), rfl, ?_, ?_⟩) | ((with_reducible refine isEx2 ?_); refine ⟨(_, _), rfl, ?_, ?_⟩) | ((with_reducible refine isEx ?_); refine ⟨_, rfl, ?_, ?_⟩)
        all_goals first | omega | (simp; done) | (simp; omega) | skip
        have h0 : spots.drop i.toNat = [] := List.drop_eq_nil_of_le (by omega)
        rw [h0, stainF] at heq
        rw [← heq]
end Go.Pw
