/- A part of the proof. -/
import Derived.Test.YtlmkpaimjpdhiaaDoorPgCorrectL
import Derived.Test.YtlmkpaimjpdhiaaDoorCorrectEnc
set_option linter.all false
open Go Go.Pw Go.Proofs
namespace Go.Pw
set_option linter.unusedSimpArgs false
set_option linter.unusedVariables false
set_option maxRecDepth 100000
set_option maxHeartbeats 3200000
theorem addAt_step (l g : List F) (o k : Nat) (b : F) (h : k < g.length) : (addAt l o b (g.take k)).set (o + k) (fa ((addAt l o b (g.take k))[o + k]?.getD 0) (fm b (g[k]?.getD 0))) = addAt l o b (g.take (k + 1)) := by
  rw [← take_succ_getD g 0 k h, addAt_snoc]
  rw [show (g.take k).length = k by simp; omega]
theorem addAt_step1 (l g : List F) (k : Nat) (b : F) (h : k < g.length) : (addAt l 1 b (g.take k)).set (k + 1) (fa ((addAt l 1 b (g.take k))[k + 1]?.getD 0) (fm (g[k]?.getD 0) b)) = addAt l 1 b (g.take (k + 1)) := by
  rw [← addAt_step l g 1 k b h, fm_comm b, Nat.add_comm 1 k]
attribute [local congr] cg_pw cg_seqI cg_seqE cg_stepI cg_ev cg_evBin cg_condB cg_condV cg_thenQ cg_blockQ cg_onSome cg_onCells cg_onRow cg_onRow2 cg_onMtx cg_frmV cg_fraV cg_frcV cg_frcO cg_frcX cg_fraO cg_owmV cg_frhV cg_frhO cg_onMap cg_onOpt cg_ghosts cg_ghost cg_evCall cg_part cg_rng cg_guardV cg_frzV cg_frpV cg_ownV cg_owcV cg_occV cg_occX cg_resK cg_res1 cg_yldP cg_rndE cg_onlyN cg_onHist
attribute [local irreducible] IntKind.wrap bitsOp Option.getD and or

theorem correct_encode_ret (L P : Nat) (n1 : Bool) (d : List F) (hL : L ≤ 15) (hP : 1 ≤ P) (hd : d.length + P = L) (hd1 : 1 ≤ d.length) (hn1 : n1 = false) :
    Ret E0 F_correct_code_encode [codD L P, .list n1 (us d)] (.list false (us (encS P d))) := by
  subst hn1
  have c0 := Clone_sym_own false d (by omega) (by omega) rfl
  refine ret_of_pw dec_correct_code_encode mixed (by simp) fun hwf => ?_
  rw [enter_eq]; unfold pc_correct_code_encode
  rw [codD_eq]
  (try (simp -implicitDefEqProofs only [go_sem])); repeat' first | with_reducible exact True.intro | with_reducible refine And.intro ?_ ?_ | with_reducible intro _ | (((with_reducible refine vc_b ?_ ?_) <;> intro _) <;> try (simp -implicitDefEqProofs only [go_sem])) | simp (disch := omega) only [wrapI, wrapU, shl1, shl1', shl1'', shrN, shrN', and_one] | ((with_reducible refine isEx ?_); refine ⟨_, rfl, ?_, ?_⟩)
  all_goals first | omega | (simp; done) | (simp; omega) | skip
  rw [show ([D.int .u8 1] : List D) = us (divS 0) from rfl]
  refine pw_loopS (α := Nat) (l0 := ?l1) (m0 := ?m1) (fun x => [(19, .d (.int .i64 (x : Int))), (5, .d (.list false (us (divS x))))]) (fun x => []) (fun x => x ≤ P) (fun x => P - x) 0 ?h01 ?he1 ?he21 ?hI1 ?step1
  case h01 => (simp -implicitDefEqProofs only [go_sem]; rfl)
  case he1 => rfl
  case he21 => rfl
  case' step1 => (rintro i hI; try dsimp only at hI)
  case' hI1 => try dsimp only
  · exact Nat.zero_le _
  · have hgl := divS_len i
    by_cases h : i < P
    · have h' : (i : Int) < (P : Int) := by omega
      have hwi : IntKind.i64.wrap ((i : Int) + 1) = ((i + 1 : Nat) : Int) := by rw [wrapI _ (by omega)]; omega
      have hG : divS (i + 1) = addAt (divS i ++ [0]) 1 (gp i) (divS i) := rfl
      obtain ⟨G, hGe⟩ : ∃ G, divS i = G := ⟨_, rfl⟩
      rw [hGe] at hgl hG ⊢
      have c1 := Clone_sym_own false G (by omega) (by omega) rfl
      have c2 := correct_power_ret i (by omega)
      (try (simp -implicitDefEqProofs only [go_sem, h', us_snoc0])); repeat' first | with_reducible exact True.intro | with_reducible refine And.intro ?_ ?_ | with_reducible intro _ | (((with_reducible refine isCall ?_); first | (refine call_m ([]) ([((7, 1), (23, 1))]) (c1) (by repeat' first | exact True.intro | exact rfl | refine And.intro ?_ ?_) (by simp [Handed, Ren.get, AObj.ren, AV.ren, AV.ren.renL, View.get, lookO, callF, newS, View.reach, AV.sites, AV.sites.sitesL, View.osites]) (by simp [namesOk, hasN, nodupB, Ren.get, newS, lim, upd]) (by rfl) (by simp only [backC, Ren.get, AObj.ren, AV.ren, AV.ren.renL, and_self, and_true, true_and, if_true, reduceIte]; rfl) ?_)) <;> try (simp -implicitDefEqProofs only [go_sem, h', us_snoc0])) | (((with_reducible refine vc_b ?_ ?_) <;> intro _) <;> try (simp -implicitDefEqProofs only [go_sem, h', us_snoc0])) | simp (disch := omega) only [wrapI, wrapU, shl1, shl1', shl1'', shrN, shrN', and_one] | ((with_reducible refine isEx ?_); refine ⟨_, rfl, ?_, ?_⟩)
      all_goals first | omega | (simp; done) | (simp; omega) | skip
      refine pw_loopS (α := Nat) (l0 := ?l2) (m0 := ?m2) (fun x => [(28, .d (.int .i64 (x : Int)))]) (fun x => [(23, .row 89 1 false (us (addAt (G ++ [0]) 1 (gp i) (G.take x))))]) (fun x => x ≤ G.length) (fun x => G.length - x) 0 ?h02 ?he2 ?he22 ?hI2 ?step2
      case h02 => (simp -implicitDefEqProofs only [go_sem]; rfl)
      case he2 => rfl
      case he22 => rfl
      case' step2 => (rintro k hI2; try dsimp only at hI2)
      case' hI2 => try dsimp only
      · exact Nat.zero_le _
      · have hA := addAt_len (G.take k) (G ++ [0]) 1 (gp i)
        rw [List.length_append, List.length_singleton] at hA
        by_cases hk : k < G.length
        · have hk' : (k : Int) < (G.length : Int) := by omega
          have hwk : IntKind.i64.wrap ((k : Int) + 1) = ((k + 1 : Nat) : Int) := by rw [wrapI _ (by omega)]; omega
          have c3 := correct_times_ret (G[k]?.getD 0) (gp i)
          have hst := addAt_step1 (G ++ [0]) G k (gp i) hk
          (try (simp -implicitDefEqProofs only [go_sem, hk', hwk, hA, hst])); repeat' first | with_reducible exact True.intro | with_reducible refine And.intro ?_ ?_ | with_reducible intro _ | (((with_reducible refine isCall ?_); first | refine call_b (c2) rfl ?_ ?_ | refine call_d (c2) rfl ?_ | refine call_sb (c2) rfl ?_ ?_ | refine call_s (c2) rfl rfl ?_ | refine call_b (c3) rfl ?_ ?_ | refine call_d (c3) rfl ?_ | refine call_sb (c3) rfl ?_ ?_ | refine call_s (c3) rfl rfl ?_) <;> try (simp -implicitDefEqProofs only [go_sem, hk', hwk, hA, hst])) | (((with_reducible refine vc_b ?_ ?_) <;> intro _) <;> try (simp -implicitDefEqProofs only [go_sem, hk', hwk, hA, hst])) | simp (disch := omega) only [wrapI, wrapU, shl1, shl1', shl1'', shrN, shrN', and_one] | ((with_reducible refine isEx ?_); refine ⟨_, rfl, ?_, ?_⟩)
          all_goals first | omega | (simp; done) | (simp; omega) | skip
          all_goals first | rfl | (simp at *; done) | (simp at *; omega) | skip
        · have hk' : ¬ (k : Int) < (G.length : Int) := by omega
          have hke : G.take k = G := List.take_of_length_le (by omega)
          rw [hke, ← hG]
          (try (simp -implicitDefEqProofs only [go_sem, hk', hwi])); repeat' first | with_reducible exact True.intro | with_reducible refine And.intro ?_ ?_ | with_reducible intro _ | (((with_reducible refine vc_b ?_ ?_) <;> intro _) <;> try (simp -implicitDefEqProofs only [go_sem, hk', hwi])) | simp (disch := omega) only [wrapI, wrapU, shl1, shl1', shl1'', shrN, shrN', and_one] | ((with_reducible refine isEx ?_); refine ⟨_, rfl, ?_, ?_⟩)
          all_goals first | omega | (simp; done) | (simp; omega) | skip
          all_goals first | rfl | omega | skip
    · have h' : ¬ (i : Int) < (P : Int) := by omega
      have hie : i = P := by omega
      subst hie
      obtain ⟨G, hGe⟩ : ∃ G, divS i = G := ⟨_, rfl⟩
      rw [hGe] at hgl ⊢
      (try (simp -implicitDefEqProofs only [go_sem, h', us_rep0, us_app])); repeat' first | with_reducible exact True.intro | with_reducible refine And.intro ?_ ?_ | with_reducible intro _ | (((with_reducible refine isCall ?_); first | (refine call_m ([]) ([((7, 1), (48, 1))]) (c0) (by repeat' first | exact True.intro | exact rfl | refine And.intro ?_ ?_) (by simp [Handed, Ren.get, AObj.ren, AV.ren, AV.ren.renL, View.get, lookO, callF, newS, View.reach, AV.sites, AV.sites.sitesL, View.osites]) (by simp [namesOk, hasN, nodupB, Ren.get, newS, lim, upd]) (by rfl) (by simp only [backC, Ren.get, AObj.ren, AV.ren, AV.ren.renL, and_self, and_true, true_and, if_true, reduceIte]; rfl) ?_)) <;> try (simp -implicitDefEqProofs only [go_sem, h', us_rep0, us_app])) | (((with_reducible refine vc_b ?_ ?_) <;> intro _) <;> try (simp -implicitDefEqProofs only [go_sem, h', us_rep0, us_app])) | simp (disch := omega) only [wrapI, wrapU, shl1, shl1', shl1'', shrN, shrN', and_one] | ((with_reducible refine isEx ?_); refine ⟨_, rfl, ?_, ?_⟩)
      all_goals first | omega | (simp; done) | (simp; omega) | skip
      rw [show us (d ++ List.replicate i 0) = us (restS G d i 0) from rfl]
      refine pw_loopS (α := Nat) (l0 := ?l3) (m0 := ?m3) (fun x => [(55, .d (.int .i64 (x : Int)))]) (fun x => [(48, .row 89 1 false (us (restS G d i x)))]) (fun x => x ≤ d.length) (fun x => d.length - x) 0 ?h03 ?he3 ?he23 ?hI3 ?step3
      case h03 => (simp -implicitDefEqProofs only [go_sem]; rfl)
      case he3 => rfl
      case he23 => rfl
      case' step3 => (rintro m hI3; try dsimp only at hI3)
      case' hI3 => try dsimp only
      · exact Nat.zero_le _
      · have hrl := restS_len G d i m
        have hrs : restS G d i (m + 1) = addAt (restS G d i m) m ((restS G d i m)[m]?.getD 0) G := rfl
        obtain ⟨R, hR⟩ : ∃ R, restS G d i m = R := ⟨_, rfl⟩
        rw [hR] at hrl hrs ⊢
        by_cases hm : m < d.length
        · have hm' : (m : Int) < (d.length : Int) := by omega
          have hwm : IntKind.i64.wrap ((m : Int) + 1) = ((m + 1 : Nat) : Int) := by rw [wrapI _ (by omega)]; omega
          have hmR : m < R.length := by omega
          obtain ⟨B, hB⟩ : ∃ B, R[m]?.getD 0 = B := ⟨_, rfl⟩
          rw [hB] at hrs
          (try (simp -implicitDefEqProofs only [go_sem, hm', hmR, hB])); repeat' first | with_reducible exact True.intro | with_reducible refine And.intro ?_ ?_ | with_reducible intro _ | (((with_reducible refine vc_b ?_ ?_) <;> intro _) <;> try (simp -implicitDefEqProofs only [go_sem, hm', hmR, hB])) | simp (disch := omega) only [wrapI, wrapU, shl1, shl1', shl1'', shrN, shrN', and_one] | ((with_reducible refine isEx ?_); refine ⟨_, rfl, ?_, ?_⟩)
          all_goals first | omega | (simp; done) | (simp; omega) | skip
          rw [show us R = us (addAt R m B (G.take 0)) from rfl]
          refine pw_loopS (α := Nat) (l0 := ?l4) (m0 := ?m4) (fun x => [(64, .d (.int .i64 (x : Int)))]) (fun x => [(48, .row 89 1 false (us (addAt R m B (G.take x))))]) (fun x => x ≤ G.length) (fun x => G.length - x) 0 ?h04 ?he4 ?he24 ?hI4 ?step4
          case h04 => (simp -implicitDefEqProofs only [go_sem]; rfl)
          case he4 => rfl
          case he24 => rfl
          case' step4 => (rintro k hI4; try dsimp only at hI4)
          case' hI4 => try dsimp only
          · exact Nat.zero_le _
          · have hA := addAt_len (G.take k) R m B
            by_cases hk : k < G.length
            · have hk' : (k : Int) < (G.length : Int) := by omega
              have hwk : IntKind.i64.wrap ((k : Int) + 1) = ((k + 1 : Nat) : Int) := by rw [wrapI _ (by omega)]; omega
              have hwmk : IntKind.i64.wrap ((m : Int) + (k : Int)) = ((m + k : Nat) : Int) := by rw [wrapI _ (by omega)]; omega
              have hmk : m + k < R.length := by omega
              have c3 := correct_times_ret B (G[k]?.getD 0)
              have hst := addAt_step R G m k B hk
              (try (simp -implicitDefEqProofs only [go_sem, hk', hwk, hwmk, hA, hmk, hst])); repeat' first | with_reducible exact True.intro | with_reducible refine And.intro ?_ ?_ | with_reducible intro _ | (((with_reducible refine isCall ?_); first | refine call_b (c3) rfl ?_ ?_ | refine call_d (c3) rfl ?_ | refine call_sb (c3) rfl ?_ ?_ | refine call_s (c3) rfl rfl ?_) <;> try (simp -implicitDefEqProofs only [go_sem, hk', hwk, hwmk, hA, hmk, hst])) | (((with_reducible refine vc_b ?_ ?_) <;> intro _) <;> try (simp -implicitDefEqProofs only [go_sem, hk', hwk, hwmk, hA, hmk, hst])) | simp (disch := omega) only [wrapI, wrapU, shl1, shl1', shl1'', shrN, shrN', and_one] | ((with_reducible refine isEx ?_); refine ⟨_, rfl, ?_, ?_⟩)
              all_goals first | omega | (simp; done) | (simp; omega) | skip
              all_goals first | rfl | (simp at *; done) | (simp at *; omega) | skip
            · have hk' : ¬ (k : Int) < (G.length : Int) := by omega
              have hke : G.take k = G := List.take_of_length_le (by omega)
              rw [hke, ← hrs]
              (try (simp -implicitDefEqProofs only [go_sem, hk', hwm])); repeat' first | with_reducible exact True.intro | with_reducible refine And.intro ?_ ?_ | with_reducible intro _ | (((with_reducible refine vc_b ?_ ?_) <;> intro _) <;> try (simp -implicitDefEqProofs only [go_sem, hk', hwm])) | simp (disch := omega) only [wrapI, wrapU, shl1, shl1', shl1'', shrN, shrN', and_one] | ((with_reducible refine isEx ?_); refine ⟨_, rfl, ?_, ?_⟩)
              all_goals first | omega | (simp; done) | (simp; omega) | skip
              all_goals first | rfl | omega | skip
        · have hm' : ¬ (m : Int) < (d.length : Int) := by omega
          have hme : m = d.length := by omega
          have c4 := Concat_sym_ret false false d (R.drop d.length) (by omega) (by simp; omega)
          have hres : d ++ R.drop d.length = encS i d := by rw [← hR, hme, ← hGe]; rfl
          have hemp : (encS i d).isEmpty = false := by
            have h5 := encS_len i d
            cases hE : encS i d with
            | nil => rw [hE] at h5; simp at h5; omega
            | cons => rfl
          have hdr : List.take (d.length + i - d.length) (R.drop d.length) = R.drop d.length := List.take_of_length_le (by simp; omega)
          rw [hres, hemp] at c4
          (try (simp -implicitDefEqProofs only [go_sem, hm', hrl, hdr])); repeat' first | with_reducible exact True.intro | with_reducible refine And.intro ?_ ?_ | with_reducible intro _ | (((with_reducible refine isCall ?_); first | refine call_b (c4) rfl ?_ ?_ | refine call_d (c4) rfl ?_ | refine call_sb (c4) rfl ?_ ?_ | refine call_s (c4) rfl rfl ?_) <;> try (simp -implicitDefEqProofs only [go_sem, hm', hrl, hdr])) | (((with_reducible refine vc_b ?_ ?_) <;> intro _) <;> try (simp -implicitDefEqProofs only [go_sem, hm', hrl, hdr])) | simp (disch := omega) only [wrapI, wrapU, shl1, shl1', shl1'', shrN, shrN', and_one] | ((with_reducible refine isEx ?_); refine ⟨_, rfl, ?_, ?_⟩)
          all_goals first | omega | (simp; done) | (simp; omega) | skip
          all_goals first | rfl | (simp at *; done) | (simp at *; omega) | skip
end Go.Pw
