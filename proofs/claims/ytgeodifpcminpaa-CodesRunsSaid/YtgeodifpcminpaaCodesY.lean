/- A part of the proof. -/
import Derived.Test.YtgeodifpcminpaaCodesX
set_option linter.all false
open Go Go.Pw Go.Proofs
namespace Go.Pw
set_option linter.unusedSimpArgs false
set_option linter.unusedVariables false
set_option maxRecDepth 100000
set_option maxHeartbeats 12800000
attribute [local congr] cg_pw cg_seqI cg_seqE cg_stepI cg_ev cg_evBin cg_condB cg_condV cg_thenQ cg_blockQ cg_onSome cg_onCells cg_onRow cg_onMap cg_onOpt cg_ghosts cg_ghost cg_evCall cg_part cg_rng cg_guardV cg_frzV cg_frpV cg_ownV cg_owcV cg_occV cg_occX cg_resK cg_res1
attribute [local irreducible] IntKind.wrap bitsOp Option.getD and or

theorem rep_step {α : Type} (a b : α) (i n : Nat) (h : i < n) : (List.replicate i a ++ List.replicate (n - i) b).set i a = List.replicate (i + 1) a ++ List.replicate (n - (i + 1)) b := by
  rw [show n - i = (n - (i + 1)) + 1 by omega, List.replicate_succ]
  rw [List.set_append_right _ _ (by simp)]
  simp [List.replicate_succ']
theorem rep_get {α : Type} (a b : α) (i n : Nat) (h : i < n) : (List.replicate i a ++ List.replicate (n - i) b)[i]? = some b := by
  rw [List.getElem?_append_right (by simp)]; simp only [List.length_replicate, Nat.sub_self]; rw [List.getElem?_replicate, if_pos (by omega)]
theorem tbl_full (c : GCode) (bits : List Int) (K : Nat) : c.tbl bits K K = List.replicate c.words.length (some []) := by
  simp only [GCode.tbl, Nat.sub_self]
  rw [← List.map_const']
  apply List.ext_getElem? ; intro i
  simp only [List.getElem?_map]
  by_cases hi : i < c.words.length
  · simp [hi, GCode.decP]
  · simp [hi]
theorem onSome_optR {P : Tbl} {i : Nat} {A : D → Prop} : onSome (P.map optR)[i]? A = (i < P.length ∧ A (optR (P[i]?.getD none))) := by
  rw [List.getElem?_map]
  by_cases h : i < P.length
  · simp [h, onSome]
  · have : P[i]? = none := List.getElem?_eq_none (by omega)
    simp [this, h, onSome]
theorem onSome_optB {P : Tbl} {i : Nat} {A : D → Prop} : onSome (P.map optB)[i]? A = (i < P.length ∧ A (.bool (P[i]?.getD none).isSome)) := by
  rw [List.getElem?_map]
  by_cases h : i < P.length
  · simp [h, onSome, optB]
  · have : P[i]? = none := List.getElem?_eq_none (by omega)
    simp [this, h, onSome]

theorem decP_len (c : GCode) (bits : List Int) : ∀ (k : Nat) (s p : Int) (l : List Int), c.decP bits k s p = some l → l.length = k
  | 0, s, p, l, h => by simp [GCode.decP] at h; subst h; rfl
  | k + 1, s, p, l, h => by
    obtain ⟨w, l', rfl, _, _, _, h4⟩ := decPW_some c c.W 0 l (by omega) h
    simp [decP_len c bits k _ _ l' h4]
theorem getD_ext {xs ys : Tbl} {j : Nat} (hx : j < xs.length) (hy : j < ys.length) (h : xs[j]?.getD none = ys[j]?.getD none) : xs[j]? = ys[j]? := by
  rw [List.getElem?_eq_getElem hx, List.getElem?_eq_getElem hy, Option.getD_some, Option.getD_some] at h
  rw [List.getElem?_eq_getElem hx, List.getElem?_eq_getElem hy, h]
theorem tbl_set {xs : Tbl} {i j : Nat} {v : Option (List Int)} (hi : i < xs.length) : (xs.set i v)[j]?.getD none = if j = i then v else xs[j]?.getD none := by
  by_cases h : j = i
  · subst h; rw [List.getElem?_set_self hi]; simp
  · rw [List.getElem?_set_ne (Ne.symm h), if_neg h]
theorem sn_optR {V : View} {o : Option (List Int)} : AV.snap V (.d (optR o)) = some (optR o) := by cases o <;> rfl
theorem toD_optR {o : Option (List Int)} : AV.toD1 (.d (optR o)) = some (optR o) := by cases o <;> rfl
theorem ref04_decode_ret (c : GCode) (h : c.ok = true) (s : Int) (nb : Bool) (bits : List Int) (K : Nat) (hs : c.isState s = true) (hK : (K : Int) * c.out = bits.length) (hK24 : K ≤ 24) :
    Ret E0 F_ref04_decode [codeD c, .int .i64 s, .list nb (ints bits)] (.tup [optR (c.decP bits K s 0), .bool (c.decP bits K s 0).isSome]) := by
  refine ret_of_pw dec_ref04_decode mixed (by simp) fun hwf => ?_
  have hd := GCode.ok_head h
  have hs0 := hs
  simp only [GCode.isState, inR, decide_eq_true_eq] at hs0
  obtain ⟨n, hn⟩ : ∃ n, c.words.length = n := ⟨_, rfl⟩
  have hlen : bits.length ≤ 120 := by
    have : (K : Int) * c.out ≤ 24 * 5 := Int.mul_le_mul (by omega) (by omega) (by omega) (by omega)
    omega
  rw [enter_eq]; unfold pc_ref04_decode
  (try (simp -implicitDefEqProofs only [go_sem, codeD_eq, codeC_eq, rowsD_eq, hn])); repeat' first | with_reducible exact True.intro | with_reducible refine And.intro ?_ ?_ | with_reducible intro _ | (((with_reducible refine vc_b ?_ ?_) <;> intro _) <;> try (simp -implicitDefEqProofs only [go_sem, codeD_eq, codeC_eq, rowsD_eq, hn])) | simp (disch := omega) only [wrapI, wrapU, shl1, shl1', shl1'', shrN, shrN', and_one] | ((with_reducible refine isEx8 ?_); refine ⟨(_, _, _, _, _, _, _, _), rfl, ?_, ?_⟩) | ((with_reducible refine isEx7 ?_); refine ⟨(_, _, _, _, _, _, _), rfl, ?_, ?_⟩) | ((with_reducible refine isEx6 ?_); refine ⟨(_, _, _, _, _, _), rfl, ?_, ?_⟩) | ((with_reducible refine isEx5 ?_); refine ⟨(_, _, _, _, _), rfl, ?_, ?_⟩) | ((with_reducible refine isEx4 ?_); refine ⟨(_, _, _, _), rfl, ?_, ?_⟩) | ((with_reducible refine isEx3 ?_); refine ⟨(_, _, _), rfl, ?_, ?_⟩) | ((with_reducible refine isEx2 ?_); refine ⟨(_, _), rfl, ?_, ?_⟩) | ((with_reducible refine isEx ?_); refine ⟨_, rfl, ?_, ?_⟩)
  all_goals first | omega | (simp; done) | (simp; omega) | skip
  refine pw_loopS (α := Int × (List D)) (l0 := ?l1) (m0 := ?m1) (fun x => [(10, .d (.int .i64 x.1))]) (fun x => [(24, .row 4 1 false x.2)]) (fun x => 0 ≤ x.1 ∧ x.1 ≤ n ∧ x.2 = List.replicate x.1.toNat (D.bool true) ++ List.replicate (n - x.1.toNat) (D.bool false)) (fun x => (n - x.1).toNat) (?a1_0, List.replicate n (D.bool false)) ?h01 ?he1 ?he21 ?hI1 ?step1
  case h01 => (simp -implicitDefEqProofs only [go_sem, hn]; rfl)
  case he1 => rfl
  case he21 => rfl
  case' step1 => (rintro ⟨i, L⟩ hI; try dsimp only at hI)
  case' hI1 => try dsimp only
  · simp
  · obtain ⟨hi0, hi1, hL⟩ := hI
    have hLl : L.length = n := by rw [hL]; simp; omega
    by_cases hi : i < n
    · have hg : L[i.toNat]? = some (.bool false) := by rw [hL]; exact rep_get _ _ _ _ (by omega)
      have hst : L.set i.toNat (.bool true) = List.replicate (i.toNat + 1) (D.bool true) ++ List.replicate (n - (i.toNat + 1)) (D.bool false) := by rw [hL]; exact rep_step _ _ _ _ (by omega)
      (try (simp -implicitDefEqProofs only [go_sem, hg, hLl])); repeat' first | with_reducible exact True.intro | with_reducible refine And.intro ?_ ?_ | with_reducible intro _ | (((with_reducible refine vc_b ?_ ?_) <;> intro _) <;> try (simp -implicitDefEqProofs only [go_sem, hg, hLl])) | simp (disch := omega) only [wrapI, wrapU, shl1, shl1', shl1'', shrN, shrN', and_one] | ((with_reducible refine isEx8 ?_); refine ⟨(_, _, _, _, _, _, _, _), rfl, ?_, ?_⟩) | ((with_reducible refine isEx7 ?_); refine ⟨(_, _, _, _, _, _, _), rfl, ?_, ?_⟩) | ((with_reducible refine isEx6 ?_); refine ⟨(_, _, _, _, _, _), rfl, ?_, ?_⟩) | ((with_reducible refine isEx5 ?_); refine ⟨(_, _, _, _, _), rfl, ?_, ?_⟩) | ((with_reducible refine isEx4 ?_); refine ⟨(_, _, _, _), rfl, ?_, ?_⟩) | ((with_reducible refine isEx3 ?_); refine ⟨(_, _, _), rfl, ?_, ?_⟩) | ((with_reducible refine isEx2 ?_); refine ⟨(_, _), rfl, ?_, ?_⟩) | ((with_reducible refine isEx ?_); refine ⟨_, rfl, ?_, ?_⟩)
      
      all_goals first | omega | (simp; done) | (simp; omega) | skip
      all_goals (rw [hst, show (i + 1).toNat = i.toNat + 1 by omega])
    · have hL2 : L = (List.replicate n (some [])).map optB := by
        rw [hL, show i.toNat = n by omega]; simp [optB]
      subst hL2
      have hr1 : List.replicate n (D.list true []) = (List.replicate n (some [])).map optR := by simp [optR]
      have hr2 : List.replicate n (D.list true []) = (List.replicate n none).map optR := by simp [optR]
      have hr3 : List.replicate n (D.bool false) = (List.replicate n none).map optB := by simp [optB]
      clear hLl hL
      have hwl : IntKind.i64.wrap (bits.length - c.out) = bits.length - c.out := wrapI _ (by omega)
      (try (simp -implicitDefEqProofs only [go_sem, hwl, List.length_replicate])); repeat' first | with_reducible exact True.intro | with_reducible refine And.intro ?_ ?_ | with_reducible intro _ | (((with_reducible refine vc_b ?_ ?_) <;> intro _) <;> try (simp -implicitDefEqProofs only [go_sem, hwl, List.length_replicate])) | simp (disch := omega) only [wrapI, wrapU, shl1, shl1', shl1'', shrN, shrN', and_one] | ((with_reducible refine isEx8 ?_); refine ⟨(_, _, _, _, _, _, _, _), rfl, ?_, ?_⟩) | ((with_reducible refine isEx7 ?_); refine ⟨(_, _, _, _, _, _, _), rfl, ?_, ?_⟩) | ((with_reducible refine isEx6 ?_); refine ⟨(_, _, _, _, _, _), rfl, ?_, ?_⟩) | ((with_reducible refine isEx5 ?_); refine ⟨(_, _, _, _, _), rfl, ?_, ?_⟩) | ((with_reducible refine isEx4 ?_); refine ⟨(_, _, _, _), rfl, ?_, ?_⟩) | ((with_reducible refine isEx3 ?_); refine ⟨(_, _, _), rfl, ?_, ?_⟩) | ((with_reducible refine isEx2 ?_); refine ⟨(_, _), rfl, ?_, ?_⟩) | ((with_reducible refine isEx ?_); refine ⟨_, rfl, ?_, ?_⟩)
      all_goals first | omega | (simp; done) | (simp; omega) | skip
      refine pw_loopS (α := Int × Nat × Tbl) (l0 := ?l2) (m0 := ?m2) (fun x => [(11, .d (.int .i64 x.1)), (8, .d (.list false (x.2.2.map optR))), (9, .d (.list false (x.2.2.map optB)))]) (fun x => []) (fun x => x.1 + c.out = x.2.1 * c.out ∧ x.2.1 ≤ K ∧ x.2.2 = c.tbl bits K x.2.1) (fun x => x.2.1) (?a2_0, K, List.replicate n (some [])) ?h02 ?he2 ?he22 ?hI2 ?step2
      case h02 => (simp -implicitDefEqProofs only [go_sem, hn, hr1]; rfl)
      case he2 => rfl
      case he22 => rfl
      case' step2 => (rintro ⟨a, q, T⟩ hI2; try dsimp only at hI2)
      case' hI2 => try dsimp only
      · exact ⟨by rw [hK]; omega, Nat.le_refl _, by rw [tbl_full, hn]⟩
      · obtain ⟨ha, hq, hT⟩ := hI2
        have hTl : T.length = n := by rw [hT, tbl_len, hn]
        by_cases hq0 : q = 0
        · subst hq0
          have hTg : T[s.toNat]?.getD none = c.decP bits K s 0 := by
            rw [hT]; exact tbl_get c bits K 0 hs0.1 (by omega)
          have ha0 : ¬ 0 ≤ a := by simp at ha; omega
          (try (simp -implicitDefEqProofs only [go_sem, onSome_optR, onSome_optB, hTl, hTg, optR_load, optR_cells, sn_optR])); repeat' first | with_reducible exact True.intro | with_reducible refine And.intro ?_ ?_ | with_reducible intro _ | (((with_reducible refine vc_b ?_ ?_) <;> intro _) <;> try (simp -implicitDefEqProofs only [go_sem, onSome_optR, onSome_optB, hTl, hTg, optR_load, optR_cells, sn_optR])) | simp (disch := omega) only [wrapI, wrapU, shl1, shl1', shl1'', shrN, shrN', and_one] | ((with_reducible refine isEx8 ?_); refine ⟨(_, _, _, _, _, _, _, _), rfl, ?_, ?_⟩) | ((with_reducible refine isEx7 ?_); refine ⟨(_, _, _, _, _, _, _), rfl, ?_, ?_⟩) | ((with_reducible refine isEx6 ?_); refine ⟨(_, _, _, _, _, _), rfl, ?_, ?_⟩) | ((with_reducible refine isEx5 ?_); refine ⟨(_, _, _, _, _), rfl, ?_, ?_⟩) | ((with_reducible refine isEx4 ?_); refine ⟨(_, _, _, _), rfl, ?_, ?_⟩) | ((with_reducible refine isEx3 ?_); refine ⟨(_, _, _), rfl, ?_, ?_⟩) | ((with_reducible refine isEx2 ?_); refine ⟨(_, _), rfl, ?_, ?_⟩) | ((with_reducible refine isEx ?_); refine ⟨_, rfl, ?_, ?_⟩)
          all_goals first | omega | (simp; done) | (simp; omega) | skip
        · obtain ⟨p, rfl⟩ : ∃ p, q = p + 1 := ⟨q - 1, by omega⟩
          have hap : a = p * c.out := by
            have : ((p + 1 : Nat) : Int) * c.out = p * c.out + c.out := by simp [Int.add_mul]
            omega
          have hpos : 0 ≤ (p : Int) * c.out := Int.mul_nonneg (by omega) (by omega)
          have hle : a + c.out ≤ bits.length := by
            rw [ha, ← hK]; exact Int.mul_le_mul_of_nonneg_right (by omega) (by omega)
          have hwa : IntKind.i64.wrap (a - c.out) = a - c.out := wrapI _ (by omega)
          have hwb : IntKind.i64.wrap (a + c.out) = a + c.out := wrapI _ (by omega)
          obtain ⟨own, hown⟩ : ∃ own, c.ownB bits p = own := ⟨_, rfl⟩
          have hown2 : (bits.drop a.toNat).take ((a + c.out).toNat - a.toNat) = own := by
            rw [← hown, GCode.ownB, ← hap]; congr 1; omega
          obtain ⟨F, hF⟩ : ∃ F : Nat → Option (List Int), F = fun (j : Nat) => c.decP bits (K - p) (j : Int) (p : Int) := ⟨_, rfl⟩
          have hKp : K - p = (K - (p + 1)) + 1 := by omega
          have hFd : ∀ j : Nat, F j = c.decPW (fun s' => c.decP bits (K - (p + 1)) s' ((p : Int) + 1)) (j : Int) own c.W 0 := fun j => by rw [hF]; simp only; rw [hKp, GCode.decP, hown]
          have hrec : ∀ s' : Int, 0 ≤ s' → s' < n → T[s'.toNat]?.getD none = c.decP bits (K - (p + 1)) s' ((p : Int) + 1) := fun s' h1 h2 => by
            rw [hT]; exact tbl_get c bits K (p + 1) h1 (by omega)
          (try (simp -implicitDefEqProofs only [go_sem, hTl])); repeat' first | with_reducible exact True.intro | with_reducible refine And.intro ?_ ?_ | with_reducible intro _ | (((with_reducible refine vc_b ?_ ?_) <;> intro _) <;> try (simp -implicitDefEqProofs only [go_sem, hTl])) | simp (disch := omega) only [wrapI, wrapU, shl1, shl1', shl1'', shrN, shrN', and_one] | ((with_reducible refine isEx8 ?_); refine ⟨(_, _, _, _, _, _, _, _), rfl, ?_, ?_⟩) | ((with_reducible refine isEx7 ?_); refine ⟨(_, _, _, _, _, _, _), rfl, ?_, ?_⟩) | ((with_reducible refine isEx6 ?_); refine ⟨(_, _, _, _, _, _), rfl, ?_, ?_⟩) | ((with_reducible refine isEx5 ?_); refine ⟨(_, _, _, _, _), rfl, ?_, ?_⟩) | ((with_reducible refine isEx4 ?_); refine ⟨(_, _, _, _), rfl, ?_, ?_⟩) | ((with_reducible refine isEx3 ?_); refine ⟨(_, _, _), rfl, ?_, ?_⟩) | ((with_reducible refine isEx2 ?_); refine ⟨(_, _), rfl, ?_, ?_⟩) | ((with_reducible refine isEx ?_); refine ⟨_, rfl, ?_, ?_⟩)
          all_goals first | omega | (simp; done) | (simp; omega) | skip
          refine pw_loopS (α := Int × Tbl) (l0 := ?l3) (m0 := ?m3) (fun x => [(14, .d (.int .i64 x.1))]) (fun x => [(48, .row 25 1 false (x.2.map optR)), (52, .row 4 1 false (x.2.map optB))]) (fun x => 0 ≤ x.1 ∧ x.1 ≤ n ∧ x.2.length = n ∧ ∀ j : Nat, j < n → x.2[j]?.getD none = if (j : Int) < x.1 then F j else none) (fun x => (n - x.1).toNat) (?a3_0, List.replicate n none) ?h03 ?he3 ?he23 ?hI3 ?step3
          case h03 => (simp -implicitDefEqProofs only [go_sem, hn, hr2, hr3]; rfl)
          case he3 => rfl
          case he23 => rfl
          case' step3 => (rintro ⟨t, P⟩ hI3; try dsimp only at hI3)
          case' hI3 => try dsimp only
          · refine ⟨by omega, by omega, by simp, fun j hj => ?_⟩
            rw [if_neg (by omega), List.getElem?_replicate, if_pos hj, Option.getD_some]
          · obtain ⟨ht0, htn, hPl, hP⟩ := hI3
            by_cases ht : t < n
            · have hst : c.isState t = true := by simp only [GCode.isState, inR, decide_eq_true_eq]; omega
              have hWe := GCode.W_eq' c
              have hWb := pow_12 (b := c.bits) (by omega)
              have hW4 : c.W ≤ 4 := by simp only [GCode.W]; omega
              have hrw := (GCode.ok_words h t.toNat (by omega)).1
              have hrn := (GCode.ok_next h t.toNat (by omega)).1
              have hnc : ((2 ^ c.bits.toNat : Nat) : Int) = 2 ^ c.bits.toNat := by simp
              have hPt : P[t.toNat]?.getD none = none := by have := hP t.toNat (by omega); rwa [if_neg (by omega)] at this
              have hFt := hFd t.toNat
              rw [show ((t.toNat : Nat) : Int) = t by omega] at hFt
              obtain ⟨rec, hrecd⟩ : ∃ rec, rec = fun s' => c.decP bits (K - (p + 1)) s' ((p : Int) + 1) := ⟨_, rfl⟩
              rw [← hrecd] at hFt
              (try (simp -implicitDefEqProofs only [go_sem, List.length_map, hPl])); repeat' first | with_reducible exact True.intro | with_reducible refine And.intro ?_ ?_ | with_reducible intro _ | (((with_reducible refine vc_b ?_ ?_) <;> intro _) <;> try (simp -implicitDefEqProofs only [go_sem, List.length_map, hPl])) | simp (disch := omega) only [wrapI, wrapU, shl1, shl1', shl1'', shrN, shrN', and_one] | ((with_reducible refine isEx8 ?_); refine ⟨(_, _, _, _, _, _, _, _), rfl, ?_, ?_⟩) | ((with_reducible refine isEx7 ?_); refine ⟨(_, _, _, _, _, _, _), rfl, ?_, ?_⟩) | ((with_reducible refine isEx6 ?_); refine ⟨(_, _, _, _, _, _), rfl, ?_, ?_⟩) | ((with_reducible refine isEx5 ?_); refine ⟨(_, _, _, _, _), rfl, ?_, ?_⟩) | ((with_reducible refine isEx4 ?_); refine ⟨(_, _, _, _), rfl, ?_, ?_⟩) | ((with_reducible refine isEx3 ?_); refine ⟨(_, _, _), rfl, ?_, ?_⟩) | ((with_reducible refine isEx2 ?_); refine ⟨(_, _), rfl, ?_, ?_⟩) | ((with_reducible refine isEx ?_); refine ⟨_, rfl, ?_, ?_⟩)
              all_goals first | omega | (simp; done) | (simp; omega) | skip
              refine pw_loopS (α := Int × Tbl) (l0 := ?l4) (m0 := ?m4) (fun x => [(15, .d (.int .i64 x.1))]) (fun x => [(48, .row 25 1 false (x.2.map optR)), (52, .row 4 1 false (x.2.map optB))]) (fun x => 0 ≤ x.1 ∧ x.1 ≤ c.W ∧ x.2.length = n ∧ (∀ j : Nat, j < n → j ≠ t.toNat → x.2[j]?.getD none = P[j]?.getD none) ∧ ((x.2[t.toNat]?.getD none = none ∧ c.decPW rec t own (c.W - x.1.toNat) x.1 = F t.toNat) ∨ (x.2[t.toNat]?.getD none = F t.toNat ∧ (F t.toNat).isSome = true))) (fun x => (c.W - x.1).toNat) (?a4_0, P) ?h04 ?he4 ?he24 ?hI4 ?step4
              case h04 => (simp -implicitDefEqProofs only [go_sem]; rfl)
              case he4 => rfl
              case he24 => rfl
              case' step4 => (rintro ⟨w, P2⟩ hI4; try dsimp only at hI4)
              case' hI4 => try dsimp only
              · exact ⟨by omega, by omega, hPl, fun _ _ _ => rfl, .inl ⟨hPt, hFt.symm⟩⟩
              · obtain ⟨hw0, hwW, hP2l, hP2, hor⟩ := hI4
                have hout : P2[t.toNat]?.getD none = F t.toNat → ∀ j : Nat, j < n → P2[j]?.getD none = if (j : Int) < t + 1 then F j else none := fun he j hj => by
                  by_cases hjt : j = t.toNat
                  · subst hjt; rw [he, if_pos (by omega)]
                  · rw [hP2 j hj hjt, hP j hj]
                    by_cases h1 : (j : Int) < t
                    · rw [if_pos h1, if_pos (by omega)]
                    · rw [if_neg h1, if_neg (by omega)]
                rcases hor with ⟨hn0, hdw⟩ | ⟨hfd, hsm⟩
                · by_cases hw : w < c.W
                  · have hiw : c.isWord w = true := by simp only [GCode.isWord, inR, decide_eq_true_eq]; rw [hWe] at hw; omega
                    have hnx := GCode.nxt_state h hst hiw
                    have hnx' := hnx
                    simp only [GCode.isState, inR, decide_eq_true_eq] at hnx'
                    have hTn := hrec (c.nxt t w) (by omega) (by omega)
                    have hwr := GCode.wrd_range c h hst hiw
                    have hp5 : (2 : Int) ^ c.out.toNat ≤ 32 := by
                      have : c.out.toNat = 1 ∨ c.out.toNat = 2 ∨ c.out.toNat = 3 ∨ c.out.toNat = 4 ∨ c.out.toNat = 5 := by omega
                      rcases this with h | h | h | h | h <;> rw [h] <;> decide
                    have cs := ref04_Spread_ret c (c.wrd t w) (by omega) (by omega)
                    have csm := fun n1 n2 => ref04_same_ret n1 n2 (bitsOf c.out.toNat (c.wrd t w)) own
                    have hrx : rec (c.nxt t w) = c.decP bits (K - (p + 1)) (c.nxt t w) ((p : Int) + 1) := by rw [hrecd]
                    have hstep : c.decPW rec t own (c.W - w.toNat) w = if own = bitsOf c.out.toNat (c.wrd t w) then (match rec (c.nxt t w) with | some l => some (w :: l) | none => c.decPW rec t own (c.W - (w + 1).toNat) (w + 1)) else c.decPW rec t own (c.W - (w + 1).toNat) (w + 1) := by
                      rw [show c.W - w.toNat = (c.W - (w + 1).toNat) + 1 by omega]; rfl
                    rw [hstep, hrx] at hdw
                    have hlenr := decP_len c bits (K - (p + 1)) (c.nxt t w) ((p : Int) + 1)
                    rw [← hTn] at hdw hlenr
                    generalize hB0 : bitsOf c.out.toNat (c.wrd t w) = B0 at *
                    cases hTv : T[(c.nxt t w).toNat]?.getD none with
                    | none =>
                      rw [hTv] at hdw
                      have hdw2 : c.decPW rec t own (c.W - (w + 1).toNat) (w + 1) = F t.toNat := by rw [← hdw]; split <;> rfl
                      (try (simp -implicitDefEqProofs only [go_sem, codeD_eq, codeC_eq, rowsD_eq, rowD_eq, List.length_map, hP2l, hrw, hrn, hnc, hn, c.nxt_eq, c.wrd_eq, onSome_optR, onSome_optB, hn0, hTv, hTl, Option.isSome_none])); repeat' first | with_reducible exact True.intro | with_reducible refine And.intro ?_ ?_ | with_reducible intro _ | (((with_reducible refine vc_b ?_ ?_) <;> intro _) <;> try (simp -implicitDefEqProofs only [go_sem, codeD_eq, codeC_eq, rowsD_eq, rowD_eq, List.length_map, hP2l, hrw, hrn, hnc, hn, c.nxt_eq, c.wrd_eq, onSome_optR, onSome_optB, hn0, hTv, hTl, Option.isSome_none])) | simp (disch := omega) only [wrapI, wrapU, shl1, shl1', shl1'', shrN, shrN', and_one] | ((with_reducible refine isEx8 ?_); refine ⟨(_, _, _, _, _, _, _, _), rfl, ?_, ?_⟩) | ((with_reducible refine isEx7 ?_); refine ⟨(_, _, _, _, _, _, _), rfl, ?_, ?_⟩) | ((with_reducible refine isEx6 ?_); refine ⟨(_, _, _, _, _, _), rfl, ?_, ?_⟩) | ((with_reducible refine isEx5 ?_); refine ⟨(_, _, _, _, _), rfl, ?_, ?_⟩) | ((with_reducible refine isEx4 ?_); refine ⟨(_, _, _, _), rfl, ?_, ?_⟩) | ((with_reducible refine isEx3 ?_); refine ⟨(_, _, _), rfl, ?_, ?_⟩) | ((with_reducible refine isEx2 ?_); refine ⟨(_, _), rfl, ?_, ?_⟩) | ((with_reducible refine isEx ?_); refine ⟨_, rfl, ?_, ?_⟩)
                      
                      all_goals first | omega | (simp; done) | (simp; omega) | skip
                      all_goals first | exact hP2 _ (by assumption) (by assumption) | exact .inl ⟨hn0, hdw2⟩
                    | some l =>
                      rw [hTv] at hdw hlenr
                      have hll := hlenr l rfl
                      by_cases ho : own = B0
                      · rw [if_pos ho] at hdw
                        simp only [decide_eq_true ho.symm] at csm
                        dsimp only at hdw
                        have hsR : (List.map optR P2).set t.toNat (.list false (D.int .i64 w :: ints l)) = List.map optR (P2.set t.toNat (some (w :: l))) := by rw [List.map_set]; rfl
                        have hsB : (List.map optB P2).set t.toNat (.bool true) = List.map optB (P2.set t.toNat (some (w :: l))) := by rw [List.map_set]; rfl
                        (try (simp -implicitDefEqProofs only [go_sem, codeD_eq, codeC_eq, rowsD_eq, rowD_eq, List.length_map, hP2l, hrw, hrn, hnc, hn, c.nxt_eq, c.wrd_eq, hwb, hown2, onSome_optR, onSome_optB, hn0, hTv, hTl, Option.isSome_none, Option.isSome_some, optR_some, optR_cells, hsR, hsB, optR_none])); repeat' first | with_reducible exact True.intro | with_reducible refine And.intro ?_ ?_ | with_reducible intro _ | (((with_reducible refine isCall ?_); first | refine call_b (cs) rfl ?_ ?_ | refine call_d (cs) rfl ?_ | refine call_sb (cs) rfl ?_ ?_ | refine call_s (cs) rfl rfl ?_ | refine call_b (csm _ _) rfl ?_ ?_ | refine call_d (csm _ _) rfl ?_ | refine call_sb (csm _ _) rfl ?_ ?_ | refine call_s (csm _ _) rfl rfl ?_) <;> try (simp -implicitDefEqProofs only [go_sem, codeD_eq, codeC_eq, rowsD_eq, rowD_eq, List.length_map, hP2l, hrw, hrn, hnc, hn, c.nxt_eq, c.wrd_eq, hwb, hown2, onSome_optR, onSome_optB, hn0, hTv, hTl, Option.isSome_none, Option.isSome_some, optR_some, optR_cells, hsR, hsB, optR_none])) | (((with_reducible refine vc_b ?_ ?_) <;> intro _) <;> try (simp -implicitDefEqProofs only [go_sem, codeD_eq, codeC_eq, rowsD_eq, rowD_eq, List.length_map, hP2l, hrw, hrn, hnc, hn, c.nxt_eq, c.wrd_eq, hwb, hown2, onSome_optR, onSome_optB, hn0, hTv, hTl, Option.isSome_none, Option.isSome_some, optR_some, optR_cells, hsR, hsB, optR_none])) | simp (disch := omega) only [wrapI, wrapU, shl1, shl1', shl1'', shrN, shrN', and_one] | ((with_reducible refine isEx8 ?_); refine ⟨(_, _, _, _, _, _, _, _), rfl, ?_, ?_⟩) | ((with_reducible refine isEx7 ?_); refine ⟨(_, _, _, _, _, _, _), rfl, ?_, ?_⟩) | ((with_reducible refine isEx6 ?_); refine ⟨(_, _, _, _, _, _), rfl, ?_, ?_⟩) | ((with_reducible refine isEx5 ?_); refine ⟨(_, _, _, _, _), rfl, ?_, ?_⟩) | ((with_reducible refine isEx4 ?_); refine ⟨(_, _, _, _), rfl, ?_, ?_⟩) | ((with_reducible refine isEx3 ?_); refine ⟨(_, _, _), rfl, ?_, ?_⟩) | ((with_reducible refine isEx2 ?_); refine ⟨(_, _), rfl, ?_, ?_⟩) | ((with_reducible refine isEx ?_); refine ⟨_, rfl, ?_, ?_⟩)
                        
                        all_goals first | omega | (simp; done) | (simp; omega) | skip
                        all_goals first
                          | (rw [tbl_set (by omega), if_neg (by assumption)]; exact hP2 _ (by assumption) (by assumption))
                          | (rw [tbl_set (by omega), if_pos rfl]; exact .inr ⟨hdw, by rw [← hdw]; rfl⟩)
                          | (rw [List.length_set]; exact hP2l)
                          | skip
                      · rw [if_neg ho] at hdw
                        have hne : ¬ B0 = own := fun e => ho e.symm
                        simp only [decide_eq_false hne] at csm
                        (try (simp -implicitDefEqProofs only [go_sem, codeD_eq, codeC_eq, rowsD_eq, rowD_eq, List.length_map, hP2l, hrw, hrn, hnc, hn, c.nxt_eq, c.wrd_eq, hwb, hown2, onSome_optR, onSome_optB, hn0, hTv, hTl, Option.isSome_none, Option.isSome_some])); repeat' first | with_reducible exact True.intro | with_reducible refine And.intro ?_ ?_ | with_reducible intro _ | (((with_reducible refine isCall ?_); first | refine call_b (cs) rfl ?_ ?_ | refine call_d (cs) rfl ?_ | refine call_sb (cs) rfl ?_ ?_ | refine call_s (cs) rfl rfl ?_ | refine call_b (csm _ _) rfl ?_ ?_ | refine call_d (csm _ _) rfl ?_ | refine call_sb (csm _ _) rfl ?_ ?_ | refine call_s (csm _ _) rfl rfl ?_) <;> try (simp -implicitDefEqProofs only [go_sem, codeD_eq, codeC_eq, rowsD_eq, rowD_eq, List.length_map, hP2l, hrw, hrn, hnc, hn, c.nxt_eq, c.wrd_eq, hwb, hown2, onSome_optR, onSome_optB, hn0, hTv, hTl, Option.isSome_none, Option.isSome_some])) | (((with_reducible refine vc_b ?_ ?_) <;> intro _) <;> try (simp -implicitDefEqProofs only [go_sem, codeD_eq, codeC_eq, rowsD_eq, rowD_eq, List.length_map, hP2l, hrw, hrn, hnc, hn, c.nxt_eq, c.wrd_eq, hwb, hown2, onSome_optR, onSome_optB, hn0, hTv, hTl, Option.isSome_none, Option.isSome_some])) | simp (disch := omega) only [wrapI, wrapU, shl1, shl1', shl1'', shrN, shrN', and_one] | ((with_reducible refine isEx8 ?_); refine ⟨(_, _, _, _, _, _, _, _), rfl, ?_, ?_⟩) | ((with_reducible refine isEx7 ?_); refine ⟨(_, _, _, _, _, _, _), rfl, ?_, ?_⟩) | ((with_reducible refine isEx6 ?_); refine ⟨(_, _, _, _, _, _), rfl, ?_, ?_⟩) | ((with_reducible refine isEx5 ?_); refine ⟨(_, _, _, _, _), rfl, ?_, ?_⟩) | ((with_reducible refine isEx4 ?_); refine ⟨(_, _, _, _), rfl, ?_, ?_⟩) | ((with_reducible refine isEx3 ?_); refine ⟨(_, _, _), rfl, ?_, ?_⟩) | ((with_reducible refine isEx2 ?_); refine ⟨(_, _), rfl, ?_, ?_⟩) | ((with_reducible refine isEx ?_); refine ⟨_, rfl, ?_, ?_⟩)
                        
                        all_goals first | omega | (simp; done) | (simp; omega) | skip
                        all_goals first | exact hP2 _ (by assumption) (by assumption) | exact .inl ⟨hn0, hdw⟩
                  · have hz : c.W - w.toNat = 0 := by omega
                    rw [hz, GCode.decPW] at hdw
                    have hfin := hout (by rw [hn0, hdw])
                    have hwn : ¬ w < 2 ^ c.bits.toNat := by omega
                    (try (simp -implicitDefEqProofs only [go_sem, codeD_eq, codeC_eq, rowsD_eq, rowD_eq, List.length_map, hP2l, hrw, hrn, hnc, hn, onSome_optR, onSome_optB, hwn])); repeat' first | with_reducible exact True.intro | with_reducible refine And.intro ?_ ?_ | with_reducible intro _ | (((with_reducible refine vc_b ?_ ?_) <;> intro _) <;> try (simp -implicitDefEqProofs only [go_sem, codeD_eq, codeC_eq, rowsD_eq, rowD_eq, List.length_map, hP2l, hrw, hrn, hnc, hn, onSome_optR, onSome_optB, hwn])) | simp (disch := omega) only [wrapI, wrapU, shl1, shl1', shl1'', shrN, shrN', and_one] | ((with_reducible refine isEx8 ?_); refine ⟨(_, _, _, _, _, _, _, _), rfl, ?_, ?_⟩) | ((with_reducible refine isEx7 ?_); refine ⟨(_, _, _, _, _, _, _), rfl, ?_, ?_⟩) | ((with_reducible refine isEx6 ?_); refine ⟨(_, _, _, _, _, _), rfl, ?_, ?_⟩) | ((with_reducible refine isEx5 ?_); refine ⟨(_, _, _, _, _), rfl, ?_, ?_⟩) | ((with_reducible refine isEx4 ?_); refine ⟨(_, _, _, _), rfl, ?_, ?_⟩) | ((with_reducible refine isEx3 ?_); refine ⟨(_, _, _), rfl, ?_, ?_⟩) | ((with_reducible refine isEx2 ?_); refine ⟨(_, _), rfl, ?_, ?_⟩) | ((with_reducible refine isEx ?_); refine ⟨_, rfl, ?_, ?_⟩)
                    
                    all_goals first | omega | (simp; done) | (simp; omega) | skip
                    all_goals exact hfin _ (by assumption)
                · have hfin := hout hfd
                  have hso : (P2[t.toNat]?.getD none).isSome = true := by rw [hfd]; exact hsm
                  (try (simp -implicitDefEqProofs only [go_sem, codeD_eq, codeC_eq, rowsD_eq, rowD_eq, List.length_map, hP2l, hrw, hrn, hnc, hn, onSome_optR, onSome_optB, hso])); repeat' first | with_reducible exact True.intro | with_reducible refine And.intro ?_ ?_ | with_reducible intro _ | (((with_reducible refine vc_b ?_ ?_) <;> intro _) <;> try (simp -implicitDefEqProofs only [go_sem, codeD_eq, codeC_eq, rowsD_eq, rowD_eq, List.length_map, hP2l, hrw, hrn, hnc, hn, onSome_optR, onSome_optB, hso])) | simp (disch := omega) only [wrapI, wrapU, shl1, shl1', shl1'', shrN, shrN', and_one] | ((with_reducible refine isEx8 ?_); refine ⟨(_, _, _, _, _, _, _, _), rfl, ?_, ?_⟩) | ((with_reducible refine isEx7 ?_); refine ⟨(_, _, _, _, _, _, _), rfl, ?_, ?_⟩) | ((with_reducible refine isEx6 ?_); refine ⟨(_, _, _, _, _, _), rfl, ?_, ?_⟩) | ((with_reducible refine isEx5 ?_); refine ⟨(_, _, _, _, _), rfl, ?_, ?_⟩) | ((with_reducible refine isEx4 ?_); refine ⟨(_, _, _, _), rfl, ?_, ?_⟩) | ((with_reducible refine isEx3 ?_); refine ⟨(_, _, _), rfl, ?_, ?_⟩) | ((with_reducible refine isEx2 ?_); refine ⟨(_, _), rfl, ?_, ?_⟩) | ((with_reducible refine isEx ?_); refine ⟨_, rfl, ?_, ?_⟩)
                  
                  all_goals first | omega | (simp; done) | (simp; omega) | skip
                  all_goals exact hfin _ (by assumption)
            · have hPT : P = c.tbl bits K p := by
                apply List.ext_getElem?; intro j
                by_cases hj : j < n
                · refine getD_ext (by omega) (by rw [tbl_len]; omega) ?_
                  have h1 := hP j hj
                  rw [if_pos (by omega)] at h1
                  have h2 := tbl_get c bits K p (s := (j : Int)) (by omega) (by omega)
                  simp only [Int.toNat_natCast] at h2
                  rw [h1, hF]; exact h2.symm
                · rw [List.getElem?_eq_none (by omega), List.getElem?_eq_none (by rw [tbl_len]; omega)]
              (try (simp -implicitDefEqProofs only [go_sem, List.length_map, hPl, hwa])); repeat' first | with_reducible exact True.intro | with_reducible refine And.intro ?_ ?_ | with_reducible intro _ | (((with_reducible refine vc_b ?_ ?_) <;> intro _) <;> try (simp -implicitDefEqProofs only [go_sem, List.length_map, hPl, hwa])) | simp (disch := omega) only [wrapI, wrapU, shl1, shl1', shl1'', shrN, shrN', and_one] | ((with_reducible refine isEx8 ?_); refine ⟨(_, _, _, _, _, _, _, _), rfl, ?_, ?_⟩) | ((with_reducible refine isEx7 ?_); refine ⟨(_, _, _, _, _, _, _), rfl, ?_, ?_⟩) | ((with_reducible refine isEx6 ?_); refine ⟨(_, _, _, _, _, _), rfl, ?_, ?_⟩) | ((with_reducible refine isEx5 ?_); refine ⟨(_, _, _, _, _), rfl, ?_, ?_⟩) | ((with_reducible refine isEx4 ?_); refine ⟨(_, _, _, _), rfl, ?_, ?_⟩) | ((with_reducible refine isEx3 ?_); refine ⟨(_, _, _), rfl, ?_, ?_⟩) | ((with_reducible refine isEx2 ?_); refine ⟨(_, _), rfl, ?_, ?_⟩) | ((with_reducible refine isEx ?_); refine ⟨_, rfl, ?_, ?_⟩)
              all_goals first | omega | (simp; done) | (simp; omega) | skip
              exact ⟨(a - c.out, p, P), rfl, ⟨by simp only; omega, by simp only; omega, hPT⟩, by simp⟩
end Go.Pw
