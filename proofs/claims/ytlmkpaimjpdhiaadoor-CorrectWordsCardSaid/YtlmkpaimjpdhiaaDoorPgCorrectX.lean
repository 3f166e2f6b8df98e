/- A part of the proof. -/
import Derived.Test.YtlmkpaimjpdhiaaDoorPgCorrectQ
set_option linter.all false
section
open Go Go.Pw Go.Proofs
namespace Go.Pw
set_option linter.unusedSimpArgs false
set_option linter.unusedVariables false
set_option maxRecDepth 100000
set_option maxHeartbeats 3200000
def dcI (o : Option (List F)) : D := match o with
  | some r => .tup [.list false (ints (iv r)), .bool true]
  | none => .tup [.list true [], .bool false]
theorem dcI_some (v : List F) : dcI (some v) = .tup [.list false (ints (iv v)), .bool true] := rfl
theorem dcI_none : dcI none = .tup [.list true [], .bool false] := rfl
theorem findSome_miss {α : Type} (f : List Nat → Option α) : ∀ (l : List (List Nat)), (∀ k, k < l.length → f (l[k]?.getD []) = none) → l.findSome? f = none := fun l h => by
  rw [List.findSome?_eq_none_iff]
  intro x hx
  obtain ⟨i, hi, rfl⟩ := List.getElem_of_mem hx
  have := h i hi
  rwa [List.getElem?_eq_getElem hi] at this
theorem findSome_at {α : Type} (f : List Nat → Option α) (r : α) : ∀ (l : List (List Nat)) (i : Nat), i < l.length → (∀ k, k < i → f (l[k]?.getD []) = none) → f (l[i]?.getD []) = some r → l.findSome? f = some r
  | x :: l, 0, _, _, h => by
    have h' : f x = some r := h
    rw [List.findSome?_cons, h']
  | x :: l, i + 1, hi, hn, h => by
    have h0 : f x = none := hn 0 (by omega)
    rw [List.findSome?_cons, h0]
    exact findSome_at f r l i (by simpa using hi) (fun k hk => hn (k + 1) (by omega)) h
theorem ni_nil : ni [] = [] := rfl
theorem ni_ne {l : List Nat} (h : l ≠ []) : ¬ ni l = [] := by cases l <;> simp_all [ni]
theorem nil_or {α : Type} (l : List α) : l = [] ∨ l ≠ [] := by cases l <;> simp
attribute [local congr] cg_pw cg_seqI cg_seqE cg_stepI cg_ev cg_evBin cg_condB cg_condV cg_thenQ cg_blockQ cg_onSome cg_onCells cg_onRow cg_onRow2 cg_onMtx cg_frmV cg_fraV cg_frcV cg_frcO cg_frcX cg_fraO cg_owmV cg_ghosts cg_ghost cg_evCall cg_part cg_rng cg_guardV cg_frzV cg_frpV cg_ownV cg_resK cg_res1
attribute [local irreducible] IntKind.wrap bitsOp Option.getD and or

theorem ref05_decode_ret (L P : Nat) (n1 n2 : Bool) (w : List F) (mk : List Nat) (hL : L ≤ 15) (hL1 : 1 ≤ L) (hP : 1 ≤ P) (hP2 : P ≤ 8) (hw : w.length = L) (hm : Mks L mk) :
    Ret E0 F_ref05_decode [codD L P, .list n1 (ints (iv w)), .list n2 (ints (ni mk))] (dcI (decS L P w mk)) := by
  have hml := mks_le hm
  refine ret_of_pw dec_ref05_decode mixed (by simp) fun hwf => ?_
  rw [enter_eq]; unfold pc_ref05_decode
  by_cases hov : P < mk.length
  · have hov' : (P : Int) < (mk.length : Int) := by omega
    rw [dec_full hov, dcI_none, codD_eq]
    (try (simp -implicitDefEqProofs only [go_sem, hov'])); repeat' first | with_reducible exact True.intro | with_reducible refine And.intro ?_ ?_ | with_reducible intro _ | (((with_reducible refine vc_b ?_ ?_) <;> intro _) <;> try (simp -implicitDefEqProofs only [go_sem, hov'])) | simp (disch := omega) only [wrapI, wrapU, shl1, shl1', shl1'', shrN, shrN', and_one] | ((with_reducible refine isEx ?_); refine ⟨_, rfl, ?_, ?_⟩)
    all_goals first | rfl | (simp; done) | skip
  · have hov' : ¬ (P : Int) < (mk.length : Int) := by omega
    have hw1 : IntKind.i64.wrap ((P : Int) - (mk.length : Int)) = ((P - mk.length : Nat) : Int) := by rw [wrapI _ (by omega)]; omega
    have hd : Int.tdiv ((P - mk.length : Nat) : Int) 2 = (((P - mk.length) / 2 : Nat) : Int) := tdiv_nat _ 2
    have hw2 : IntKind.i64.wrap (((P - mk.length) / 2 : Nat) : Int) = (((P - mk.length) / 2 : Nat) : Int) := wrapI _ (by omega)
    obtain ⟨M, hM⟩ : ∃ M, (P - mk.length) / 2 = M := ⟨_, rfl⟩
    have hM4 : M ≤ 4 := by omega
    rw [hM] at hd hw2
    rw [codD_eq]
    (try (simp -implicitDefEqProofs only [go_sem, hov', hw1, hd, hw2])); repeat' first | with_reducible exact True.intro | with_reducible refine And.intro ?_ ?_ | with_reducible intro _ | (((with_reducible refine vc_b ?_ ?_) <;> intro _) <;> try (simp -implicitDefEqProofs only [go_sem, hov', hw1, hd, hw2])) | simp (disch := omega) only [wrapI, wrapU, shl1, shl1', shl1'', shrN, shrN', and_one] | ((with_reducible refine isEx ?_); refine ⟨_, rfl, ?_, ?_⟩)
    all_goals first | omega | (simp; done) | (simp; omega) | skip
    refine pw_loopS (α := Nat) (l0 := ?l1) (m0 := ?m1) (fun x => [(9, .d (.int .i64 (x : Int)))]) (fun x => []) (fun x => x ≤ M + 1 ∧ ∀ k, k < x → decE L P w mk k = none) (fun x => M + 1 - x) 0 ?h01 ?he1 ?he21 ?hI1 ?step1
    case h01 => (simp -implicitDefEqProofs only [go_sem]; rfl)
    case he1 => rfl
    case he21 => rfl
    case' step1 => (rintro e hI; try dsimp only at hI)
    case' hI1 => try dsimp only
    · exact ⟨Nat.zero_le _, fun k hk => absurd hk (by omega)⟩
    · obtain ⟨h1, h2⟩ := hI
      by_cases h : e ≤ M
      · have h' : (e : Int) ≤ (M : Int) := by omega
        have hwe : IntKind.i64.wrap ((e : Int) + 1) = ((e + 1 : Nat) : Int) := by rw [wrapI _ (by omega)]; omega
        have c1 := ref05_sets_ret L P n2 mk hL e 0 (by omega) (by omega)
        rw [codD_eq, show (((0 : Nat)) : Int) = 0 from rfl] at c1
        have hRl := setsS_lt L mk hL (show e ≤ 6 by omega) 0
        have hsp := fun l hl => sets_spec L mk e 0 l hl
        have hE : decE L P w mk e = (setsS L mk e 0).findSome? (hit L P w mk) := rfl
        obtain ⟨R, hR⟩ : ∃ R, setsS L mk e 0 = R := ⟨_, rfl⟩
        rw [hR] at c1 hRl hsp hE
        (try (simp -implicitDefEqProofs only [go_sem, h'])); repeat' first | with_reducible exact True.intro | with_reducible refine And.intro ?_ ?_ | with_reducible intro _ | (((with_reducible refine isCall ?_); first | refine call_b (c1) rfl ?_ ?_ | refine call_d (c1) rfl ?_ | refine call_sb (c1) rfl ?_ ?_ | refine call_s (c1) rfl rfl ?_) <;> try (simp -implicitDefEqProofs only [go_sem, h'])) | (((with_reducible refine vc_b ?_ ?_) <;> intro _) <;> try (simp -implicitDefEqProofs only [go_sem, h'])) | simp (disch := omega) only [wrapI, wrapU, shl1, shl1', shl1'', shrN, shrN', and_one] | ((with_reducible refine isEx ?_); refine ⟨_, rfl, ?_, ?_⟩)
        all_goals first | omega | (simp; done) | (simp; omega) | skip
        refine pw_loopS (α := Nat) (l0 := ?l2) (m0 := ?m2) (fun x => [(11, .d (.int .i64 (x : Int)))]) (fun x => []) (fun x => x ≤ R.length ∧ ∀ k, k < x → hit L P w mk (R[k]?.getD []) = none) (fun x => R.length - x) 0 ?h02 ?he2 ?he22 ?hI2 ?step2
        case h02 => (simp -implicitDefEqProofs only [go_sem]; rfl)
        case he2 => rfl
        case he22 => rfl
        case' step2 => (rintro i hI2; try dsimp only at hI2)
        case' hI2 => try dsimp only
        · exact ⟨Nat.zero_le _, fun k hk => absurd hk (by omega)⟩
        · obtain ⟨i1, i2⟩ := hI2
          by_cases hi : i < R.length
          · have hi' : (i : Int) < (R.length : Int) := by omega
            have hwi : IntKind.i64.wrap ((i : Int) + 1) = ((i + 1 : Nat) : Int) := by rw [wrapI _ (by omega)]; omega
            have hmem : (R[i]?.getD []) ∈ R := by rw [List.getElem?_eq_getElem hi, Option.getD_some]; exact List.getElem_mem hi
            obtain ⟨s1, s2⟩ := hsp _ hmem
            have hnow := fun r => findSome_at (hit L P w mk) r R i
            obtain ⟨l, hl⟩ : ∃ l, R[i]?.getD [] = l := ⟨_, rfl⟩
            rw [hl] at s1 s2
            have hpos := set_pos hm s2
            have hAl : (mk ++ l).length ≤ P := by rw [List.length_append]; omega
            have hz := hit_zer hL hw hpos hAl
            have hzl := zer_len w (mk ++ l)
            have hwl : 1 ≤ w.length := by omega
            obtain ⟨A, hA⟩ : ∃ A, mk ++ l = A := ⟨_, rfl⟩
            rw [hA] at hpos hAl hz hzl
            have c2 := fun b => ref05_with_ret n1 b false w A (List.replicate A.length 0) (by omega) (by omega) (by simp) (fun j hj => by rw [hw]; exact hpos.lt j hj)
            have hZ : withW w A (List.replicate A.length 0) = zer w A := rfl
            rw [hZ] at c2
            have c3 := fun b => ref05_solve_ret L P false b (zer w A) A hL hL1 hP (by omega) (by omega) hpos hAl
            rw [codD_eq] at c3
            have c4 := fun b v hv => ref05_with_ret n1 b v.isEmpty w A v (by omega) (by omega) hv (fun j hj => by rw [hw]; exact hpos.lt j hj)
            rw [← iv_rep0] at c2
            rw [hl] at hnow
            obtain ⟨O, hO⟩ : ∃ O, solM L P A (synd L P (zer w A)) = O := ⟨_, rfl⟩
            rw [hO] at c3 hz
            cases O with
            | none =>
              rw [solI_none] at c3
              rw [Option.map_none] at hz
              have hnx : ∀ k, k < i + 1 → hit L P w mk (R[k]?.getD []) = none := fun k hk => by
                rcases Nat.lt_succ_iff_lt_or_eq.1 hk with hk | rfl
                · exact i2 k hk
                · rw [hl]; exact hz
              rcases nil_or mk with rfl | e1
              · rcases nil_or l with rfl | e2
                · have hA' : [] = A := hA
                  subst hA'
                  (try (simp -implicitDefEqProofs only [go_sem, hi', hwi, hl, hwl, hzl, ni_nil])); repeat' first | with_reducible exact True.intro | with_reducible refine And.intro ?_ ?_ | with_reducible intro _ | (((with_reducible refine isCall ?_); first | refine call_b (c2 _) rfl ?_ ?_ | refine call_d (c2 _) rfl ?_ | refine call_sb (c2 _) rfl ?_ ?_ | refine call_s (c2 _) rfl rfl ?_ | refine call_b (c3 _) rfl ?_ ?_ | refine call_d (c3 _) rfl ?_ | refine call_sb (c3 _) rfl ?_ ?_ | refine call_s (c3 _) rfl rfl ?_) <;> try (simp -implicitDefEqProofs only [go_sem, hi', hwi, hl, hwl, hzl, ni_nil])) | (((with_reducible refine vc_b ?_ ?_) <;> intro _) <;> try (simp -implicitDefEqProofs only [go_sem, hi', hwi, hl, hwl, hzl, ni_nil])) | simp (disch := omega) only [wrapI, wrapU, shl1, shl1', shl1'', shrN, shrN', and_one] | ((with_reducible refine isEx ?_); refine ⟨_, rfl, ?_, ?_⟩)
                  all_goals first | omega | (simp; done) | (simp; omega) | skip
                  all_goals first | exact hnx | exact hnx _ (by assumption) | skip
                · have e2 := ni_ne e2
                  have hA' : l = A := hA
                  subst hA'
                  (try (simp -implicitDefEqProofs only [go_sem, hi', hwi, hl, hwl, hzl, ni_nil, e2])); repeat' first | with_reducible exact True.intro | with_reducible refine And.intro ?_ ?_ | with_reducible intro _ | (((with_reducible refine isCall ?_); first | refine call_b (c2 _) rfl ?_ ?_ | refine call_d (c2 _) rfl ?_ | refine call_sb (c2 _) rfl ?_ ?_ | refine call_s (c2 _) rfl rfl ?_ | refine call_b (c3 _) rfl ?_ ?_ | refine call_d (c3 _) rfl ?_ | refine call_sb (c3 _) rfl ?_ ?_ | refine call_s (c3 _) rfl rfl ?_) <;> try (simp -implicitDefEqProofs only [go_sem, hi', hwi, hl, hwl, hzl, ni_nil, e2])) | (((with_reducible refine vc_b ?_ ?_) <;> intro _) <;> try (simp -implicitDefEqProofs only [go_sem, hi', hwi, hl, hwl, hzl, ni_nil, e2])) | simp (disch := omega) only [wrapI, wrapU, shl1, shl1', shl1'', shrN, shrN', and_one] | ((with_reducible refine isEx ?_); refine ⟨_, rfl, ?_, ?_⟩)
                  all_goals first | omega | (simp; done) | (simp; omega) | skip
                  all_goals first | exact hnx | exact hnx _ (by assumption) | skip
              · rcases nil_or l with rfl | e2
                · have e1 := ni_ne e1
                  rw [List.append_nil] at hA
                  subst hA
                  (try (simp -implicitDefEqProofs only [go_sem, hi', hwi, hl, hwl, hzl, ni_nil, e1])); repeat' first | with_reducible exact True.intro | with_reducible refine And.intro ?_ ?_ | with_reducible intro _ | (((with_reducible refine isCall ?_); first | refine call_b (c2 _) rfl ?_ ?_ | refine call_d (c2 _) rfl ?_ | refine call_sb (c2 _) rfl ?_ ?_ | refine call_s (c2 _) rfl rfl ?_ | refine call_b (c3 _) rfl ?_ ?_ | refine call_d (c3 _) rfl ?_ | refine call_sb (c3 _) rfl ?_ ?_ | refine call_s (c3 _) rfl rfl ?_) <;> try (simp -implicitDefEqProofs only [go_sem, hi', hwi, hl, hwl, hzl, ni_nil, e1])) | (((with_reducible refine vc_b ?_ ?_) <;> intro _) <;> try (simp -implicitDefEqProofs only [go_sem, hi', hwi, hl, hwl, hzl, ni_nil, e1])) | simp (disch := omega) only [wrapI, wrapU, shl1, shl1', shl1'', shrN, shrN', and_one] | ((with_reducible refine isEx ?_); refine ⟨_, rfl, ?_, ?_⟩)
                  all_goals first | omega | (simp; done) | (simp; omega) | skip
                  all_goals first | exact hnx | exact hnx _ (by assumption) | skip
                · have e2 := ni_ne e2
                  have e1 := ni_ne e1
                  (try (simp -implicitDefEqProofs only [go_sem, hi', hwi, hl, hwl, hzl, e1, e2, hA])); repeat' first | with_reducible exact True.intro | with_reducible refine And.intro ?_ ?_ | with_reducible intro _ | (((with_reducible refine isCall ?_); first | refine call_b (c2 _) rfl ?_ ?_ | refine call_d (c2 _) rfl ?_ | refine call_sb (c2 _) rfl ?_ ?_ | refine call_s (c2 _) rfl rfl ?_ | refine call_b (c3 _) rfl ?_ ?_ | refine call_d (c3 _) rfl ?_ | refine call_sb (c3 _) rfl ?_ ?_ | refine call_s (c3 _) rfl rfl ?_) <;> try (simp -implicitDefEqProofs only [go_sem, hi', hwi, hl, hwl, hzl, e1, e2, hA])) | (((with_reducible refine vc_b ?_ ?_) <;> intro _) <;> try (simp -implicitDefEqProofs only [go_sem, hi', hwi, hl, hwl, hzl, e1, e2, hA])) | simp (disch := omega) only [wrapI, wrapU, shl1, shl1', shl1'', shrN, shrN', and_one] | ((with_reducible refine isEx ?_); refine ⟨_, rfl, ?_, ?_⟩)
                  all_goals first | omega | (simp; done) | (simp; omega) | skip
                  all_goals first | exact hnx | exact hnx _ (by assumption) | skip
            | some v =>
              rw [solI_some] at c3
              rw [Option.map_some] at hz
              have hvl := (solM_spec hO).1
              replace c4 := fun b => c4 b v hvl.symm
              have hfin : decS L P w mk = some (withW w A v) := dec_hit h2 (by rw [hE]; exact hnow _ hi i2 hz) (by omega)
              rw [hfin, dcI_some]
              rcases nil_or mk with rfl | e1
              · rcases nil_or l with rfl | e2
                · have hA' : [] = A := hA
                  subst hA'
                  (try (simp -implicitDefEqProofs only [go_sem, hi', hwi, hl, hwl, hzl, ni_nil])); repeat' first | with_reducible exact True.intro | with_reducible refine And.intro ?_ ?_ | with_reducible intro _ | (((with_reducible refine isCall ?_); first | refine call_b (c2 _) rfl ?_ ?_ | refine call_d (c2 _) rfl ?_ | refine call_sb (c2 _) rfl ?_ ?_ | refine call_s (c2 _) rfl rfl ?_ | refine call_b (c3 _) rfl ?_ ?_ | refine call_d (c3 _) rfl ?_ | refine call_sb (c3 _) rfl ?_ ?_ | refine call_s (c3 _) rfl rfl ?_ | refine call_b (c4 _) rfl ?_ ?_ | refine call_d (c4 _) rfl ?_ | refine call_sb (c4 _) rfl ?_ ?_ | refine call_s (c4 _) rfl rfl ?_) <;> try (simp -implicitDefEqProofs only [go_sem, hi', hwi, hl, hwl, hzl, ni_nil])) | (((with_reducible refine vc_b ?_ ?_) <;> intro _) <;> try (simp -implicitDefEqProofs only [go_sem, hi', hwi, hl, hwl, hzl, ni_nil])) | simp (disch := omega) only [wrapI, wrapU, shl1, shl1', shl1'', shrN, shrN', and_one] | ((with_reducible refine isEx ?_); refine ⟨_, rfl, ?_, ?_⟩)
                  all_goals first | omega | (simp; done) | (simp; omega) | skip
                  all_goals first | rfl | skip
                · have e2 := ni_ne e2
                  have hA' : l = A := hA
                  subst hA'
                  (try (simp -implicitDefEqProofs only [go_sem, hi', hwi, hl, hwl, hzl, ni_nil, e2])); repeat' first | with_reducible exact True.intro | with_reducible refine And.intro ?_ ?_ | with_reducible intro _ | (((with_reducible refine isCall ?_); first | refine call_b (c2 _) rfl ?_ ?_ | refine call_d (c2 _) rfl ?_ | refine call_sb (c2 _) rfl ?_ ?_ | refine call_s (c2 _) rfl rfl ?_ | refine call_b (c3 _) rfl ?_ ?_ | refine call_d (c3 _) rfl ?_ | refine call_sb (c3 _) rfl ?_ ?_ | refine call_s (c3 _) rfl rfl ?_ | refine call_b (c4 _) rfl ?_ ?_ | refine call_d (c4 _) rfl ?_ | refine call_sb (c4 _) rfl ?_ ?_ | refine call_s (c4 _) rfl rfl ?_) <;> try (simp -implicitDefEqProofs only [go_sem, hi', hwi, hl, hwl, hzl, ni_nil, e2])) | (((with_reducible refine vc_b ?_ ?_) <;> intro _) <;> try (simp -implicitDefEqProofs only [go_sem, hi', hwi, hl, hwl, hzl, ni_nil, e2])) | simp (disch := omega) only [wrapI, wrapU, shl1, shl1', shl1'', shrN, shrN', and_one] | ((with_reducible refine isEx ?_); refine ⟨_, rfl, ?_, ?_⟩)
                  all_goals first | omega | (simp; done) | (simp; omega) | skip
                  all_goals first | rfl | skip
              · rcases nil_or l with rfl | e2
                · have e1 := ni_ne e1
                  rw [List.append_nil] at hA
                  subst hA
                  (try (simp -implicitDefEqProofs only [go_sem, hi', hwi, hl, hwl, hzl, ni_nil, e1])); repeat' first | with_reducible exact True.intro | with_reducible refine And.intro ?_ ?_ | with_reducible intro _ | (((with_reducible refine isCall ?_); first | refine call_b (c2 _) rfl ?_ ?_ | refine call_d (c2 _) rfl ?_ | refine call_sb (c2 _) rfl ?_ ?_ | refine call_s (c2 _) rfl rfl ?_ | refine call_b (c3 _) rfl ?_ ?_ | refine call_d (c3 _) rfl ?_ | refine call_sb (c3 _) rfl ?_ ?_ | refine call_s (c3 _) rfl rfl ?_ | refine call_b (c4 _) rfl ?_ ?_ | refine call_d (c4 _) rfl ?_ | refine call_sb (c4 _) rfl ?_ ?_ | refine call_s (c4 _) rfl rfl ?_) <;> try (simp -implicitDefEqProofs only [go_sem, hi', hwi, hl, hwl, hzl, ni_nil, e1])) | (((with_reducible refine vc_b ?_ ?_) <;> intro _) <;> try (simp -implicitDefEqProofs only [go_sem, hi', hwi, hl, hwl, hzl, ni_nil, e1])) | simp (disch := omega) only [wrapI, wrapU, shl1, shl1', shl1'', shrN, shrN', and_one] | ((with_reducible refine isEx ?_); refine ⟨_, rfl, ?_, ?_⟩)
                  all_goals first | omega | (simp; done) | (simp; omega) | skip
                  all_goals first | rfl | skip
                · have e2 := ni_ne e2
                  have e1 := ni_ne e1
                  (try (simp -implicitDefEqProofs only [go_sem, hi', hwi, hl, hwl, hzl, e1, e2, hA])); repeat' first | with_reducible exact True.intro | with_reducible refine And.intro ?_ ?_ | with_reducible intro _ | (((with_reducible refine isCall ?_); first | refine call_b (c2 _) rfl ?_ ?_ | refine call_d (c2 _) rfl ?_ | refine call_sb (c2 _) rfl ?_ ?_ | refine call_s (c2 _) rfl rfl ?_ | refine call_b (c3 _) rfl ?_ ?_ | refine call_d (c3 _) rfl ?_ | refine call_sb (c3 _) rfl ?_ ?_ | refine call_s (c3 _) rfl rfl ?_ | refine call_b (c4 _) rfl ?_ ?_ | refine call_d (c4 _) rfl ?_ | refine call_sb (c4 _) rfl ?_ ?_ | refine call_s (c4 _) rfl rfl ?_) <;> try (simp -implicitDefEqProofs only [go_sem, hi', hwi, hl, hwl, hzl, e1, e2, hA])) | (((with_reducible refine vc_b ?_ ?_) <;> intro _) <;> try (simp -implicitDefEqProofs only [go_sem, hi', hwi, hl, hwl, hzl, e1, e2, hA])) | simp (disch := omega) only [wrapI, wrapU, shl1, shl1', shl1'', shrN, shrN', and_one] | ((with_reducible refine isEx ?_); refine ⟨_, rfl, ?_, ?_⟩)
                  all_goals first | omega | (simp; done) | (simp; omega) | skip
                  all_goals first | rfl | skip
          · have hi' : ¬ (i : Int) < (R.length : Int) := by omega
            have hno : ∀ k, k < e + 1 → decE L P w mk k = none := fun k hk => by
              rcases Nat.lt_succ_iff_lt_or_eq.1 hk with hk | rfl
              · exact h2 k hk
              · rw [hE]; exact findSome_miss _ _ fun k hk => i2 k (by omega)
            (try (simp -implicitDefEqProofs only [go_sem, hi', hwe])); repeat' first | with_reducible exact True.intro | with_reducible refine And.intro ?_ ?_ | with_reducible intro _ | (((with_reducible refine vc_b ?_ ?_) <;> intro _) <;> try (simp -implicitDefEqProofs only [go_sem, hi', hwe])) | simp (disch := omega) only [wrapI, wrapU, shl1, shl1', shl1'', shrN, shrN', and_one] | ((with_reducible refine isEx ?_); refine ⟨_, rfl, ?_, ?_⟩)
            all_goals first | omega | (simp; done) | (simp; omega) | skip
            all_goals first | exact hno | exact hno _ (by assumption) | skip
      · have h' : ¬ (e : Int) ≤ (M : Int) := by omega
        rw [dec_miss h2 (by omega), dcI_none]
        (try (simp -implicitDefEqProofs only [go_sem, h'])); repeat' first | with_reducible exact True.intro | with_reducible refine And.intro ?_ ?_ | with_reducible intro _ | (((with_reducible refine vc_b ?_ ?_) <;> intro _) <;> try (simp -implicitDefEqProofs only [go_sem, h'])) | simp (disch := omega) only [wrapI, wrapU, shl1, shl1', shl1'', shrN, shrN', and_one] | ((with_reducible refine isEx ?_); refine ⟨_, rfl, ?_, ?_⟩)
        all_goals first | omega | (simp; done) | (simp; omega) | skip
        all_goals first | rfl | skip
end Go.Pw
end
section
open Go Go.Pw Go.Proofs
namespace Go.Pw
set_option linter.unusedSimpArgs false
set_option linter.unusedVariables false
set_option maxRecDepth 100000
set_option maxHeartbeats 3200000
theorem range_snoc (a n : Nat) : List.range' a n ++ [a + n] = List.range' a (n + 1) := by rw [List.range'_concat]; simp
theorem iv_pne {w : List F} (h : 0 < w.length) : ¬ iv w = [] := by cases w <;> simp_all [iv]
attribute [local congr] cg_pw cg_seqI cg_seqE cg_stepI cg_ev cg_evBin cg_condB cg_condV cg_thenQ cg_blockQ cg_onSome cg_onCells cg_onRow cg_onRow2 cg_onMtx cg_frmV cg_fraV cg_frcV cg_frcO cg_frcX cg_fraO cg_owmV cg_ghosts cg_ghost cg_evCall cg_part cg_rng cg_guardV cg_frzV cg_frpV cg_ownV cg_resK cg_res1
attribute [local irreducible] IntKind.wrap bitsOp Option.getD and or

theorem ref05_encode_ret (L P : Nat) (n1 : Bool) (d : List F) (hL : L ≤ 15) (hP : 1 ≤ P) (hd : d.length + P = L) (hd1 : 1 ≤ d.length) :
    Ret E0 F_ref05_encode [codD L P, .list n1 (ints (iv d))] (.list false (ints (iv (encS P d)))) := by
  obtain ⟨v, hv1, hv2⟩ := enc_solve hL hd
  have hwl : (d ++ List.replicate P (0 : F)).length = L := by simp; omega
  have hp : Pos L (List.range' d.length P) := ⟨List.nodup_range', fun j hj => by simp at hj; omega⟩
  have hvl := (solM_spec hv1).1
  have c1 := fun b => ref05_solve_ret L P false b (d ++ List.replicate P 0) (List.range' d.length P) hL (by omega) hP (by omega) hwl hp (by simp)
  rw [hv1, solI_some] at c1
  have c2 := fun b => ref05_with_ret false b v.isEmpty (d ++ List.replicate P 0) (List.range' d.length P) v (by omega) (by omega) hvl.symm (fun j hj => by rw [hwl]; exact hp.lt j hj)
  rw [hv2] at c2
  refine ret_of_pw dec_ref05_encode mixed (by simp) fun hwf => ?_
  rw [enter_eq]; unfold pc_ref05_encode
  rw [codD_eq] at c1 ⊢
  have hne := iv_pne (w := d) (by omega)
  (try (simp -implicitDefEqProofs only [go_sem, hne, iv_rep0])); repeat' first | with_reducible exact True.intro | with_reducible refine And.intro ?_ ?_ | with_reducible intro _ | (((with_reducible refine vc_b ?_ ?_) <;> intro _) <;> try (simp -implicitDefEqProofs only [go_sem, hne, iv_rep0])) | simp (disch := omega) only [wrapI, wrapU, shl1, shl1', shl1'', shrN, shrN', and_one] | ((with_reducible refine isEx2 ?_); refine ⟨(_, _), rfl, ?_, ?_⟩)
  all_goals first | omega | (simp; done) | (simp; omega) | skip
  refine pw_loopS (α := Nat × Bool) (l0 := ?l1) (m0 := ?m1) (fun x => [(7, .d (.int .i64 ((d.length + x.1 : Nat) : Int))), (5, .d (.list false (ints (iv (d ++ List.replicate P 0)))))]) (fun x => [(27, .row 3 1 x.2 (ints (ni (List.range' d.length x.1))))]) (fun x => x.1 ≤ P ∧ x.2 = decide (x.1 = 0)) (fun x => P - x.1) (0, true) ?h01 ?he1 ?he21 ?hI1 ?step1
  case h01 => (simp -implicitDefEqProofs only [go_sem]; rfl)
  case he1 => rfl
  case he21 => rfl
  case' step1 => (rintro ⟨j, b⟩ hI; try dsimp only at hI)
  case' hI1 => try dsimp only
  · exact ⟨Nat.zero_le _, rfl⟩
  · obtain ⟨j1, j2⟩ := hI
    change b = decide (j = 0) at j2
    subst j2
    by_cases h : j < P
    · have h' : ((d.length + j : Nat) : Int) < (L : Int) := by omega
      have hwj : IntKind.i64.wrap (((d.length + j : Nat) : Int) + 1) = ((d.length + (j + 1) : Nat) : Int) := by rw [wrapI _ (by omega)]; omega
      have hk := range_snoc d.length j
      (try (simp -implicitDefEqProofs only [go_sem, h', hwj, hk])); repeat' first | with_reducible exact True.intro | with_reducible refine And.intro ?_ ?_ | with_reducible intro _ | (((with_reducible refine vc_b ?_ ?_) <;> intro _) <;> try (simp -implicitDefEqProofs only [go_sem, h', hwj, hk])) | simp (disch := omega) only [wrapI, wrapU, shl1, shl1', shl1'', shrN, shrN', and_one] | ((with_reducible refine isEx2 ?_); refine ⟨(_, _), rfl, ?_, ?_⟩)
      all_goals first | omega | (simp; done) | (simp; omega) | skip
      all_goals first | rfl | skip
    · have h' : ¬ ((d.length + j : Nat) : Int) < (L : Int) := by omega
      have hje : j = P := by omega
      subst hje
      have hj0 : decide (j = 0) = false := decide_eq_false (by omega)
      rw [hj0]
      (try (simp -implicitDefEqProofs only [go_sem, h'])); repeat' first | with_reducible exact True.intro | with_reducible refine And.intro ?_ ?_ | with_reducible intro _ | (((with_reducible refine isCall ?_); first | refine call_b (c1 _) rfl ?_ ?_ | refine call_d (c1 _) rfl ?_ | refine call_sb (c1 _) rfl ?_ ?_ | refine call_s (c1 _) rfl rfl ?_ | refine call_b (c2 _) rfl ?_ ?_ | refine call_d (c2 _) rfl ?_ | refine call_sb (c2 _) rfl ?_ ?_ | refine call_s (c2 _) rfl rfl ?_) <;> try (simp -implicitDefEqProofs only [go_sem, h'])) | (((with_reducible refine vc_b ?_ ?_) <;> intro _) <;> try (simp -implicitDefEqProofs only [go_sem, h'])) | simp (disch := omega) only [wrapI, wrapU, shl1, shl1', shl1'', shrN, shrN', and_one] | ((with_reducible refine isEx2 ?_); refine ⟨(_, _), rfl, ?_, ?_⟩)
      all_goals first | omega | (simp; done) | (simp; omega) | skip
      all_goals first | rfl | skip
theorem ref05_CheckData_ret (L P : Int) (n1 : Bool) (xs : List Int) : Ret E0 F_ref05_CheckData [.agg [.int .i64 L, .int .i64 P], .list n1 (ints xs)] (.int .i64 (encE L P xs)) := by
  have c1 := ref05_Check_ret L P
  refine ret_of_pw dec_ref05_CheckData mixed (by simp) fun hwf => ?_
  rw [enter_eq]; unfold pc_ref05_CheckData encE
  cases hc : codOK L P with
  | false =>
    rw [hc] at c1
    simp only [Bool.false_eq_true, if_false] at c1 ⊢
    (try (simp -implicitDefEqProofs only [go_sem])); repeat' first | with_reducible exact True.intro | with_reducible refine And.intro ?_ ?_ | with_reducible intro _ | (((with_reducible refine isCall ?_); first | refine call_b (c1) rfl ?_ ?_ | refine call_d (c1) rfl ?_ | refine call_sb (c1) rfl ?_ ?_ | refine call_s (c1) rfl rfl ?_) <;> try (simp -implicitDefEqProofs only [go_sem])) | (((with_reducible refine vc_b ?_ ?_) <;> intro _) <;> try (simp -implicitDefEqProofs only [go_sem])) | simp (disch := omega) only [wrapI, wrapU, shl1, shl1', shl1'', shrN, shrN', and_one] 
    all_goals first | rfl | (simp; done) | skip
  | true =>
    rw [hc] at c1
    have hb := codOK_of hc
    simp only [if_true] at c1 ⊢
    have hw : IntKind.i64.wrap (L - P) = L - P := wrapI _ (by omega)
    have c2 := ref05_AreSymbols_ret n1 xs (L - P)
    cases hs : symsB xs (L - P) with
    | false =>
      rw [hs] at c2
      simp only [Bool.false_eq_true, if_false]
      (try (simp -implicitDefEqProofs only [go_sem, hw])); repeat' first | with_reducible exact True.intro | with_reducible refine And.intro ?_ ?_ | with_reducible intro _ | (((with_reducible refine isCall ?_); first | refine call_b (c1) rfl ?_ ?_ | refine call_d (c1) rfl ?_ | refine call_sb (c1) rfl ?_ ?_ | refine call_s (c1) rfl rfl ?_ | refine call_b (c2) rfl ?_ ?_ | refine call_d (c2) rfl ?_ | refine call_sb (c2) rfl ?_ ?_ | refine call_s (c2) rfl rfl ?_) <;> try (simp -implicitDefEqProofs only [go_sem, hw])) | (((with_reducible refine vc_b ?_ ?_) <;> intro _) <;> try (simp -implicitDefEqProofs only [go_sem, hw])) | simp (disch := omega) only [wrapI, wrapU, shl1, shl1', shl1'', shrN, shrN', and_one] 
      all_goals first | rfl | (simp; done) | skip
    | true =>
      rw [hs] at c2
      simp only [if_true]
      (try (simp -implicitDefEqProofs only [go_sem, hw])); repeat' first | with_reducible exact True.intro | with_reducible refine And.intro ?_ ?_ | with_reducible intro _ | (((with_reducible refine isCall ?_); first | refine call_b (c1) rfl ?_ ?_ | refine call_d (c1) rfl ?_ | refine call_sb (c1) rfl ?_ ?_ | refine call_s (c1) rfl rfl ?_ | refine call_b (c2) rfl ?_ ?_ | refine call_d (c2) rfl ?_ | refine call_sb (c2) rfl ?_ ?_ | refine call_s (c2) rfl rfl ?_) <;> try (simp -implicitDefEqProofs only [go_sem, hw])) | (((with_reducible refine vc_b ?_ ?_) <;> intro _) <;> try (simp -implicitDefEqProofs only [go_sem, hw])) | simp (disch := omega) only [wrapI, wrapU, shl1, shl1', shl1'', shrN, shrN', and_one] 
      all_goals first | rfl | (simp; done) | skip
theorem ref05_Encode_ret (L P : Int) (n1 : Bool) (xs : List Int) : Ret E0 F_ref05_Encode [.agg [.int .i64 L, .int .i64 P], .list n1 (ints xs)] (.tup [.list (encL L P xs).isEmpty (ints (encL L P xs)), .int .i64 (encE L P xs)]) := by
  have c1 := ref05_CheckData_ret L P n1 xs
  refine ret_of_pw dec_ref05_Encode mixed (by simp) fun hwf => ?_
  rw [enter_eq]; unfold pc_ref05_Encode
  unfold encL encE at *
  cases hc : codOK L P with
  | false =>
    rw [hc] at c1
    simp only [Bool.false_eq_true, if_false] at c1 ⊢
    (try (simp -implicitDefEqProofs only [go_sem])); repeat' first | with_reducible exact True.intro | with_reducible refine And.intro ?_ ?_ | with_reducible intro _ | (((with_reducible refine isCall ?_); first | refine call_b (c1) rfl ?_ ?_ | refine call_d (c1) rfl ?_ | refine call_sb (c1) rfl ?_ ?_ | refine call_s (c1) rfl rfl ?_) <;> try (simp -implicitDefEqProofs only [go_sem])) | (((with_reducible refine vc_b ?_ ?_) <;> intro _) <;> try (simp -implicitDefEqProofs only [go_sem])) | simp (disch := omega) only [wrapI, wrapU, shl1, shl1', shl1'', shrN, shrN', and_one] 
    all_goals first | rfl | (simp; done) | skip
  | true =>
    rw [hc] at c1
    simp only [if_true] at c1 ⊢
    cases hs : symsB xs (L - P) with
    | false =>
      rw [hs] at c1
      simp only [Bool.false_eq_true, if_false] at c1 ⊢
      (try (simp -implicitDefEqProofs only [go_sem])); repeat' first | with_reducible exact True.intro | with_reducible refine And.intro ?_ ?_ | with_reducible intro _ | (((with_reducible refine isCall ?_); first | refine call_b (c1) rfl ?_ ?_ | refine call_d (c1) rfl ?_ | refine call_sb (c1) rfl ?_ ?_ | refine call_s (c1) rfl rfl ?_) <;> try (simp -implicitDefEqProofs only [go_sem])) | (((with_reducible refine vc_b ?_ ?_) <;> intro _) <;> try (simp -implicitDefEqProofs only [go_sem])) | simp (disch := omega) only [wrapI, wrapU, shl1, shl1', shl1'', shrN, shrN', and_one] 
      all_goals first | rfl | (simp; done) | skip
    | true =>
      rw [hs] at c1
      simp only [if_true] at c1 ⊢
      obtain ⟨hl, hf⟩ := symsB_of hs
      obtain ⟨w, hW⟩ : ∃ w, fs xs = w := ⟨_, rfl⟩
      rw [hW] at hf ⊢
      subst hf
      rw [iv_len] at hl
      obtain ⟨l, p, rfl, rfl, b1, b2, b3, b4, b5⟩ := codOK_nat hc
      have hwl : w.length + p = l := by omega
      have c2 := ref05_encode_ret l p n1 w b2 b3 hwl (by omega)
      rw [codD_eq] at c2
      rw [Int.toNat_natCast, iv_pos_emp (show 0 < (encS p w).length by rw [encS_len]; omega)]
      (try (simp -implicitDefEqProofs only [go_sem])); repeat' first | with_reducible exact True.intro | with_reducible refine And.intro ?_ ?_ | with_reducible intro _ | (((with_reducible refine isCall ?_); first | refine call_b (c1) rfl ?_ ?_ | refine call_d (c1) rfl ?_ | refine call_sb (c1) rfl ?_ ?_ | refine call_s (c1) rfl rfl ?_ | refine call_b (c2) rfl ?_ ?_ | refine call_d (c2) rfl ?_ | refine call_sb (c2) rfl ?_ ?_ | refine call_s (c2) rfl rfl ?_) <;> try (simp -implicitDefEqProofs only [go_sem])) | (((with_reducible refine vc_b ?_ ?_) <;> intro _) <;> try (simp -implicitDefEqProofs only [go_sem])) | simp (disch := omega) only [wrapI, wrapU, shl1, shl1', shl1'', shrN, shrN', and_one] 
      all_goals first | rfl | (simp; done) | skip
def cwE (L P : Int) (ws ms : List Int) : Int := if codOK L P = true then if symsB ws L = true then if marksB ms L = true then 0 else 1 else 51 else 50
theorem ref05_CheckWord_ret (L P : Int) (n1 n2 : Bool) (ws ms : List Int) : Ret E0 F_ref05_CheckWord [.agg [.int .i64 L, .int .i64 P], .list n1 (ints ws), .list n2 (ints ms)] (.int .i64 (cwE L P ws ms)) := by
  have c1 := ref05_Check_ret L P
  refine ret_of_pw dec_ref05_CheckWord mixed (by simp) fun hwf => ?_
  rw [enter_eq]; unfold pc_ref05_CheckWord cwE
  cases hc : codOK L P with
  | false =>
    rw [hc] at c1
    simp only [Bool.false_eq_true, if_false] at c1 ⊢
    (try (simp -implicitDefEqProofs only [go_sem])); repeat' first | with_reducible exact True.intro | with_reducible refine And.intro ?_ ?_ | with_reducible intro _ | (((with_reducible refine isCall ?_); first | refine call_b (c1) rfl ?_ ?_ | refine call_d (c1) rfl ?_ | refine call_sb (c1) rfl ?_ ?_ | refine call_s (c1) rfl rfl ?_) <;> try (simp -implicitDefEqProofs only [go_sem])) | (((with_reducible refine vc_b ?_ ?_) <;> intro _) <;> try (simp -implicitDefEqProofs only [go_sem])) | simp (disch := omega) only [wrapI, wrapU, shl1, shl1', shl1'', shrN, shrN', and_one] 
    all_goals first | rfl | (simp; done) | skip
  | true =>
    rw [hc] at c1
    have hb := codOK_of hc
    simp only [if_true] at c1 ⊢
    have c2 := ref05_AreSymbols_ret n1 ws L
    have c3 := ref05_AreMarks_ret n2 ms L (by omega)
    cases hs : symsB ws L with
    | false =>
      rw [hs] at c2
      simp only [Bool.false_eq_true, if_false]
      (try (simp -implicitDefEqProofs only [go_sem])); repeat' first | with_reducible exact True.intro | with_reducible refine And.intro ?_ ?_ | with_reducible intro _ | (((with_reducible refine isCall ?_); first | refine call_b (c1) rfl ?_ ?_ | refine call_d (c1) rfl ?_ | refine call_sb (c1) rfl ?_ ?_ | refine call_s (c1) rfl rfl ?_ | refine call_b (c2) rfl ?_ ?_ | refine call_d (c2) rfl ?_ | refine call_sb (c2) rfl ?_ ?_ | refine call_s (c2) rfl rfl ?_) <;> try (simp -implicitDefEqProofs only [go_sem])) | (((with_reducible refine vc_b ?_ ?_) <;> intro _) <;> try (simp -implicitDefEqProofs only [go_sem])) | simp (disch := omega) only [wrapI, wrapU, shl1, shl1', shl1'', shrN, shrN', and_one] 
      all_goals first | rfl | (simp; done) | skip
    | true =>
      rw [hs] at c2
      simp only [if_true]
      cases hm : marksB ms L with
      | false =>
        rw [hm] at c3
        simp only [Bool.false_eq_true, if_false]
        (try (simp -implicitDefEqProofs only [go_sem])); repeat' first | with_reducible exact True.intro | with_reducible refine And.intro ?_ ?_ | with_reducible intro _ | (((with_reducible refine isCall ?_); first | refine call_b (c1) rfl ?_ ?_ | refine call_d (c1) rfl ?_ | refine call_sb (c1) rfl ?_ ?_ | refine call_s (c1) rfl rfl ?_ | refine call_b (c2) rfl ?_ ?_ | refine call_d (c2) rfl ?_ | refine call_sb (c2) rfl ?_ ?_ | refine call_s (c2) rfl rfl ?_ | refine call_b (c3) rfl ?_ ?_ | refine call_d (c3) rfl ?_ | refine call_sb (c3) rfl ?_ ?_ | refine call_s (c3) rfl rfl ?_) <;> try (simp -implicitDefEqProofs only [go_sem])) | (((with_reducible refine vc_b ?_ ?_) <;> intro _) <;> try (simp -implicitDefEqProofs only [go_sem])) | simp (disch := omega) only [wrapI, wrapU, shl1, shl1', shl1'', shrN, shrN', and_one] 
        all_goals first | rfl | (simp; done) | skip
      | true =>
        rw [hm] at c3
        simp only [if_true]
        (try (simp -implicitDefEqProofs only [go_sem])); repeat' first | with_reducible exact True.intro | with_reducible refine And.intro ?_ ?_ | with_reducible intro _ | (((with_reducible refine isCall ?_); first | refine call_b (c1) rfl ?_ ?_ | refine call_d (c1) rfl ?_ | refine call_sb (c1) rfl ?_ ?_ | refine call_s (c1) rfl rfl ?_ | refine call_b (c2) rfl ?_ ?_ | refine call_d (c2) rfl ?_ | refine call_sb (c2) rfl ?_ ?_ | refine call_s (c2) rfl rfl ?_ | refine call_b (c3) rfl ?_ ?_ | refine call_d (c3) rfl ?_ | refine call_sb (c3) rfl ?_ ?_ | refine call_s (c3) rfl rfl ?_) <;> try (simp -implicitDefEqProofs only [go_sem])) | (((with_reducible refine vc_b ?_ ?_) <;> intro _) <;> try (simp -implicitDefEqProofs only [go_sem])) | simp (disch := omega) only [wrapI, wrapU, shl1, shl1', shl1'', shrN, shrN', and_one] 
        all_goals first | rfl | (simp; done) | skip
theorem ref05_Decode_ret (L P : Int) (n1 n2 : Bool) (ws ms : List Int) : Ret E0 F_ref05_Decode [.agg [.int .i64 L, .int .i64 P], .list n1 (ints ws), .list n2 (ints ms)] (.tup [.list (dcL L P ws ms).isEmpty (ints (dcL L P ws ms)), .int .i64 (dcE L P ws ms)]) := by
  have c1 := ref05_CheckWord_ret L P n1 n2 ws ms
  refine ret_of_pw dec_ref05_Decode mixed (by simp) fun hwf => ?_
  rw [enter_eq]; unfold pc_ref05_Decode dcL dcE dcO
  unfold cwE at c1
  cases hc : codOK L P with
  | false =>
    rw [hc] at c1
    simp only [Bool.false_eq_true, if_false] at c1 ⊢
    (try (simp -implicitDefEqProofs only [go_sem])); repeat' first | with_reducible exact True.intro | with_reducible refine And.intro ?_ ?_ | with_reducible intro _ | (((with_reducible refine isCall ?_); first | refine call_b (c1) rfl ?_ ?_ | refine call_d (c1) rfl ?_ | refine call_sb (c1) rfl ?_ ?_ | refine call_s (c1) rfl rfl ?_) <;> try (simp -implicitDefEqProofs only [go_sem])) | (((with_reducible refine vc_b ?_ ?_) <;> intro _) <;> try (simp -implicitDefEqProofs only [go_sem])) | simp (disch := omega) only [wrapI, wrapU, shl1, shl1', shl1'', shrN, shrN', and_one] 
    all_goals first | rfl | (simp; done) | skip
  | true =>
    rw [hc] at c1
    simp only [if_true] at c1 ⊢
    cases hs : symsB ws L with
    | false =>
      rw [hs] at c1
      simp only [Bool.false_eq_true, if_false] at c1 ⊢
      (try (simp -implicitDefEqProofs only [go_sem])); repeat' first | with_reducible exact True.intro | with_reducible refine And.intro ?_ ?_ | with_reducible intro _ | (((with_reducible refine isCall ?_); first | refine call_b (c1) rfl ?_ ?_ | refine call_d (c1) rfl ?_ | refine call_sb (c1) rfl ?_ ?_ | refine call_s (c1) rfl rfl ?_) <;> try (simp -implicitDefEqProofs only [go_sem])) | (((with_reducible refine vc_b ?_ ?_) <;> intro _) <;> try (simp -implicitDefEqProofs only [go_sem])) | simp (disch := omega) only [wrapI, wrapU, shl1, shl1', shl1'', shrN, shrN', and_one] 
      all_goals first | rfl | (simp; done) | skip
    | true =>
      rw [hs] at c1
      simp only [if_true] at c1 ⊢
      cases hm : marksB ms L with
      | false =>
        rw [hm] at c1
        simp only [Bool.false_eq_true, if_false] at c1 ⊢
        (try (simp -implicitDefEqProofs only [go_sem])); repeat' first | with_reducible exact True.intro | with_reducible refine And.intro ?_ ?_ | with_reducible intro _ | (((with_reducible refine isCall ?_); first | refine call_b (c1) rfl ?_ ?_ | refine call_d (c1) rfl ?_ | refine call_sb (c1) rfl ?_ ?_ | refine call_s (c1) rfl rfl ?_) <;> try (simp -implicitDefEqProofs only [go_sem])) | (((with_reducible refine vc_b ?_ ?_) <;> intro _) <;> try (simp -implicitDefEqProofs only [go_sem])) | simp (disch := omega) only [wrapI, wrapU, shl1, shl1', shl1'', shrN, shrN', and_one] 
        all_goals first | rfl | (simp; done) | skip
      | true =>
        rw [hm] at c1
        simp only [if_true] at c1 ⊢
        obtain ⟨hl, hf⟩ := symsB_of hs
        obtain ⟨w, hW⟩ : ∃ w, fs ws = w := ⟨_, rfl⟩
        rw [hW] at hf ⊢
        subst hf
        rw [iv_len] at hl
        obtain ⟨l, p, rfl, rfl, b1, b2, b3, b4, b5⟩ := codOK_nat hc
        have hmk := mks_of hm
        have hmf := ni_nt hm
        obtain ⟨mk, hMK⟩ : ∃ mk, nt ms = mk := ⟨_, rfl⟩
        rw [hMK] at hmk hmf ⊢
        subst hmf
        have hwl : w.length = l := by omega
        have c4 := ref05_decode_ret l p n1 n2 w mk b2 (by omega) b3 b4 hwl hmk
        rw [codD_eq] at c4
        simp only [Int.toNat_natCast]
        obtain ⟨O, hr⟩ : ∃ O, decS l p w mk = O := ⟨_, rfl⟩
        rw [hr] at c4 ⊢
        cases O with
        | none =>
          rw [dcI_none] at c4
          rw [oE_none, oL_none]
          (try (simp -implicitDefEqProofs only [go_sem])); repeat' first | with_reducible exact True.intro | with_reducible refine And.intro ?_ ?_ | with_reducible intro _ | (((with_reducible refine isCall ?_); first | refine call_b (c1) rfl ?_ ?_ | refine call_d (c1) rfl ?_ | refine call_sb (c1) rfl ?_ ?_ | refine call_s (c1) rfl rfl ?_ | refine call_b (c4) rfl ?_ ?_ | refine call_d (c4) rfl ?_ | refine call_sb (c4) rfl ?_ ?_ | refine call_s (c4) rfl rfl ?_) <;> try (simp -implicitDefEqProofs only [go_sem])) | (((with_reducible refine vc_b ?_ ?_) <;> intro _) <;> try (simp -implicitDefEqProofs only [go_sem])) | simp (disch := omega) only [wrapI, wrapU, shl1, shl1', shl1'', shrN, shrN', and_one] 
          all_goals first | rfl | (simp; done) | skip
        | some r =>
          rw [dcI_some] at c4
          rw [oE_some, oL_some]
          have hrl := (dec_some hwl hmk hr).2.1
          rw [iv_pos_emp (show 0 < r.length by omega)]
          (try (simp -implicitDefEqProofs only [go_sem])); repeat' first | with_reducible exact True.intro | with_reducible refine And.intro ?_ ?_ | with_reducible intro _ | (((with_reducible refine isCall ?_); first | refine call_b (c1) rfl ?_ ?_ | refine call_d (c1) rfl ?_ | refine call_sb (c1) rfl ?_ ?_ | refine call_s (c1) rfl rfl ?_ | refine call_b (c4) rfl ?_ ?_ | refine call_d (c4) rfl ?_ | refine call_sb (c4) rfl ?_ ?_ | refine call_s (c4) rfl rfl ?_) <;> try (simp -implicitDefEqProofs only [go_sem])) | (((with_reducible refine vc_b ?_ ?_) <;> intro _) <;> try (simp -implicitDefEqProofs only [go_sem])) | simp (disch := omega) only [wrapI, wrapU, shl1, shl1', shl1'', shrN, shrN', and_one] 
          all_goals first | rfl | (simp; done) | skip
end Go.Pw
end
