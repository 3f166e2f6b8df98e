/- A part of the proof. -/
import Derived.Test.YtiphmemigdplgaaDoorJournalI
import Derived.Test.YtiphmemigdplgaaDoorJournalSpec2
set_option linter.all false
section
open Go Go.Pw Go.Proofs
namespace Go.Pw
set_option linter.unusedSimpArgs false
set_option linter.unusedVariables false
set_option maxRecDepth 100000
set_option maxHeartbeats 3200000
def GLog.rdy (l : GLog) : Bool := !l.far && decide (l.openE = 0)
theorem repN_get {ks : List GRec} {xs : List Int} {j : Nat} : ∀ n, (∀ i, i < n → (ks[i]?.getD default).blk.toNat ≠ j) → (repN ks xs n)[j]? = xs[j]?
  | 0, _ => rfl
  | n + 1, h => by
    rw [repN, List.getElem?_set_ne (h n (by omega))]
    exact repN_get n fun i hi => h i (by omega)
theorem repN_eq {ks : List GRec} {xs ys : List Int} (hl : xs.length = ys.length) {j : Nat} : ∀ n, (∃ i, i < n ∧ (ks[i]?.getD default).blk.toNat = j) → (repN ks xs n)[j]? = (repN ks ys n)[j]?
  | 0, h => by obtain ⟨i, hi, _⟩ := h; omega
  | n + 1, h => by
    rw [repN, repN]
    by_cases he : (ks[n]?.getD default).blk.toNat = j
    · rw [he, List.getElem?_set, List.getElem?_set, if_pos rfl, if_pos rfl, repN_len, repN_len, hl]
    · rw [List.getElem?_set_ne he, List.getElem?_set_ne he]
      obtain ⟨i, hi, hb⟩ := h
      have : i ≠ n := fun h2 => he (by rw [← h2]; exact hb)
      exact repN_eq hl n ⟨i, by omega, hb⟩
/-- What was replayed in part is replayed to the same. -/
theorem repN_part (ks : List GRec) (xs : List Int) {m n : Nat} (hm : m ≤ n) : repN ks (repN ks xs m) n = repN ks xs n := by
  apply List.ext_getElem?
  intro j
  by_cases h : ∃ i, i < n ∧ (ks[i]?.getD default).blk.toNat = j
  · exact repN_eq (repN_len ks xs m) n h
  · have h2 : ∀ i, i < n → (ks[i]?.getD default).blk.toNat ≠ j := fun i hi he => h ⟨i, hi, he⟩
    rw [repN_get n h2, repN_get n h2, repN_get m fun i hi => h2 i (by omega)]
theorem all_set {p : Int → Bool} {xs : List Int} {i : Nat} {v : Int} (h : xs.all p = true) (hv : p v = true) : (xs.set i v).all p = true := by
  rw [List.all_eq_true] at h ⊢
  intro x hx
  rcases List.mem_or_eq_of_mem_set hx with h1 | h1
  · exact h x h1
  · rw [h1]; exact hv
theorem repN_all {ks : List GRec} {xs : List Int} (h : xs.all (fun n => inZ n 0 999) = true) : ∀ n, (∀ i, i < n → inZ (ks[i]?.getD default).val 0 999 = true) → (repN ks xs n).all (fun n => inZ n 0 999) = true
  | 0, _ => h
  | n + 1, hv => by rw [repN]; exact all_set (repN_all h n fun i hi => hv i (by omega)) (hv n (by omega))
theorem home_at {xs : List Int} (h : ∀ j : Nat, j < xs.length → inZ (xs[j]?.getD 0) 0 999 = true) : xs.all (fun n => inZ n 0 999) = true := by
  rw [List.all_eq_true]
  intro x hx
  obtain ⟨i, hi, rfl⟩ := List.getElem_of_mem hx
  have := h i hi
  rwa [List.getElem?_eq_getElem hi, Option.getD_some] at this
attribute [local congr] cg_pw cg_seqI cg_seqE cg_stepI cg_ev cg_evBin cg_condB cg_condV cg_thenQ cg_blockQ cg_onSome cg_onCells cg_onRow cg_onMap cg_onOpt cg_ghosts cg_ghost cg_evCall cg_part cg_rng cg_guardV cg_frzV cg_frpV cg_ownV cg_owcV cg_occV cg_occX cg_resK cg_res1 cg_yldP cg_rndE cg_onlyN cg_onHist
attribute [local irreducible] IntKind.wrap bitsOp Option.getD and or

theorem law16_ready_ret (l : GLog) : Ret E0 F_law16_ready [logD l] (.bool l.rdy) := by
  refine ret_of_pw dec_law16_ready mixed (by simp) fun hwf => ?_
  have c0 := law16_Far_ret l
  have c1 := ref16_CheckKept_ret l
  rw [enter_eq]; unfold pc_law16_ready GLog.rdy
  cases hf : l.far with
  | true =>
    rw [hf] at c0
    (try (simp -implicitDefEqProofs only [go_sem, logD_eq, logC_eq])); repeat' first | with_reducible exact True.intro | with_reducible refine And.intro ?_ ?_ | with_reducible intro _ | (((with_reducible refine isCall ?_); first | refine call_b (c0) rfl ?_ ?_ | refine call_d (c0) rfl ?_ | refine call_sb (c0) rfl ?_ ?_ | refine call_s (c0) rfl rfl ?_) <;> try (simp -implicitDefEqProofs only [go_sem, logD_eq, logC_eq])) | (((with_reducible refine vc_b ?_ ?_) <;> intro _) <;> try (simp -implicitDefEqProofs only [go_sem, logD_eq, logC_eq])) | simp (disch := omega) only [wrapI, wrapU, shl1, shl1', shl1'', shrN, shrN', and_one] 
    all_goals first | rfl | simp
  | false =>
    rw [hf] at c0
    by_cases h : l.openE = 0
    · (try (simp -implicitDefEqProofs only [go_sem, logD_eq, logC_eq, h])); repeat' first | with_reducible exact True.intro | with_reducible refine And.intro ?_ ?_ | with_reducible intro _ | (((with_reducible refine isCall ?_); first | refine call_b (c0) rfl ?_ ?_ | refine call_d (c0) rfl ?_ | refine call_sb (c0) rfl ?_ ?_ | refine call_s (c0) rfl rfl ?_ | refine call_b (c1) rfl ?_ ?_ | refine call_d (c1) rfl ?_ | refine call_sb (c1) rfl ?_ ?_ | refine call_s (c1) rfl rfl ?_) <;> try (simp -implicitDefEqProofs only [go_sem, logD_eq, logC_eq, h])) | (((with_reducible refine vc_b ?_ ?_) <;> intro _) <;> try (simp -implicitDefEqProofs only [go_sem, logD_eq, logC_eq, h])) | simp (disch := omega) only [wrapI, wrapU, shl1, shl1', shl1'', shrN, shrN', and_one] 
      all_goals first | rfl | (simp [h]; done)
    · (try (simp -implicitDefEqProofs only [go_sem, logD_eq, logC_eq, h])); repeat' first | with_reducible exact True.intro | with_reducible refine And.intro ?_ ?_ | with_reducible intro _ | (((with_reducible refine isCall ?_); first | refine call_b (c0) rfl ?_ ?_ | refine call_d (c0) rfl ?_ | refine call_sb (c0) rfl ?_ ?_ | refine call_s (c0) rfl rfl ?_ | refine call_b (c1) rfl ?_ ?_ | refine call_d (c1) rfl ?_ | refine call_sb (c1) rfl ?_ ?_ | refine call_s (c1) rfl rfl ?_) <;> try (simp -implicitDefEqProofs only [go_sem, logD_eq, logC_eq, h])) | (((with_reducible refine vc_b ?_ ?_) <;> intro _) <;> try (simp -implicitDefEqProofs only [go_sem, logD_eq, logC_eq, h])) | simp (disch := omega) only [wrapI, wrapU, shl1, shl1', shl1'', shrN, shrN', and_one] 
      all_goals first | rfl | (simp [h]; done)

theorem JournalReplay_ret (l : GLog) (hs : l.sn = true → l.slots = []) (hz : l.disk.zn = true → l.disk.zones = []) (nl : Bool) (home : List Int) (hh : nl = true → home = []) (first : Int) :
    Ret E0 F_law16_JournalReplay [logD l, .list nl (ints home), .int .i64 first] (.bool true) := by
  refine ret_of_pw dec_law16_JournalReplay mixed (by simp) fun hwf => ?_
  have c0 := law16_ready_ret l
  have cw := law16_works_ret
  rw [enter_eq]; unfold pc_law16_JournalReplay
  cases hf : l.rdy with
  | false =>
    rw [hf] at c0
    (try (simp -implicitDefEqProofs only [go_sem, logD_eq, logC_eq])); repeat' first | with_reducible exact True.intro | with_reducible refine And.intro ?_ ?_ | with_reducible intro _ | (((with_reducible refine isCall ?_); first | refine call_b (c0) rfl ?_ ?_ | refine call_d (c0) rfl ?_ | refine call_sb (c0) rfl ?_ ?_ | refine call_s (c0) rfl rfl ?_ | refine call_b (cw) rfl ?_ ?_ | refine call_d (cw) rfl ?_ | refine call_sb (cw) rfl ?_ ?_ | refine call_s (cw) rfl rfl ?_) <;> try (simp -implicitDefEqProofs only [go_sem, logD_eq, logC_eq])) | (((with_reducible refine vc_b ?_ ?_) <;> intro _) <;> try (simp -implicitDefEqProofs only [go_sem, logD_eq, logC_eq])) | simp (disch := omega) only [wrapI, wrapU, shl1, shl1', shl1'', shrN, shrN', and_one] | ((with_reducible refine isEx3 ?_); refine ⟨(_, _, _), rfl, ?_, ?_⟩) | ((with_reducible refine isEx ?_); refine ⟨_, rfl, ?_, ?_⟩)
  | true =>
    rw [hf] at c0
    have he : l.openE = 0 := by unfold GLog.rdy at hf; simp at hf; exact hf.2
    obtain ⟨e1, e2⟩ := openE_0 he
    have g := check_good e1
    have b1 := g.b1; have b2 := g.b2
    by_cases hlen : (home.length : Int) = l.blocks
    · (try (simp -implicitDefEqProofs only [go_sem, logD_eq, logC_eq, eq_true hlen])); repeat' first | with_reducible exact True.intro | with_reducible refine And.intro ?_ ?_ | with_reducible intro _ | (((with_reducible refine isCall ?_); first | refine call_b (c0) rfl ?_ ?_ | refine call_d (c0) rfl ?_ | refine call_sb (c0) rfl ?_ ?_ | refine call_s (c0) rfl rfl ?_ | refine call_b (cw) rfl ?_ ?_ | refine call_d (cw) rfl ?_ | refine call_sb (cw) rfl ?_ ?_ | refine call_s (cw) rfl rfl ?_) <;> try (simp -implicitDefEqProofs only [go_sem, logD_eq, logC_eq, eq_true hlen])) | (((with_reducible refine vc_b ?_ ?_) <;> intro _) <;> try (simp -implicitDefEqProofs only [go_sem, logD_eq, logC_eq, eq_true hlen])) | simp (disch := omega) only [wrapI, wrapU, shl1, shl1', shl1'', shrN, shrN', and_one] | ((with_reducible refine isEx3 ?_); refine ⟨(_, _, _), rfl, ?_, ?_⟩) | ((with_reducible refine isEx ?_); refine ⟨_, rfl, ?_, ?_⟩)
      all_goals (try omega)
      refine pw_loopS (α := Int) (l0 := ?l1) (m0 := ?m1) (fun x => [(7, .d (.int .i64 x))]) (fun x => []) (fun x => (0 ≤ x ∧ x ≤ home.length) ∧ ∀ j : Nat, j < x.toNat → inZ (home[j]?.getD 0) 0 999 = true) (fun x => (home.length - x).toNat) ?a1_0 ?h01 ?he1 ?he21 ?hI1 ?step1
      case h01 => (simp -implicitDefEqProofs only [go_sem, logC_eq]; rfl)
      case he1 => rfl
      case he21 => rfl
      case' step1 => (rintro i hI; try dsimp only at hI)
      case' hI1 => try dsimp only
      · exact ⟨⟨by omega, by omega⟩, fun j hj => by omega⟩
      · obtain ⟨⟨q1, q2⟩, q3⟩ := hI
        by_cases hi : i < home.length
        · have w1 : IntKind.i64.wrap (i + 1) = i + 1 := wrapI _ (by omega)
          by_cases hv : 0 ≤ home[i.toNat]?.getD 0 ∧ home[i.toNat]?.getD 0 ≤ 999
          · have v1 : ¬ home[i.toNat]?.getD 0 < 0 := by omega
            have v2 : ¬ 999 < home[i.toNat]?.getD 0 := by omega
            have hn : ∀ j : Nat, j < (i + 1).toNat → inZ (home[j]?.getD 0) 0 999 = true := fun j hj => by
              rcases (show j < i.toNat ∨ j = i.toNat by omega) with h1 | h1
              · exact q3 j h1
              · rw [h1]; exact inZ_iff.2 hv
            (try (simp -implicitDefEqProofs only [go_sem, logC_eq, hi, q1, v1, v2, w1])); repeat' first | with_reducible exact True.intro | with_reducible refine And.intro ?_ ?_ | with_reducible intro _ | (((with_reducible refine vc_b ?_ ?_) <;> intro _) <;> try (simp -implicitDefEqProofs only [go_sem, logC_eq, hi, q1, v1, v2, w1])) | simp (disch := omega) only [wrapI, wrapU, shl1, shl1', shl1'', shrN, shrN', and_one] | ((with_reducible refine isEx3 ?_); refine ⟨(_, _, _), rfl, ?_, ?_⟩) | ((with_reducible refine isEx ?_); refine ⟨_, rfl, ?_, ?_⟩)
            all_goals first | omega | (apply hn; assumption) | skip
          · by_cases v1 : home[i.toNat]?.getD 0 < 0
            · (try (simp -implicitDefEqProofs only [go_sem, logC_eq, hi, q1, v1])); repeat' first | with_reducible exact True.intro | with_reducible refine And.intro ?_ ?_ | with_reducible intro _ | (((with_reducible refine isCall ?_); first | refine call_b (cw) rfl ?_ ?_ | refine call_d (cw) rfl ?_ | refine call_sb (cw) rfl ?_ ?_ | refine call_s (cw) rfl rfl ?_) <;> try (simp -implicitDefEqProofs only [go_sem, logC_eq, hi, q1, v1])) | (((with_reducible refine vc_b ?_ ?_) <;> intro _) <;> try (simp -implicitDefEqProofs only [go_sem, logC_eq, hi, q1, v1])) | simp (disch := omega) only [wrapI, wrapU, shl1, shl1', shl1'', shrN, shrN', and_one] | ((with_reducible refine isEx3 ?_); refine ⟨(_, _, _), rfl, ?_, ?_⟩) | ((with_reducible refine isEx ?_); refine ⟨_, rfl, ?_, ?_⟩)
              all_goals first | omega | skip
            · have v2 : 999 < home[i.toNat]?.getD 0 := by omega
              (try (simp -implicitDefEqProofs only [go_sem, logC_eq, hi, q1, v1, v2])); repeat' first | with_reducible exact True.intro | with_reducible refine And.intro ?_ ?_ | with_reducible intro _ | (((with_reducible refine isCall ?_); first | refine call_b (cw) rfl ?_ ?_ | refine call_d (cw) rfl ?_ | refine call_sb (cw) rfl ?_ ?_ | refine call_s (cw) rfl rfl ?_) <;> try (simp -implicitDefEqProofs only [go_sem, logC_eq, hi, q1, v1, v2])) | (((with_reducible refine vc_b ?_ ?_) <;> intro _) <;> try (simp -implicitDefEqProofs only [go_sem, logC_eq, hi, q1, v1, v2])) | simp (disch := omega) only [wrapI, wrapU, shl1, shl1', shl1'', shrN, shrN', and_one] | ((with_reducible refine isEx3 ?_); refine ⟨(_, _, _), rfl, ?_, ?_⟩) | ((with_reducible refine isEx ?_); refine ⟨_, rfl, ?_, ?_⟩)
              all_goals first | omega | skip
        · replace hi := eq_false hi
          have hall := home_at fun j hj => q3 j (by have := of_eq_false hi; omega)
          have hok : okHome l home = true := by unfold okHome; rw [hall, decide_eq_true hlen]; simp
          have hnl : nl = false := by
            cases nl with
            | false => rfl
            | true => have := hh rfl; rw [this] at hlen; simp at hlen; omega
          have hkl := kept_len l
          have hmb := many_bound g
          have hkg := fun i hi => kept_good g e2 (i := i) hi
          have c2 := journal_Recover_ret l hs hz
          have hrec : l.recE = l.kept := by unfold GLog.recE; rw [if_pos he]
          rw [he, hrec] at c2
          have hval : ∀ k : Nat, k ≤ l.kept.length → ∀ i, i < k → inZ (l.kept[i]?.getD default).val 0 999 = true := fun k hk i hi => by
            obtain ⟨r, hr, _, _, _, hv⟩ := hkg i (by omega)
            rw [hr]; exact inZ_iff.2 hv
          have hpart : ∀ k : Nat, k ≤ l.kept.length → okHome l (repN l.kept home k) = true := fun k hk => by
            unfold okHome
            rw [repN_len, decide_eq_true hlen, repN_all hall k (hval k hk)]; simp
          have hrp : ∀ (b : Bool) (k : Nat), k ≤ l.kept.length → (b = true → repN l.kept home k = []) → Ret E0 F_journal_Replay [logD l, .list b (ints (repN l.kept home k))] (.tup [.list false (ints (l.repL home)), .int .i64 0]) := fun b k hk hb => by
            have := journal_Replay_ret l hs hz b (repN l.kept home k) hb
            rw [replayE_home he, hpart k hk] at this
            have h2 : l.repL (repN l.kept home k) = l.repL home := repN_part l.kept home hk
            rw [h2] at this
            exact this
          have c3 := hrp nl 0 (by omega) hh
          have c4 := hrp false l.kept.length (Nat.le_refl _) (by intro h; cases h)
          have c5 := fun k hk => hrp false k hk (by intro h; cases h)
          change Ret _ _ [logD l, .list false (ints (l.repL home))] _ at c4
          change Ret _ _ [logD l, .list nl (ints home)] _ at c3
          have hol : (l.repL home).length = home.length := repN_len _ _ _
          have hwant : repN l.kept home l.kept.length = l.repL home := rfl
          have s1 := law16_sameInts_ret false false (l.repL home) (l.repL home)
          rw [decide_eq_true rfl] at s1
          generalize l.repL home = R at *
          generalize l.kept = ks at *
          subst hnl
          have hne : home ≠ [] := fun h => by rw [h] at hlen; simp at hlen; omega
          have hlb : home.length ≤ 1073741824 := by omega
          (try (simp -implicitDefEqProofs only [go_sem, logD_eq, logC_eq, hi, hol, q1, hne, hlb])); repeat' first | with_reducible exact True.intro | with_reducible refine And.intro ?_ ?_ | with_reducible intro _ | (((with_reducible refine isCall ?_); first | refine call_b (c2) rfl ?_ ?_ | refine call_d (c2) rfl ?_ | refine call_sb (c2) rfl ?_ ?_ | refine call_s (c2) rfl rfl ?_ | refine call_b (c3) rfl ?_ ?_ | refine call_d (c3) rfl ?_ | refine call_sb (c3) rfl ?_ ?_ | refine call_s (c3) rfl rfl ?_ | refine call_b (c4) rfl ?_ ?_ | refine call_d (c4) rfl ?_ | refine call_sb (c4) rfl ?_ ?_ | refine call_s (c4) rfl rfl ?_ | refine call_b (s1) rfl ?_ ?_ | refine call_d (s1) rfl ?_ | refine call_sb (s1) rfl ?_ ?_ | refine call_s (s1) rfl rfl ?_) <;> try (simp -implicitDefEqProofs only [go_sem, logD_eq, logC_eq, hi, hol, q1, hne, hlb])) | (((with_reducible refine vc_b ?_ ?_) <;> intro _) <;> try (simp -implicitDefEqProofs only [go_sem, logD_eq, logC_eq, hi, hol, q1, hne, hlb])) | simp (disch := omega) only [wrapI, wrapU, shl1, shl1', shl1'', shrN, shrN', and_one] | ((with_reducible refine isEx3 ?_); refine ⟨(_, _, _), rfl, ?_, ?_⟩) | ((with_reducible refine isEx ?_); refine ⟨_, rfl, ?_, ?_⟩)
          all_goals (try omega)
          refine pw_loopS (α := Int × (List Int) × (List Int)) (l0 := ?l2) (m0 := ?m2) (fun x => [(16, .d (.int .i64 x.1))]) (fun x => [(89, .row 3 1 false (ints x.2.1)), (92, .row 3 1 false (ints x.2.2))]) (fun x => (0 ≤ x.1 ∧ x.1 ≤ ks.length) ∧ x.2.1 = repN ks home (min x.1 (max 0 first)).toNat ∧ x.2.2 = repN ks home x.1.toNat) (fun x => (ks.length - x.1).toNat) (?a2_0, ?a2_1, ?a2_2) ?h02 ?he2 ?he22 ?hI2 ?step2
          case h02 => (simp -implicitDefEqProofs only [go_sem, recsD_len]; rfl)
          case he2 => rfl
          case he22 => rfl
          case' step2 => (rintro ⟨k, sm, wt⟩ hI2; try dsimp only at hI2)
          case' hI2 => try dsimp only
          · exact ⟨⟨by omega, by omega⟩, by rw [show (min (0 : Int) (max 0 first)).toNat = 0 by omega]; rfl, rfl⟩
          · obtain ⟨⟨p1, p2⟩, p3, p4⟩ := hI2
            have hsl := repN_len ks home (min k (max 0 first)).toNat
            have hwl := repN_len ks home k.toNat
            rw [← p3] at hsl
            rw [← p4] at hwl
            by_cases hk : k < ks.length
            · obtain ⟨r, hr, r1, r2, r3, r4⟩ := hkg k.toNat (by omega)
              have w1 : IntKind.i64.wrap (k + 1) = k + 1 := wrapI _ (by omega)
              have hnx : repN ks home (k + 1).toNat = wt.set r.blk.toNat r.val := by rw [show (k + 1).toNat = k.toNat + 1 by omega, repN, ← p4, hr]
              have hb0 := r3.1
              have hb1 : r.blk < wt.length := by omega
              have hb2 : r.blk < sm.length := by omega
              have hb3 : ¬ r.blk < 0 := by omega
              have hb4 : ¬ (home.length : Int) ≤ r.blk := by omega
              by_cases hf1 : k < first
              · have hns : repN ks home (min (k + 1) (max 0 first)).toNat = sm.set r.blk.toNat r.val := by
                  rw [show (min (k + 1) (max 0 first)).toNat = (k + 1).toNat by omega, hnx, p3, p4, show (min k (max 0 first)).toNat = k.toNat by omega]
                (try (simp -implicitDefEqProofs only [go_sem, recsD_len, onSome_recs, hr, recD_eq, recC_eq, recsD_unif, w1, hk, p1, hb1, hb0, hb2, hb3, hb4, hf1])); repeat' first | with_reducible exact True.intro | with_reducible refine And.intro ?_ ?_ | with_reducible intro _ | (((with_reducible refine vc_b ?_ ?_) <;> intro _) <;> try (simp -implicitDefEqProofs only [go_sem, recsD_len, onSome_recs, hr, recD_eq, recC_eq, recsD_unif, w1, hk, p1, hb1, hb0, hb2, hb3, hb4, hf1])) | simp (disch := omega) only [wrapI, wrapU, shl1, shl1', shl1'', shrN, shrN', and_one] | ((with_reducible refine isEx3 ?_); refine ⟨(_, _, _), rfl, ?_, ?_⟩) | ((with_reducible refine isEx ?_); refine ⟨_, rfl, ?_, ?_⟩)
                all_goals first | omega | exact hnx.symm | exact hns.symm | exact .inl True.intro
              · have hns : repN ks home (min (k + 1) (max 0 first)).toNat = sm := by
                  rw [show (min (k + 1) (max 0 first)).toNat = (min k (max 0 first)).toNat by omega]; exact p3.symm
                (try (simp -implicitDefEqProofs only [go_sem, recsD_len, onSome_recs, hr, recD_eq, recC_eq, recsD_unif, w1, hk, p1, hb1, hb0, hb2, hb3, hb4, hf1])); repeat' first | with_reducible exact True.intro | with_reducible refine And.intro ?_ ?_ | with_reducible intro _ | (((with_reducible refine vc_b ?_ ?_) <;> intro _) <;> try (simp -implicitDefEqProofs only [go_sem, recsD_len, onSome_recs, hr, recD_eq, recC_eq, recsD_unif, w1, hk, p1, hb1, hb0, hb2, hb3, hb4, hf1])) | simp (disch := omega) only [wrapI, wrapU, shl1, shl1', shl1'', shrN, shrN', and_one] | ((with_reducible refine isEx3 ?_); refine ⟨(_, _, _), rfl, ?_, ?_⟩) | ((with_reducible refine isEx ?_); refine ⟨_, rfl, ?_, ?_⟩)
                all_goals first | omega | exact hnx.symm | exact hns.symm | exact .inl True.intro
            · have hke : k.toNat = ks.length := by omega
              rw [hke, hwant] at p4
              have c6 := c5 (min k (max 0 first)).toNat (by omega)
              rw [← p3] at c6
              subst p4
              (try (simp -implicitDefEqProofs only [go_sem, logD_eq, logC_eq, recsD_len, hk])); repeat' first | with_reducible exact True.intro | with_reducible refine And.intro ?_ ?_ | with_reducible intro _ | (((with_reducible refine isCall ?_); first | refine call_b (c6) rfl ?_ ?_ | refine call_d (c6) rfl ?_ | refine call_sb (c6) rfl ?_ ?_ | refine call_s (c6) rfl rfl ?_ | refine call_b (s1) rfl ?_ ?_ | refine call_d (s1) rfl ?_ | refine call_sb (s1) rfl ?_ ?_ | refine call_s (s1) rfl rfl ?_ | refine call_b (cw) rfl ?_ ?_ | refine call_d (cw) rfl ?_ | refine call_sb (cw) rfl ?_ ?_ | refine call_s (cw) rfl rfl ?_) <;> try (simp -implicitDefEqProofs only [go_sem, logD_eq, logC_eq, recsD_len, hk])) | (((with_reducible refine vc_b ?_ ?_) <;> intro _) <;> try (simp -implicitDefEqProofs only [go_sem, logD_eq, logC_eq, recsD_len, hk])) | simp (disch := omega) only [wrapI, wrapU, shl1, shl1', shl1'', shrN, shrN', and_one] | ((with_reducible refine isEx3 ?_); refine ⟨(_, _, _), rfl, ?_, ?_⟩) | ((with_reducible refine isEx ?_); refine ⟨_, rfl, ?_, ?_⟩)
              all_goals first | omega | rfl | (simp; done)
    · (try (simp -implicitDefEqProofs only [go_sem, logD_eq, logC_eq, hlen])); repeat' first | with_reducible exact True.intro | with_reducible refine And.intro ?_ ?_ | with_reducible intro _ | (((with_reducible refine isCall ?_); first | refine call_b (c0) rfl ?_ ?_ | refine call_d (c0) rfl ?_ | refine call_sb (c0) rfl ?_ ?_ | refine call_s (c0) rfl rfl ?_ | refine call_b (cw) rfl ?_ ?_ | refine call_d (cw) rfl ?_ | refine call_sb (cw) rfl ?_ ?_ | refine call_s (cw) rfl rfl ?_) <;> try (simp -implicitDefEqProofs only [go_sem, logD_eq, logC_eq, hlen])) | (((with_reducible refine vc_b ?_ ?_) <;> intro _) <;> try (simp -implicitDefEqProofs only [go_sem, logD_eq, logC_eq, hlen])) | simp (disch := omega) only [wrapI, wrapU, shl1, shl1', shl1'', shrN, shrN', and_one] | ((with_reducible refine isEx3 ?_); refine ⟨(_, _, _), rfl, ?_, ?_⟩) | ((with_reducible refine isEx ?_); refine ⟨_, rfl, ?_, ?_⟩)
end Go.Pw
end
section
open Go Go.Pw Go.Proofs
namespace Go.Pw
set_option linter.unusedSimpArgs false
set_option linter.unusedVariables false
set_option maxRecDepth 100000
set_option maxHeartbeats 3200000
def sameR (a b : GRec) : Bool := a.num == b.num && a.blk == b.blk && a.val == b.val && a.tail == b.tail && a.bad == b.bad
theorem sameR_iff {a b : GRec} : sameR a b = true ↔ a = b := by
  cases a; cases b; simp [sameR, and_assoc]
theorem recs_ext {a b : List GRec} (hl : a.length = b.length) (h : ∀ j : Nat, j < a.length → a[j]?.getD default = b[j]?.getD default) : a = b := by
  apply List.ext_getElem hl
  intro j h1 h2
  have := h j h1
  rwa [List.getElem?_eq_getElem h1, List.getElem?_eq_getElem h2, Option.getD_some, Option.getD_some] at this
attribute [local congr] cg_pw cg_seqI cg_seqE cg_stepI cg_ev cg_evBin cg_condB cg_condV cg_thenQ cg_blockQ cg_onSome cg_onCells cg_onRow cg_onMap cg_onOpt cg_ghosts cg_ghost cg_evCall cg_part cg_rng cg_guardV cg_frzV cg_frpV cg_ownV cg_owcV cg_occV cg_occX cg_resK cg_res1 cg_yldP cg_rndE cg_onlyN cg_onHist
attribute [local irreducible] IntKind.wrap bitsOp Option.getD and or

theorem law16_sameRecords_ret (na nb : Bool) (a b : List GRec) (s : Bool) (hs : s = true ↔ a = b) : Ret E0 F_law16_sameRecords [.list na (recsD a), .list nb (recsD b)] (.bool s) := by
  refine ret_of_pw dec_law16_sameRecords mixed (by simp) fun hwf => ?_
  simp only [wf_int, wf_bool, wf_ints, wf_list, wf_agg, wf_ptr, wf_fn, wf_tup, wf_all_cons, wf_all_nil, wf_all_map, inK_i64, maxLen_eq, List.length_map, ints_len, true_and, and_true, recsD_len] at hwf
  rw [enter_eq]; unfold pc_law16_sameRecords
  by_cases hl : a.length = b.length
  · have hl2 : (a.length : Int) = b.length := by omega
    (try (simp -implicitDefEqProofs only [go_sem, recsD_len, hl2])); repeat' first | with_reducible exact True.intro | with_reducible refine And.intro ?_ ?_ | with_reducible intro _ | (((with_reducible refine vc_b ?_ ?_) <;> intro _) <;> try (simp -implicitDefEqProofs only [go_sem, recsD_len, hl2])) | simp (disch := omega) only [wrapI, wrapU, shl1, shl1', shl1'', shrN, shrN', and_one] | ((with_reducible refine isEx ?_); refine ⟨_, rfl, ?_, ?_⟩)
    all_goals first | omega | (simp; done) | (simp; omega) | skip
    refine pw_loopS (α := Int) (l0 := ?l1) (m0 := ?m1) (fun x => [(5, .d (.int .i64 x))]) (fun x => []) (fun x => (0 ≤ x ∧ x ≤ a.length) ∧ ∀ j : Nat, j < x.toNat → a[j]?.getD default = b[j]?.getD default) (fun x => (a.length - x).toNat) ?a1_0 ?h01 ?he1 ?he21 ?hI1 ?step1
    case h01 => (simp -implicitDefEqProofs only [go_sem, recsD_len]; rfl)
    case he1 => rfl
    case he21 => rfl
    case' step1 => (rintro i hI; try dsimp only at hI)
    case' hI1 => try dsimp only
    · exact ⟨⟨by omega, by omega⟩, fun j hj => by omega⟩
    · obtain ⟨⟨q1, q2⟩, q3⟩ := hI
      by_cases hi : i < a.length
      · have w1 : IntKind.i64.wrap (i + 1) = i + 1 := wrapI _ (by omega)
        have hib : i < b.length := by omega
        obtain ⟨r, hr⟩ : ∃ r, a[i.toNat]?.getD default = r := ⟨_, rfl⟩
        obtain ⟨t, ht⟩ : ∃ t, b[i.toNat]?.getD default = t := ⟨_, rfl⟩
        by_cases he : r = t
        · have hn : ∀ j : Nat, j < (i + 1).toNat → a[j]?.getD default = b[j]?.getD default := fun j hj => by
            rcases (show j < i.toNat ∨ j = i.toNat by omega) with h1 | h1
            · exact q3 j h1
            · rw [h1, hr, ht, he]
          rw [← he] at ht
          (try (simp -implicitDefEqProofs only [go_sem, recsD_len, onSome_recs, hr, ht, recD_eq, recC_eq, recsD_unif, w1, hi, hib, q1])); repeat' first | with_reducible exact True.intro | with_reducible refine And.intro ?_ ?_ | with_reducible intro _ | (((with_reducible refine vc_b ?_ ?_) <;> intro _) <;> try (simp -implicitDefEqProofs only [go_sem, recsD_len, onSome_recs, hr, ht, recD_eq, recC_eq, recsD_unif, w1, hi, hib, q1])) | simp (disch := omega) only [wrapI, wrapU, shl1, shl1', shl1'', shrN, shrN', and_one] | ((with_reducible refine isEx ?_); refine ⟨_, rfl, ?_, ?_⟩)
          all_goals first | omega | (apply hn; assumption) | (simp; done) | skip
        · have hne : ¬ a = b := fun h => he (by rw [← hr, ← ht, h])
          have hsf : s = false := by
            cases s with
            | false => rfl
            | true => exact absurd (hs.1 rfl) hne
          have hd : ¬ (r.num = t.num ∧ r.blk = t.blk ∧ r.val = t.val ∧ r.tail = t.tail ∧ r.bad = t.bad) := fun h => he (GRec.ext' h.1 h.2.1 h.2.2.1 h.2.2.2.1 h.2.2.2.2)
          rw [hsf]
          (try (simp -implicitDefEqProofs only [go_sem, recsD_len, onSome_recs, hr, ht, recD_eq, recC_eq, recsD_unif, hi, hib, q1, hd])); repeat' first | with_reducible exact True.intro | with_reducible refine And.intro ?_ ?_ | with_reducible intro _ | (((with_reducible refine vc_b ?_ ?_) <;> intro _) <;> try (simp -implicitDefEqProofs only [go_sem, recsD_len, onSome_recs, hr, ht, recD_eq, recC_eq, recsD_unif, hi, hib, q1, hd])) | simp (disch := omega) only [wrapI, wrapU, shl1, shl1', shl1'', shrN, shrN', and_one] | ((with_reducible refine isEx ?_); refine ⟨_, rfl, ?_, ?_⟩)
          all_goals first | omega | (simp; done) | skip
      · have he : a = b := recs_ext hl fun j hj => q3 j (by omega)
        rw [hs.2 he]
        (try (simp -implicitDefEqProofs only [go_sem, recsD_len, hi])); repeat' first | with_reducible exact True.intro | with_reducible refine And.intro ?_ ?_ | with_reducible intro _ | (((with_reducible refine vc_b ?_ ?_) <;> intro _) <;> try (simp -implicitDefEqProofs only [go_sem, recsD_len, hi])) | simp (disch := omega) only [wrapI, wrapU, shl1, shl1', shl1'', shrN, shrN', and_one] | ((with_reducible refine isEx ?_); refine ⟨_, rfl, ?_, ?_⟩)
  · have hl2 : ¬ (a.length : Int) = b.length := by omega
    have hne : ¬ a = b := fun h => hl (by rw [h])
    have hsf : s = false := by
      cases s with
      | false => rfl
      | true => exact absurd (hs.1 rfl) hne
    rw [hsf]
    (try (simp -implicitDefEqProofs only [go_sem, recsD_len, hl2])); repeat' first | with_reducible exact True.intro | with_reducible refine And.intro ?_ ?_ | with_reducible intro _ | (((with_reducible refine vc_b ?_ ?_) <;> intro _) <;> try (simp -implicitDefEqProofs only [go_sem, recsD_len, hl2])) | simp (disch := omega) only [wrapI, wrapU, shl1, shl1', shl1'', shrN, shrN', and_one] | ((with_reducible refine isEx ?_); refine ⟨_, rfl, ?_, ?_⟩)
end Go.Pw
end
section
open Go Go.Pw Go.Proofs
namespace Go.Pw
set_option linter.unusedSimpArgs false
set_option linter.unusedVariables false
set_option maxRecDepth 100000
set_option maxHeartbeats 3200000
/-- A log of our own: a box that holds a row of our own. -/
def logV (l : GLog) : List (Nat × Nat × AObj) :=
  [(900000, 0, .cells [.d (.int .i64 l.disk.heads), .d (.int .i64 l.disk.turn), .d (.list l.disk.zn (zpsD l.disk.zones)), .d (.int .i64 l.disk.hskew), .d (.int .i64 l.disk.cskew), .d (.int .i64 l.disk.hlo), .d (.int .i64 l.disk.hhi), .d (.int .i64 l.disk.clo), .d (.int .i64 l.disk.chi), .d (.int .i64 l.blocks), .d (.int .i64 l.from'), .own 901000 0]),
   (901000, 0, .row 40 5 false (recsD l.slots))]
def pd_journal_log_newest : PC :=
  .seq (.reg [] (
    ⟨some 2, none, .zero [.int .i64 0, .int .i64 0, .int .i64 0, .int .i64 0, .bool false], []⟩ ::
    []) [0, 2])
  (.seq (.reg [] (
    ⟨some 6, none, .load true 5, [.k (.d (.ptr [.int .i64 (-1), .int .i64 0, .int .i64 0, .int .i64 0, .bool false]))]⟩ ::
    ⟨some 3, none, .zero [.int .i64 0, .int .i64 0, .int .i64 0, .int .i64 0, .bool false], []⟩ ::
    ⟨none, none, .store 5, [.t 3, .t 6]⟩ ::
    []) [0, 2, 3])
  (.seq (.seq (.reg [] (
    ⟨some 7, none, .mov, [.t 0]⟩ ::
    ⟨some 8, none, .nilck, [.t 7]⟩ ::
    ⟨some 9, none, .faddr 0, [.t 8]⟩ ::
    ⟨some 10, none, .faddr 11, [.t 9]⟩ ::
    ⟨some 11, none, .load false 1, [.t 10]⟩ ::
    ⟨some 12, none, .len false, [.t 11]⟩ ::
    ⟨some 13, none, .mov, [.k (.d (.int .i64 0))]⟩ ::
    []) [2, 3, 11, 12, 13])
  (.block 0
    (.loop [] [2, 3, 11, 12, 13] [2, 3, 900000, 901000]
      (.seq (.reg [] (
        ⟨some 14, none, .bin .lss, [.t 13, .t 12]⟩ ::
        []) [2, 3, 11, 12, 13, 14])
      (.seq (.cond (.t 14)
        (.skip)
        (.exit 0))
      (.seq (.block 1
        (.seq (.reg [] (
          ⟨some 15, none, .iaddrS 5, [.t 11, .t 13]⟩ ::
          ⟨some 16, none, .load true 5, [.t 15]⟩ ::
          ⟨some 5, none, .zero [.int .i64 0, .int .i64 0, .int .i64 0, .int .i64 0, .bool false], []⟩ ::
          ⟨none, none, .store 5, [.t 5, .t 16]⟩ ::
          []) [2, 3, 5, 11, 12, 13])
        (.seq (.reg [] (
          ⟨some 17, none, .faddr 4, [.t 5]⟩ ::
          ⟨some 18, none, .load false 1, [.t 17]⟩ ::
          ⟨some 19, none, .un .not, [.t 18]⟩ ::
          ⟨some 20, none, .mov, [.t 19]⟩ ::
          ⟨some 21, some (20, true), .faddr 0, [.t 5]⟩ ::
          ⟨some 22, some (20, true), .load false 1, [.t 21]⟩ ::
          ⟨some 23, some (20, true), .faddr 0, [.t 3]⟩ ::
          ⟨some 24, some (20, true), .load false 1, [.t 23]⟩ ::
          ⟨some 25, some (20, true), .bin .gtr, [.t 22, .t 24]⟩ ::
          ⟨some 26, none, .pick, [.t 20, .t 25, .k (.d (.bool false))]⟩ ::
          []) [2, 3, 5, 11, 12, 13, 26])
        (.cond (.t 26)
          (.reg [] (
            ⟨some 27, none, .load true 5, [.t 5]⟩ ::
            ⟨none, none, .store 5, [.t 3, .t 27]⟩ ::
            []) [2, 3, 11, 12, 13])
          (.skip)))))
      (.reg [] (
        ⟨some 28, none, .bin .add, [.t 13, .k (.d (.int .i64 1))]⟩ ::
        ⟨some 13, none, .mov, [.t 28]⟩ ::
        []) [2, 3, 11, 12, 13])))))))
  (.seq (.reg [] (
    ⟨some 29, none, .load true 5, [.t 3]⟩ ::
    ⟨none, none, .store 5, [.t 2, .t 29]⟩ ::
    []) [2])
  (.ret))))
theorem ded_journal_log_newest : Fun E0 F_journal_log_newest pd_journal_log_newest [.c 2 40 true 5] 30 := fun_of_dec (fl := []) (by kernel_rfl)
attribute [local congr] cg_pw cg_seqI cg_seqE cg_stepI cg_ev cg_evBin cg_condB cg_condV cg_thenQ cg_blockQ cg_onSome cg_onCells cg_onRow cg_onMap cg_onOpt cg_ghosts cg_ghost cg_evCall cg_part cg_rng cg_guardV cg_frzV cg_frpV cg_ownV cg_owcV cg_occV cg_occX cg_resK cg_res1 cg_yldP cg_rndE cg_onlyN cg_onHist
attribute [local irreducible] IntKind.wrap bitsOp Option.getD and or
theorem own_newest (l : GLog) (hl : l.slots.length ≤ 1000) : CallM E0 F_journal_log_newest (logV l) [.ptr 900000 0 0] (logV l) (.d (recD l.newest)) := by
  unfold logV
  refine callM_of_pw ded_journal_log_newest mixed (by simp) (by simp [okV0, nodupB, lim, AObj.isHist]) (by simp [hasN]) fun hwf hwo => ?_
  rw [enterM_eq]; unfold pd_journal_log_newest GLog.newest
  (try (simp -implicitDefEqProofs only [go_sem])); repeat' first | with_reducible exact True.intro | with_reducible refine And.intro ?_ ?_ | with_reducible intro _ | (((with_reducible refine vc_b ?_ ?_) <;> intro _) <;> try (simp -implicitDefEqProofs only [go_sem])) | simp (disch := omega) only [wrapI, wrapU, shl1, shl1', shl1'', shrN, shrN', and_one] | ((with_reducible refine isEx6 ?_); refine ⟨(_, _, _, _, _, _), rfl, ?_, ?_⟩)
  all_goals first | omega | (simp; done) | (simp; omega) | skip
  refine pw_loopS (α := Int × Int × Int × Int × Int × Bool) (l0 := ?l1) (m0 := ?m1) (fun x => [(13, .d (.int .i64 x.1))]) (fun x => [(3, .cells [.d (.int .i64 x.2.1), .d (.int .i64 x.2.2.1), .d (.int .i64 x.2.2.2.1), .d (.int .i64 x.2.2.2.2.1), .d (.bool x.2.2.2.2.2)])]) (fun x => (0 ≤ x.1 ∧ x.1 ≤ l.slots.length) ∧ newN l.slots x.1.toNat = ⟨x.2.1, x.2.2.1, x.2.2.2.1, x.2.2.2.2.1, x.2.2.2.2.2⟩) (fun x => (l.slots.length - x.1).toNat) (?a1_0, ?a1_1, ?a1_2, ?a1_3, ?a1_4, ?a1_5) ?h01 ?he1 ?he21 ?hI1 ?step1
  case h01 => (simp -implicitDefEqProofs only [go_sem, recsD_len]; rfl)
  case he1 => rfl
  case he21 => rfl
  case' step1 => (rintro ⟨i, a, b, c, d, e⟩ hI; try dsimp only at hI)
  case' hI1 => try dsimp only
  · exact ⟨⟨by omega, by omega⟩, rfl⟩
  · obtain ⟨⟨h1, h2⟩, h3⟩ := hI
    by_cases hi : i < l.slots.length
    · have w1 : IntKind.i64.wrap (i + 1) = i + 1 := wrapI _ (by omega)
      have hn := newN_next l.slots i h1
      rw [h3] at hn
      obtain ⟨r, hr⟩ : ∃ r, l.slots[i.toNat]?.getD default = r := ⟨_, rfl⟩
      rw [hr] at hn
      cases hb : r.bad with
      | true =>
        rw [hb] at hn
        simp only [Bool.not_true, Bool.false_and, Bool.false_eq_true, if_false] at hn
        (try (simp -implicitDefEqProofs only [go_sem, recsD_len, onSome_recs, hr, recD_eq, recC_eq, recsD_unif, hb, w1])); repeat' first | with_reducible exact True.intro | with_reducible refine And.intro ?_ ?_ | with_reducible intro _ | (((with_reducible refine vc_b ?_ ?_) <;> intro _) <;> try (simp -implicitDefEqProofs only [go_sem, recsD_len, onSome_recs, hr, recD_eq, recC_eq, recsD_unif, hb, w1])) | simp (disch := omega) only [wrapI, wrapU, shl1, shl1', shl1'', shrN, shrN', and_one] | ((with_reducible refine isEx6 ?_); refine ⟨(_, _, _, _, _, _), rfl, ?_, ?_⟩)
        all_goals first | omega | exact hn | skip
      | false =>
        rw [hb] at hn
        by_cases hlt : a < r.num
        · simp only [Bool.not_false, Bool.true_and, decide_eq_true hlt, if_true] at hn
          (try (simp -implicitDefEqProofs only [go_sem, recsD_len, onSome_recs, hr, recD_eq, recC_eq, recsD_unif, hb, w1, hlt])); repeat' first | with_reducible exact True.intro | with_reducible refine And.intro ?_ ?_ | with_reducible intro _ | (((with_reducible refine vc_b ?_ ?_) <;> intro _) <;> try (simp -implicitDefEqProofs only [go_sem, recsD_len, onSome_recs, hr, recD_eq, recC_eq, recsD_unif, hb, w1, hlt])) | simp (disch := omega) only [wrapI, wrapU, shl1, shl1', shl1'', shrN, shrN', and_one] | ((with_reducible refine isEx6 ?_); refine ⟨(_, _, _, _, _, _), rfl, ?_, ?_⟩)
          all_goals first | omega | (rw [hn, ← hb]) | skip
        · simp only [Bool.not_false, Bool.true_and, decide_eq_false hlt, Bool.false_eq_true, if_false] at hn
          (try (simp -implicitDefEqProofs only [go_sem, recsD_len, onSome_recs, hr, recD_eq, recC_eq, recsD_unif, hb, w1, hlt])); repeat' first | with_reducible exact True.intro | with_reducible refine And.intro ?_ ?_ | with_reducible intro _ | (((with_reducible refine vc_b ?_ ?_) <;> intro _) <;> try (simp -implicitDefEqProofs only [go_sem, recsD_len, onSome_recs, hr, recD_eq, recC_eq, recsD_unif, hb, w1, hlt])) | simp (disch := omega) only [wrapI, wrapU, shl1, shl1', shl1'', shrN, shrN', and_one] | ((with_reducible refine isEx6 ?_); refine ⟨(_, _, _, _, _, _), rfl, ?_, ?_⟩)
          all_goals first | omega | exact hn | skip
    · have hie : i.toNat = l.slots.length := by omega
      rw [hie] at h3
      rw [h3]
      (try (simp -implicitDefEqProofs only [go_sem, recsD_len, hi, recD_eq, recC_eq])); repeat' first | with_reducible exact True.intro | with_reducible refine And.intro ?_ ?_ | with_reducible intro _ | (((with_reducible refine vc_b ?_ ?_) <;> intro _) <;> try (simp -implicitDefEqProofs only [go_sem, recsD_len, hi, recD_eq, recC_eq])) | simp (disch := omega) only [wrapI, wrapU, shl1, shl1', shl1'', shrN, shrN', and_one] | ((with_reducible refine isEx6 ?_); refine ⟨(_, _, _, _, _, _), rfl, ?_, ?_⟩)
      all_goals first | omega | (simp; done) | (simp; omega) | skip

theorem own_slot (l : GLog) (n : Int) (hl : 1 ≤ l.slots.length) (h0 : 0 ≤ n) : CallM E0 F_journal_log_slot (logV l) [.ptr 900000 0 0, .d (.int .i64 n)] (logV l) (.rptr 901000 0 5 (n.tmod l.slots.length).toNat 0) := by
  unfold logV at *
  refine callM_of_pw dec_journal_log_slot mixed (by simp) (by simp [okV0, nodupB, lim, AObj.isHist]) (by simp [hasN]) fun hwf hwo => ?_
  rw [enterM_eq]; unfold pc_journal_log_slot
  have e5 : ¬ (l.slots.length : Int) = 0 := by omega
  have h1 := Int.tmod_nonneg (l.slots.length : Int) h0
  have h2 := Int.tmod_lt_of_pos n (b := (l.slots.length : Int)) (by omega)
  (try (simp -implicitDefEqProofs only [go_sem, recsD_len, recsD_unif, e5, h1, h2])); repeat' first | with_reducible exact True.intro | with_reducible refine And.intro ?_ ?_ | with_reducible intro _ | (((with_reducible refine vc_b ?_ ?_) <;> intro _) <;> try (simp -implicitDefEqProofs only [go_sem, recsD_len, recsD_unif, e5, h1, h2])) | simp (disch := omega) only [wrapI, wrapU, shl1, shl1', shl1'', shrN, shrN', and_one] 
end Go.Pw
end
section
open Go Go.Pw Go.Proofs
namespace Go.Pw
set_option linter.unusedSimpArgs false
set_option linter.unusedVariables false
set_option maxRecDepth 100000
set_option maxHeartbeats 3200000
theorem recsD_eqnil (l : List GRec) : (recsD l = []) = (l = []) := by cases l <;> simp [recsD]
/-- The same log with slots of its own. -/
def GLog.ns (l : GLog) : GLog := { l with sn := false }
theorem ns_good {l : GLog} (g : l.Good) : l.ns.Good := ⟨g.d, g.b1, g.b2, g.m1, g.m2, g.f1, g.f2, g.s⟩
theorem ns_C (l : GLog) : logC l.ns = [.int .i64 l.disk.heads, .int .i64 l.disk.turn, .list l.disk.zn (zpsD l.disk.zones), .int .i64 l.disk.hskew, .int .i64 l.disk.cskew, .int .i64 l.disk.hlo, .int .i64 l.disk.hhi, .int .i64 l.disk.clo, .int .i64 l.disk.chi, .int .i64 l.blocks, .int .i64 l.from', .list false (recsD l.slots)] := rfl
theorem ns_newest (l : GLog) : Ret E0 F_journal_log_newest [.ptr (logC l.ns)] (recD l.newest) := journal_newest_ret l.ns
theorem ns_limit (l : GLog) (g : l.Good) : Ret E0 F_journal_log_limit [.ptr (logC l.ns)] (.int .i64 (l.newest.tail + l.slots.length)) := journal_limit_ret l.ns (ns_good g)
attribute [local congr] cg_pw cg_seqI cg_seqE cg_stepI cg_ev cg_evBin cg_condB cg_condV cg_thenQ cg_blockQ cg_onSome cg_onCells cg_onRow cg_onMap cg_onOpt cg_ghosts cg_ghost cg_evCall cg_part cg_rng cg_guardV cg_frzV cg_frpV cg_ownV cg_owcV cg_occV cg_occX cg_resK cg_res1 cg_yldP cg_rndE cg_onlyN cg_onHist
attribute [local irreducible] IntKind.wrap bitsOp Option.getD and or

theorem own_kept (l : GLog) (g : l.Good) (hf : l.full = true) : CallM E0 F_journal_log_kept (logV l) [.ptr 900000 0 0] (logV l) (.tup [.d (.list l.kept.isEmpty (recsD l.kept)), .d (.bool true)]) := by
  have cs := fun n h => own_slot l n (by have := g.m1; omega) h
  unfold logV at *
  refine callM_of_pw dec_journal_log_kept mixed (by simp) (by simp [okV0, nodupB, lim, AObj.isHist]) (by simp [hasN]) fun hwf hwo => ?_
  have c1 := ns_newest l
  obtain ⟨n1, n2, n3⟩ := newest_good g
  have m1 := g.m1; have m2 := g.m2
  obtain ⟨⟨na, nb, nc, nd, ne⟩, hR⟩ : ∃ R, l.newest = R := ⟨_, rfl⟩
  have hN : l.newest.num = na := by rw [hR]
  have hT : l.newest.tail = nd := by rw [hR]
  rw [hR, recD_eq, recC_eq, ns_C] at c1
  rw [hN, hT] at n3
  rw [hN] at n2
  rw [enterM_eq]; unfold pc_journal_log_kept
  (try (simp -implicitDefEqProofs only [go_sem])); repeat' first | with_reducible exact True.intro | with_reducible refine And.intro ?_ ?_ | with_reducible intro _ | (((with_reducible refine isCall ?_); first | refine call_s (c1) rfl (by simp [D.flat, D.flat1, D.prim]) ?_) <;> try (simp -implicitDefEqProofs only [go_sem])) | (((with_reducible refine vc_b ?_ ?_) <;> intro _) <;> try (simp -implicitDefEqProofs only [go_sem])) | simp (disch := omega) only [wrapI, wrapU, shl1, shl1', shl1'', shrN, shrN', and_one] | ((with_reducible refine isEx3 ?_); refine ⟨(_, _, _), rfl, ?_, ?_⟩)
  all_goals first | omega | (simp; done) | (simp; omega) | skip
  refine pw_loopS (α := Int × (List GRec) × Bool) (l0 := ?l1) (m0 := ?m1) (fun x => [(5, .d (.int .i64 x.1))]) (fun x => [(33, .row 40 5 x.2.2 (recsD x.2.1))]) (fun x => (nd ≤ x.1 ∧ x.1 ≤ na + 1) ∧ x.2.1 = l.keptN nd (x.1 - nd).toNat ∧ x.2.2 = x.2.1.isEmpty ∧ l.whole nd (x.1 - nd).toNat = true) (fun x => (na + 1 - x.1).toNat) (?a1_0, [], true) ?h01 ?he1 ?he21 ?hI1 ?step1
  case h01 => (simp -implicitDefEqProofs only [go_sem, recsD_len]; rfl)
  case he1 => rfl
  case he21 => rfl
  case' step1 => (rintro ⟨n, out, b⟩ hI; try dsimp only at hI)
  case' hI1 => try dsimp only
  · refine ⟨⟨by omega, by omega⟩, ?_, rfl, ?_⟩
    · rw [Int.sub_self]; rfl
    · rw [Int.sub_self]; rfl
  · obtain ⟨⟨q1, q2⟩, q3, q4, q5⟩ := hI
    by_cases hn : n ≤ na
    · have c2 := cs n (by omega)
      have w1 : IntKind.i64.wrap (n + 1) = n + 1 := wrapI _ (by omega)
      have k1 := whole_next (l := l) q1
      have k2 := keptN_next (l := l) q1
      have hlen := keptN_len l nd (n - nd).toNat
      have hfl := hf
      unfold GLog.full at hfl
      rw [hT] at hfl
      have hat := whole_at hfl (i := (n - nd).toNat) (by unfold GLog.many; omega)
      rw [show nd + ((n - nd).toNat : Int) = n by omega] at hat
      rw [← q3] at hlen k2
      rw [q5] at k1
      have hemp := isEmpty_snocR out
      have t1 := tmod_range (n := n) (m := l.slots.length) (by omega) (by omega)
      obtain ⟨r, hr⟩ : ∃ r, l.at' n = r := ⟨_, rfl⟩
      have hr' : l.slots[(n.tmod l.slots.length).toNat]?.getD default = r := hr
      rw [hr] at k1 k2 hat
      have hb := hat.1
      have hx := hat.2
      rw [hb, decide_eq_true hx] at k1
      have hnx : l.keptN nd (n + 1 - nd).toNat = out ++ [⟨r.num, r.blk, r.val, r.tail, false⟩] := by rw [k2, ← hb]
      have k1' : l.whole nd (n + 1 - nd).toNat = true := by rw [k1]; simp
      obtain ⟨P, hP⟩ : ∃ P, (n.tmod l.slots.length).toNat = P := ⟨_, rfl⟩
      rw [hP] at c2 t1 hr'
      have hPl := t1.1
      (try (simp -implicitDefEqProofs only [go_sem, hn, eq_true hx, recsD_len, onSome_recs, hr', hb, hPl, recD_eq, recC_eq, recsD_unif, recsD_snoc, w1])); repeat' first | with_reducible exact True.intro | with_reducible refine And.intro ?_ ?_ | with_reducible intro _ | (((with_reducible refine isCall ?_); first | (refine call_m ([((900000, 0), (900000, 0)), ((901000, 0), (901000, 0))]) ([((900000, 0), (900000, 0)), ((901000, 0), (901000, 0))]) (c2) (by repeat' first | exact True.intro | exact rfl | refine And.intro ?_ ?_) (by simp [Handed, Ren.get, AObj.ren, AV.ren, AV.ren.renL, View.get, lookO, callF, newS, View.reach, AV.sites, AV.sites.sitesL, View.osites]) (by simp [namesOk, hasN, nodupB, Ren.get, newS, lim, upd]) (by rfl) (by simp only [backC, Ren.get, AObj.ren, AV.ren, AV.ren.renL, and_self, and_true, true_and, if_true, reduceIte]; rfl) ?_)) <;> try (simp -implicitDefEqProofs only [go_sem, hn, eq_true hx, recsD_len, onSome_recs, hr', hb, hPl, recD_eq, recC_eq, recsD_unif, recsD_snoc, w1])) | (((with_reducible refine vc_b ?_ ?_) <;> intro _) <;> try (simp -implicitDefEqProofs only [go_sem, hn, eq_true hx, recsD_len, onSome_recs, hr', hb, hPl, recD_eq, recC_eq, recsD_unif, recsD_snoc, w1])) | simp (disch := omega) only [wrapI, wrapU, shl1, shl1', shl1'', shrN, shrN', and_one] | ((with_reducible refine isEx3 ?_); refine ⟨(_, _, _), rfl, ?_, ?_⟩)
      all_goals first | omega | exact hnx.symm | exact k1' | exact (hemp _).symm | skip
    · have hne : n = na + 1 := by omega
      have hm : (n - nd).toNat = l.many := by unfold GLog.many; omega
      rw [hm] at q3 q5
      have ha : l.kept = out := by unfold GLog.kept; rw [q3, hT]
      rw [ha, ← q4]
      (try (simp -implicitDefEqProofs only [go_sem, hn])); repeat' first | with_reducible exact True.intro | with_reducible refine And.intro ?_ ?_ | with_reducible intro _ | (((with_reducible refine vc_b ?_ ?_) <;> intro _) <;> try (simp -implicitDefEqProofs only [go_sem, hn])) | simp (disch := omega) only [wrapI, wrapU, shl1, shl1', shl1'', shrN, shrN', and_one] | ((with_reducible refine isEx3 ?_); refine ⟨(_, _, _), rfl, ?_, ?_⟩)

theorem Clone_rec_own (nl : Bool) (xs : List GRec) (hw : nl = true → xs = []) (hl : xs.length ≤ 1000) (hne : 0 < xs.length) : CallM E0 F_slices_Clone_api_Record_api_Record [] [.d (.list nl (recsD xs))] [(7, 1, .row 40 5 false (recsD xs))] (.own 7 1) := by
  refine callM_of_pw dec_slices_Clone_api_Record_api_Record mixed (by simp) (by simp [okV0, nodupB, lim]) (by simp [hasN]) fun hwf hwo => ?_
  rw [enterM_eq]; unfold pc_slices_Clone_api_Record_api_Record
  have hn : ¬ xs = [] := by intro h; rw [h] at hne; simp at hne
  have hnl : nl = false := by cases nl with | true => exact absurd (hw rfl) hn | false => rfl
  subst hnl
  (try (simp -implicitDefEqProofs only [go_sem, recsD_len, recsD_unif, recsD_eqnil, hn])); repeat' first | with_reducible exact True.intro | with_reducible refine And.intro ?_ ?_ | with_reducible intro _ | (((with_reducible refine vc_b ?_ ?_) <;> intro _) <;> try (simp -implicitDefEqProofs only [go_sem, recsD_len, recsD_unif, recsD_eqnil, hn])) | simp (disch := omega) only [wrapI, wrapU, shl1, shl1', shl1'', shrN, shrN', and_one] 
  all_goals first | omega | rfl

theorem Clone_own_own (xs : List GRec) (hl : xs.length ≤ 1000) (hne : 0 < xs.length) : CallM E0 F_slices_Clone_api_Record_api_Record [(900000, 0, .row 40 5 false (recsD xs))] [.own 900000 0] [(900000, 0, .row 40 5 false (recsD xs)), (7, 1, .row 40 5 false (recsD xs))] (.own 7 1) := by
  refine callM_of_pw dec_slices_Clone_api_Record_api_Record mixed (by simp) (by simp [okV0, nodupB, lim, AObj.isHist]) (by simp [hasN]) fun hwf hwo => ?_
  rw [enterM_eq]; unfold pc_slices_Clone_api_Record_api_Record
  have hn : ¬ xs = [] := by intro h; rw [h] at hne; simp at hne
  (try (simp -implicitDefEqProofs only [go_sem, recsD_len, recsD_unif, recsD_eqnil, hn])); repeat' first | with_reducible exact True.intro | with_reducible refine And.intro ?_ ?_ | with_reducible intro _ | (((with_reducible refine vc_b ?_ ?_) <;> intro _) <;> try (simp -implicitDefEqProofs only [go_sem, recsD_len, recsD_unif, recsD_eqnil, hn])) | simp (disch := omega) only [wrapI, wrapU, shl1, shl1', shl1'', shrN, shrN', and_one] 
  all_goals first | omega | rfl
end Go.Pw
end
