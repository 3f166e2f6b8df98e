/- A part of the proof. -/
import Derived.Test.YtiphmemigdplgaaDoorPgJournalOa
set_option linter.all false
section
open Go Go.Pw Go.Proofs
namespace Go.Pw
set_option linter.unusedSimpArgs false
set_option linter.unusedVariables false
set_option maxRecDepth 100000
set_option maxHeartbeats 6400000
/-- The name of the row that the loop ends with. -/
def allR (n : Nat) : Nat := if n = 0 then 11 else if n % 2 = 1 then 24 else 10024
abbrev bx6 (l : GLog) (o : Nat) : AObj := .cells [.d (.int .i64 l.disk.heads), .d (.int .i64 l.disk.turn), .d (.list false (zpsD l.disk.zones)), .d (.int .i64 l.disk.hskew), .d (.int .i64 l.disk.cskew), .d (.int .i64 l.disk.hlo), .d (.int .i64 l.disk.hhi), .d (.int .i64 l.disk.clo), .d (.int .i64 l.disk.chi), .d (.int .i64 l.blocks), .d (.int .i64 l.from'), .own o 0]
abbrev bx4 : AObj := .cells [.d (.int .i64 0), .d (.int .i64 0), .d (.list true []), .d (.int .i64 0), .d (.int .i64 0), .d (.int .i64 0), .d (.int .i64 0), .d (.int .i64 0), .d (.int .i64 0), .d (.int .i64 0), .d (.int .i64 0), .d (.list true [])]
abbrev rw40 (s : List GRec) : AObj := .row 40 5 false (recsD s)
def allO (l : GLog) (ph : Nat) (s st : List GRec) : List (Nat × (Nat × AObj)) := match ph with
  | 0 => [(4, (0, bx4)), (6, (0, bx6 l 11)), (11, (0, rw40 s))]
  | 1 => [(4, (0, bx4)), (6, (0, bx6 l 24)), (11, (0, rw40 l.slots)), (24, (0, rw40 s))]
  | 2 => [(4, (0, bx4)), (6, (0, bx6 l 10024)), (11, (0, rw40 l.slots)), (24, (0, rw40 st)), (10024, (0, rw40 s))]
  | _ => [(4, (0, bx4)), (6, (0, bx6 l 24)), (11, (0, rw40 l.slots)), (24, (0, rw40 s)), (10024, (0, rw40 st))]
def allS (l : GLog) (nw : Bool) (es : List GWr) (x : Nat × Int × List GRec × List GRec) : PSt :=
  ⟨look [(1, .d (.list nw (wrsD es))), (4, .ptr 4 0 0), (6, .ptr 6 0 0), (7, .d (.int .i64 x.2.1))], ⟨lookO (allO l x.1 x.2.2.1 x.2.2.2), fun _ => 1⟩⟩
theorem allS_0 (l : GLog) (nw : Bool) (es : List GWr) (i : Int) (s st : List GRec) : allS l nw es (0, i, s, st) = ⟨look [(1, .d (.list nw (wrsD es))), (4, .ptr 4 0 0), (6, .ptr 6 0 0), (7, .d (.int .i64 i))], ⟨lookO [(4, (0, bx4)), (6, (0, bx6 l 11)), (11, (0, rw40 s))], fun _ => 1⟩⟩ := rfl
theorem allS_1 (l : GLog) (nw : Bool) (es : List GWr) (i : Int) (s st : List GRec) : allS l nw es (1, i, s, st) = ⟨look [(1, .d (.list nw (wrsD es))), (4, .ptr 4 0 0), (6, .ptr 6 0 0), (7, .d (.int .i64 i))], ⟨lookO [(4, (0, bx4)), (6, (0, bx6 l 24)), (11, (0, rw40 l.slots)), (24, (0, rw40 s))], fun _ => 1⟩⟩ := rfl
theorem allS_2 (l : GLog) (nw : Bool) (es : List GWr) (i : Int) (s st : List GRec) : allS l nw es (2, i, s, st) = ⟨look [(1, .d (.list nw (wrsD es))), (4, .ptr 4 0 0), (6, .ptr 6 0 0), (7, .d (.int .i64 i))], ⟨lookO [(4, (0, bx4)), (6, (0, bx6 l 10024)), (11, (0, rw40 l.slots)), (24, (0, rw40 st)), (10024, (0, rw40 s))], fun _ => 1⟩⟩ := rfl
theorem allS_3 (l : GLog) (nw : Bool) (es : List GWr) (i : Int) (s st : List GRec) : allS l nw es (3, i, s, st) = ⟨look [(1, .d (.list nw (wrsD es))), (4, .ptr 4 0 0), (6, .ptr 6 0 0), (7, .d (.int .i64 i))], ⟨lookO [(4, (0, bx4)), (6, (0, bx6 l 24)), (11, (0, rw40 l.slots)), (24, (0, rw40 s)), (10024, (0, rw40 st))], fun _ => 1⟩⟩ := rfl
/-- The phases. -/
def phsP (ph : Nat) (i : Int) : Prop := (ph = 0 ∧ i = 0) ∨ (ph = 1 ∧ i = 1) ∨ (ph = 2 ∧ 2 ≤ i ∧ i % 2 = 0) ∨ (ph = 3 ∧ 3 ≤ i ∧ i % 2 = 1)
attribute [local congr] cg_pw cg_seqI cg_seqE cg_stepI cg_ev cg_evBin cg_condB cg_condV cg_thenQ cg_blockQ cg_onSome cg_onCells cg_onRow cg_onMap cg_onOpt cg_ghosts cg_ghost cg_evCall cg_part cg_rng cg_guardV cg_frzV cg_frpV cg_ownV cg_owcV cg_occV cg_occX cg_resK cg_res1 cg_yldP cg_rndE cg_onlyN cg_onHist
attribute [local irreducible] IntKind.wrap bitsOp Option.getD and or

theorem own_all (l : GLog) (g : l.Good) (nw : Bool) (es : List GWr) (hlw : (es.length : Int) ≤ 9223372036854775807) (hE : errN l.blocks l.slots es es.length = 0) :
    CallM E0 F_ref16_all [] [.d (logD l), .d (.list nw (wrsD es))] [(allR es.length, 0, .row 40 5 false (recsD (putN l.slots es es.length)))] (.tup [logA l.cpy (.own (allR es.length) 0), .d (.int .i64 0)]) := by
  have m1 := g.m1; have m2 := g.m2
  have z2 := (good_of g.d).z2
  have gc := cpy_good' g
  have c1 := own_Copy l (by omega) (by omega) (by omega)
  unfold logA at *
  simp only [GLog.cpy, GDisk.cp] at c1 ⊢
  obtain ⟨R, hR⟩ : ∃ R, allR es.length = R := ⟨_, rfl⟩
  rw [hR]
  refine callM_of_pw dec_ref16_all mixed (by simp) (by simp [okV0, nodupB, lim, AObj.isHist]) (by simp [hasN]) fun hwf hwo => ?_
  rw [enterM_eq]; unfold pc_ref16_all
  (try (simp -implicitDefEqProofs only [go_sem, logD_eq, logC_eq])); repeat' first | with_reducible exact True.intro | with_reducible refine And.intro ?_ ?_ | with_reducible intro _ | (((with_reducible refine isCall ?_); first | (refine call_m ([]) ([((12, 1), (11, 1))]) (c1) (by repeat' first | exact True.intro | exact rfl | refine And.intro ?_ ?_) (by simp [Handed, Ren.get, AObj.ren, AV.ren, AV.ren.renL, View.get, lookO, callF, newS, View.reach, AV.sites, AV.sites.sitesL, View.osites]) (by simp [namesOk, hasN, nodupB, Ren.get, newS, lim, upd]) (by rfl) (by simp only [backC, Ren.get, AObj.ren, AV.ren, AV.ren.renL, and_self, and_true, true_and, if_true, reduceIte]; rfl) ?_)) <;> try (simp -implicitDefEqProofs only [go_sem, logD_eq, logC_eq])) | (((with_reducible refine vc_b ?_ ?_) <;> intro _) <;> try (simp -implicitDefEqProofs only [go_sem, logD_eq, logC_eq])) | simp (disch := omega) only [wrapI, wrapU, shl1, shl1', shl1'', shrN, shrN', and_one] 
  all_goals (try omega)
  refine pw_loopI (allS l nw es) (fun x => (0 ≤ x.2.1 ∧ x.2.1 ≤ es.length) ∧ x.2.2.1 = putN l.slots es x.2.1.toNat ∧ phsP x.1 x.2.1) (fun x => (es.length - x.2.1).toNat) (0, 0, l.slots, l.slots) ?h0 ?hI ?step
  case h0 => (simp -implicitDefEqProofs only [go_sem, recsD_len, wrsD_len]; rfl)
  case hI => exact ⟨⟨Int.le_refl _, show (0 : Int) ≤ es.length by omega⟩, rfl, .inl ⟨rfl, rfl⟩⟩
  case step =>
    rintro ⟨ph, i, s, st⟩ ⟨⟨q1, q2⟩, q3, q5⟩
    dsimp only at q1 q2 q3 q5
    have q4 : errN l.blocks l.slots es i.toNat = 0 := errN_zero hE (by omega)
    have fin : ∀ (X : PSt), (∃ y, X = allS l nw es y ∧ ((0 ≤ y.2.1 ∧ y.2.1 ≤ es.length) ∧ y.2.2.1 = putN l.slots es y.2.1.toNat ∧ phsP y.1 y.2.1) ∧ (es.length - y.2.1).toNat < (es.length - i).toNat) → ∃ y, X = allS l nw es y ∧ ((0 ≤ y.2.1 ∧ y.2.1 ≤ es.length) ∧ y.2.2.1 = putN l.slots es y.2.1.toNat ∧ phsP y.1 y.2.1) ∧ (es.length - y.2.1).toNat < (es.length - i).toNat := fun X h => h
    by_cases hi : i < es.length
    · have w1 : IntKind.i64.wrap (i + 1) = i + 1 := wrapI _ (by omega)
      have e2 := putN_next l.slots es i q1
      have h9 := errN_step hE (show i.toNat < es.length by omega)
      obtain ⟨x, hx⟩ : ∃ x, es[i.toNat]?.getD default = x := ⟨_, rfl⟩
      rw [hx, ← q3] at e2 h9
      have gs : (l.cpy.setS s).Good := by rw [q3]; exact putN_good (l := l.cpy) gc es i.toNat q4
      have c2 := own_one (l.cpy.setS s) gs x h9
      unfold logA at c2
      simp only [GLog.setS, GLog.cpy, GDisk.cp] at c2
      obtain ⟨s', hs'⟩ : ∃ s', putS s x = s' := ⟨_, rfl⟩
      rw [hs'] at c2 e2
      unfold phsP at q5
      rcases q5 with ⟨rfl, q6⟩ | ⟨rfl, q6⟩ | ⟨rfl, q6, q7⟩ | ⟨rfl, q6, q7⟩
      · have hs0 : s = l.slots := by rw [q3, q6]; rfl
        rw [allS_0]
        rw [hs0] at c2 ⊢
        (try (simp -implicitDefEqProofs only [go_sem, wrsD_len, onSome_wrs, wrsD_unif, wrD_eq, wrC_eq, hx, hi, q1, w1])); repeat' first | with_reducible exact True.intro | with_reducible refine And.intro ?_ ?_ | with_reducible intro _ | (((with_reducible refine isCall ?_); first | (refine call_m ([((901000, 0), (11, 0))]) ([((901000, 0), (11, 0)), ((47, 1), (24, 1))]) (c2) (by repeat' first | exact True.intro | exact rfl | refine And.intro ?_ ?_) (by simp [Handed, Ren.get, AObj.ren, AV.ren, AV.ren.renL, View.get, lookO, callF, newS, View.reach, AV.sites, AV.sites.sitesL, View.osites]) (by simp [namesOk, hasN, nodupB, Ren.get, newS, lim, upd]) (by rfl) (by simp only [backC, Ren.get, AObj.ren, AV.ren, AV.ren.renL, and_self, and_true, true_and, if_true, reduceIte]; rfl) ?_)) <;> try (simp -implicitDefEqProofs only [go_sem, wrsD_len, onSome_wrs, wrsD_unif, wrD_eq, wrC_eq, hx, hi, q1, w1])) | (((with_reducible refine vc_b ?_ ?_) <;> intro _) <;> try (simp -implicitDefEqProofs only [go_sem, wrsD_len, onSome_wrs, wrsD_unif, wrD_eq, wrC_eq, hx, hi, q1, w1])) | simp (disch := omega) only [wrapI, wrapU, shl1, shl1', shl1'', shrN, shrN', and_one] 
        all_goals first | omega | skip
        refine ⟨(1, i + 1, s', s'), rfl, ⟨⟨show (0 : Int) ≤ i + 1 by omega, show i + 1 ≤ (es.length : Int) by omega⟩, e2.symm, show phsP 1 (i + 1) from by unfold phsP; omega⟩, show ((es.length : Int) - (i + 1)).toNat < ((es.length : Int) - i).toNat by omega⟩
      · rw [allS_1]
        (try (simp -implicitDefEqProofs only [go_sem, wrsD_len, onSome_wrs, wrsD_unif, wrD_eq, wrC_eq, hx, hi, q1, w1])); repeat' first | with_reducible exact True.intro | with_reducible refine And.intro ?_ ?_ | with_reducible intro _ | (((with_reducible refine isCall ?_); first | (refine call_m ([((901000, 0), (24, 0))]) ([((901000, 0), (24, 0)), ((47, 1), (10024, 1))]) (c2) (by repeat' first | exact True.intro | exact rfl | refine And.intro ?_ ?_) (by simp [Handed, Ren.get, AObj.ren, AV.ren, AV.ren.renL, View.get, lookO, callF, newS, View.reach, AV.sites, AV.sites.sitesL, View.osites]) (by simp [namesOk, hasN, nodupB, Ren.get, newS, lim, upd]) (by rfl) (by simp only [backC, Ren.get, AObj.ren, AV.ren, AV.ren.renL, and_self, and_true, true_and, if_true, reduceIte]; rfl) ?_)) <;> try (simp -implicitDefEqProofs only [go_sem, wrsD_len, onSome_wrs, wrsD_unif, wrD_eq, wrC_eq, hx, hi, q1, w1])) | (((with_reducible refine vc_b ?_ ?_) <;> intro _) <;> try (simp -implicitDefEqProofs only [go_sem, wrsD_len, onSome_wrs, wrsD_unif, wrD_eq, wrC_eq, hx, hi, q1, w1])) | simp (disch := omega) only [wrapI, wrapU, shl1, shl1', shl1'', shrN, shrN', and_one] 
        all_goals first | omega | skip
        refine ⟨(2, i + 1, s', s), rfl, ⟨⟨show (0 : Int) ≤ i + 1 by omega, show i + 1 ≤ (es.length : Int) by omega⟩, e2.symm, show phsP 2 (i + 1) from by unfold phsP; omega⟩, show ((es.length : Int) - (i + 1)).toNat < ((es.length : Int) - i).toNat by omega⟩
      · rw [allS_2]
        (try (simp -implicitDefEqProofs only [go_sem, wrsD_len, onSome_wrs, wrsD_unif, wrD_eq, wrC_eq, hx, hi, q1, w1])); repeat' first | with_reducible exact True.intro | with_reducible refine And.intro ?_ ?_ | with_reducible intro _ | (((with_reducible refine isCall ?_); first | (refine call_m ([((901000, 0), (10024, 0))]) ([((901000, 0), (10024, 0)), ((47, 1), (24, 1))]) (c2) (by repeat' first | exact True.intro | exact rfl | refine And.intro ?_ ?_) (by simp [Handed, Ren.get, AObj.ren, AV.ren, AV.ren.renL, View.get, lookO, callF, newS, View.reach, AV.sites, AV.sites.sitesL, View.osites]) (by simp [namesOk, hasN, nodupB, Ren.get, newS, lim, upd]) (by rfl) (by simp only [backC, Ren.get, AObj.ren, AV.ren, AV.ren.renL, and_self, and_true, true_and, if_true, reduceIte]; rfl) ?_)) <;> try (simp -implicitDefEqProofs only [go_sem, wrsD_len, onSome_wrs, wrsD_unif, wrD_eq, wrC_eq, hx, hi, q1, w1])) | (((with_reducible refine vc_b ?_ ?_) <;> intro _) <;> try (simp -implicitDefEqProofs only [go_sem, wrsD_len, onSome_wrs, wrsD_unif, wrD_eq, wrC_eq, hx, hi, q1, w1])) | simp (disch := omega) only [wrapI, wrapU, shl1, shl1', shl1'', shrN, shrN', and_one] 
        all_goals first | omega | skip
        refine ⟨(3, i + 1, s', s), rfl, ⟨⟨show (0 : Int) ≤ i + 1 by omega, show i + 1 ≤ (es.length : Int) by omega⟩, e2.symm, show phsP 3 (i + 1) from by unfold phsP; omega⟩, show ((es.length : Int) - (i + 1)).toNat < ((es.length : Int) - i).toNat by omega⟩
      · rw [allS_3]
        (try (simp -implicitDefEqProofs only [go_sem, wrsD_len, onSome_wrs, wrsD_unif, wrD_eq, wrC_eq, hx, hi, q1, w1])); repeat' first | with_reducible exact True.intro | with_reducible refine And.intro ?_ ?_ | with_reducible intro _ | (((with_reducible refine isCall ?_); first | (refine call_m ([((901000, 0), (24, 0))]) ([((901000, 0), (24, 0)), ((47, 1), (10024, 1))]) (c2) (by repeat' first | exact True.intro | exact rfl | refine And.intro ?_ ?_) (by simp [Handed, Ren.get, AObj.ren, AV.ren, AV.ren.renL, View.get, lookO, callF, newS, View.reach, AV.sites, AV.sites.sitesL, View.osites]) (by simp [namesOk, hasN, nodupB, Ren.get, newS, lim, upd]) (by rfl) (by simp only [backC, Ren.get, AObj.ren, AV.ren, AV.ren.renL, and_self, and_true, true_and, if_true, reduceIte]; rfl) ?_)) <;> try (simp -implicitDefEqProofs only [go_sem, wrsD_len, onSome_wrs, wrsD_unif, wrD_eq, wrC_eq, hx, hi, q1, w1])) | (((with_reducible refine vc_b ?_ ?_) <;> intro _) <;> try (simp -implicitDefEqProofs only [go_sem, wrsD_len, onSome_wrs, wrsD_unif, wrD_eq, wrC_eq, hx, hi, q1, w1])) | simp (disch := omega) only [wrapI, wrapU, shl1, shl1', shl1'', shrN, shrN', and_one] 
        all_goals first | omega | skip
        refine ⟨(2, i + 1, s', s), rfl, ⟨⟨show (0 : Int) ≤ i + 1 by omega, show i + 1 ≤ (es.length : Int) by omega⟩, e2.symm, show phsP 2 (i + 1) from by unfold phsP; omega⟩, show ((es.length : Int) - (i + 1)).toNat < ((es.length : Int) - i).toNat by omega⟩
    · have hie : i.toNat = es.length := by omega
      rw [hie] at q3
      unfold phsP at q5
      rw [← q3]
      rcases q5 with ⟨rfl, q6⟩ | ⟨rfl, q6⟩ | ⟨rfl, q6, q7⟩ | ⟨rfl, q6, q7⟩
      · have hRn : R = 11 := by rw [← hR]; unfold allR; rw [if_pos (by omega)]
        subst hRn
        rw [allS_0]
        (try (simp -implicitDefEqProofs only [go_sem, wrsD_len, hi])); repeat' first | with_reducible exact True.intro | with_reducible refine And.intro ?_ ?_ | with_reducible intro _ | (((with_reducible refine vc_b ?_ ?_) <;> intro _) <;> try (simp -implicitDefEqProofs only [go_sem, wrsD_len, hi])) | simp (disch := omega) only [wrapI, wrapU, shl1, shl1', shl1'', shrN, shrN', and_one] 
        all_goals first | omega | rfl | trace_state
      · have hRn : R = 24 := by rw [← hR]; unfold allR; rw [if_neg (by omega), if_pos (by omega)]
        subst hRn
        rw [allS_1]
        (try (simp -implicitDefEqProofs only [go_sem, wrsD_len, hi])); repeat' first | with_reducible exact True.intro | with_reducible refine And.intro ?_ ?_ | with_reducible intro _ | (((with_reducible refine vc_b ?_ ?_) <;> intro _) <;> try (simp -implicitDefEqProofs only [go_sem, wrsD_len, hi])) | simp (disch := omega) only [wrapI, wrapU, shl1, shl1', shl1'', shrN, shrN', and_one] 
        all_goals first | omega | rfl | trace_state
      · have hRn : R = 10024 := by rw [← hR]; unfold allR; rw [if_neg (by omega), if_neg (by omega)]
        subst hRn
        rw [allS_2]
        (try (simp -implicitDefEqProofs only [go_sem, wrsD_len, hi])); repeat' first | with_reducible exact True.intro | with_reducible refine And.intro ?_ ?_ | with_reducible intro _ | (((with_reducible refine vc_b ?_ ?_) <;> intro _) <;> try (simp -implicitDefEqProofs only [go_sem, wrsD_len, hi])) | simp (disch := omega) only [wrapI, wrapU, shl1, shl1', shl1'', shrN, shrN', and_one] 
        all_goals first | omega | rfl | trace_state
      · have hRn : R = 24 := by rw [← hR]; unfold allR; rw [if_neg (by omega), if_pos (by omega)]
        subst hRn
        rw [allS_3]
        (try (simp -implicitDefEqProofs only [go_sem, wrsD_len, hi])); repeat' first | with_reducible exact True.intro | with_reducible refine And.intro ?_ ?_ | with_reducible intro _ | (((with_reducible refine vc_b ?_ ?_) <;> intro _) <;> try (simp -implicitDefEqProofs only [go_sem, wrsD_len, hi])) | simp (disch := omega) only [wrapI, wrapU, shl1, shl1', shl1'', shrN, shrN', and_one] 
        all_goals first | omega | rfl | trace_state
end Go.Pw
end
section
open Go Go.Pw Go.Proofs
namespace Go.Pw
set_option linter.unusedSimpArgs false
set_option linter.unusedVariables false
set_option maxRecDepth 100000
set_option maxHeartbeats 6400000
theorem allR_cases (n : Nat) : allR n = 11 ∨ allR n = 24 ∨ allR n = 10024 := by
  unfold allR
  split
  · exact .inl rfl
  · split
    · exact .inr (.inl rfl)
    · exact .inr (.inr rfl)
def GLog.refL (l : GLog) (es : List GWr) (d : Int) (torn : Bool) : GLog := if l.cutE es d torn = 0 then l.cpy.setS (cutS l.slots es d.toNat torn) else GLog.zero
theorem wrsD_take' (l : List GWr) (n : Nat) : (wrsD l).take n = wrsD (l.take n) := by simp [wrsD]
theorem cutE_open {l : GLog} (h : l.openE ≠ 0) (es : List GWr) (d : Int) (torn : Bool) : l.cutE es d torn = l.openE := by unfold GLog.cutE; rw [if_pos h]
theorem cutE_bad {l : GLog} (h : l.openE = 0) {es : List GWr} {d : Int} {torn : Bool} (hb : argBad es d torn = true) : l.cutE es d torn = 1 := by unfold GLog.cutE; rw [if_neg (by simpa using h), hb]; rfl
attribute [local congr] cg_pw cg_seqI cg_seqE cg_stepI cg_ev cg_evBin cg_condB cg_condV cg_thenQ cg_blockQ cg_onSome cg_onCells cg_onRow cg_onMap cg_onOpt cg_ghosts cg_ghost cg_evCall cg_part cg_rng cg_guardV cg_frzV cg_frpV cg_ownV cg_owcV cg_occV cg_occX cg_resK cg_res1 cg_yldP cg_rndE cg_onlyN cg_onHist
attribute [local irreducible] IntKind.wrap bitsOp Option.getD and or

theorem ref16_Append_ret (l : GLog) (nw : Bool) (es : List GWr) : Ret E0 F_ref16_Append [logD l, .list nw (wrsD es)] (.tup [logD (l.refL es es.length false), .int .i64 (l.cutE es es.length false)]) := by
  refine ret_of_pw dec_ref16_Append mixed (by simp) fun hwf => ?_
  have c1 := ref16_CheckKept_ret l
  unfold GLog.refL
  by_cases he : l.openE = 0
  · have g := check_good (openE_0 he).1
    have c2 := ref16_all_ret l g nw es
    rw [cutE_of he es es.length false (by omega) (fun h => by cases h)]
    unfold GLog.allL at c2
    rw [he] at c1
    have hcs : cutS l.slots es ((es.length : Int).toNat) false = putN l.slots es es.length := rfl
    rw [hcs]
    generalize (if errN l.blocks l.slots es es.length = 0 then l.cpy.setS (putN l.slots es es.length) else GLog.zero) = L at *
    generalize errN l.blocks l.slots es es.length = E at *
    rw [enter_eq]; unfold pc_ref16_Append
    (try (simp -implicitDefEqProofs only [go_sem, logD_eq, logC_eq])); repeat' first | with_reducible exact True.intro | with_reducible refine And.intro ?_ ?_ | with_reducible intro _ | (((with_reducible refine isCall ?_); first | refine call_b (c1) rfl ?_ ?_ | refine call_d (c1) rfl ?_ | refine call_sb (c1) rfl ?_ ?_ | refine call_s (c1) rfl rfl ?_ | refine call_b (c2) rfl ?_ ?_ | refine call_d (c2) rfl ?_ | refine call_sb (c2) rfl ?_ ?_ | refine call_s (c2) rfl rfl ?_) <;> try (simp -implicitDefEqProofs only [go_sem, logD_eq, logC_eq])) | (((with_reducible refine vc_b ?_ ?_) <;> intro _) <;> try (simp -implicitDefEqProofs only [go_sem, logD_eq, logC_eq])) | simp (disch := omega) only [wrapI, wrapU, shl1, shl1', shl1'', shrN, shrN', and_one] 
    all_goals first | omega | rfl | trace_state
  · rw [cutE_open he, if_neg he, zero_eq, enter_eq]; unfold pc_ref16_Append
    (try (simp -implicitDefEqProofs only [go_sem, logD_eq, logC_eq, he])); repeat' first | with_reducible exact True.intro | with_reducible refine And.intro ?_ ?_ | with_reducible intro _ | (((with_reducible refine isCall ?_); first | refine call_b (c1) rfl ?_ ?_ | refine call_d (c1) rfl ?_ | refine call_sb (c1) rfl ?_ ?_ | refine call_s (c1) rfl rfl ?_) <;> try (simp -implicitDefEqProofs only [go_sem, logD_eq, logC_eq, he])) | (((with_reducible refine vc_b ?_ ?_) <;> intro _) <;> try (simp -implicitDefEqProofs only [go_sem, logD_eq, logC_eq, he])) | simp (disch := omega) only [wrapI, wrapU, shl1, shl1', shl1'', shrN, shrN', and_one] 
    all_goals first | omega | rfl | trace_state

theorem ref16_Cut_ret (l : GLog) (nw : Bool) (es : List GWr) (d : Int) (torn : Bool) : Ret E0 F_ref16_Cut [logD l, .list nw (wrsD es), .int .i64 d, .bool torn] (.tup [logD (l.refL es d torn), .int .i64 (l.cutE es d torn)]) := by
  refine ret_of_pw dec_ref16_Cut mixed (by simp) fun hwf => ?_
  simp only [wf_int, wf_bool, wf_ints, wf_list, wf_agg, wf_ptr, wf_fn, wf_tup, wf_all_cons, wf_all_nil, wf_all_map, inK_i64, maxLen_eq, List.length_map, ints_len, true_and, and_true, logC_eq, recsD_len, wrsD_len, zpsD_len] at hwf
  have c1 := ref16_CheckKept_ret l
  have c2 := ref16_within_ret d 0 es.length
  unfold GLog.refL
  rw [enter_eq]; unfold pc_ref16_Cut
  by_cases he : l.openE = 0
  · have g := check_good (openE_0 he).1
    have m1 := g.m1; have m2 := g.m2
    rw [he] at c1
    cases hb : argBad es d torn with
    | true =>
      rw [cutE_bad he hb, if_neg (by decide), zero_eq]
      unfold argBad at hb
      cases hi : inZ d 0 es.length with
      | false =>
        rw [hi] at c2
        (try (simp -implicitDefEqProofs only [go_sem, logD_eq, logC_eq, wrsD_len])); repeat' first | with_reducible exact True.intro | with_reducible refine And.intro ?_ ?_ | with_reducible intro _ | (((with_reducible refine isCall ?_); first | refine call_b (c1) rfl ?_ ?_ | refine call_d (c1) rfl ?_ | refine call_sb (c1) rfl ?_ ?_ | refine call_s (c1) rfl rfl ?_ | refine call_b (c2) rfl ?_ ?_ | refine call_d (c2) rfl ?_ | refine call_sb (c2) rfl ?_ ?_ | refine call_s (c2) rfl rfl ?_) <;> try (simp -implicitDefEqProofs only [go_sem, logD_eq, logC_eq, wrsD_len])) | (((with_reducible refine vc_b ?_ ?_) <;> intro _) <;> try (simp -implicitDefEqProofs only [go_sem, logD_eq, logC_eq, wrsD_len])) | simp (disch := omega) only [wrapI, wrapU, shl1, shl1', shl1'', shrN, shrN', and_one] 
        all_goals first | omega | rfl | trace_state
      | true =>
        rw [hi] at c2
        rw [hi] at hb
        simp only [Bool.not_true, Bool.false_or, Bool.and_eq_true, decide_eq_true_eq] at hb
        rw [hb.1]
        have hd := hb.2
        (try (simp -implicitDefEqProofs only [go_sem, logD_eq, logC_eq, wrsD_len, eq_true hd])); repeat' first | with_reducible exact True.intro | with_reducible refine And.intro ?_ ?_ | with_reducible intro _ | (((with_reducible refine isCall ?_); first | refine call_b (c1) rfl ?_ ?_ | refine call_d (c1) rfl ?_ | refine call_sb (c1) rfl ?_ ?_ | refine call_s (c1) rfl rfl ?_ | refine call_b (c2) rfl ?_ ?_ | refine call_d (c2) rfl ?_ | refine call_sb (c2) rfl ?_ ?_ | refine call_s (c2) rfl rfl ?_) <;> try (simp -implicitDefEqProofs only [go_sem, logD_eq, logC_eq, wrsD_len, eq_true hd])) | (((with_reducible refine vc_b ?_ ?_) <;> intro _) <;> try (simp -implicitDefEqProofs only [go_sem, logD_eq, logC_eq, wrsD_len, eq_true hd])) | simp (disch := omega) only [wrapI, wrapU, shl1, shl1', shl1'', shrN, shrN', and_one] 
        all_goals first | omega | rfl | trace_state
    | false =>
      unfold argBad at hb
      rw [Bool.or_eq_false_iff] at hb
      obtain ⟨hi, ht⟩ := hb
      have hi : inZ d 0 es.length = true := by simpa using hi
      have hd := inZ_iff.1 hi
      rw [hi] at c2
      have hd2 : ((d.toNat : Nat) : Int) = d := by omega
      have hd3 : d.toNat ≤ es.length := by omega
      have hd4 : (es.take d.toNat).length = d.toNat := by simp; omega
      have c3 := ref16_all_ret l g nw es
      have q1 := hd.1; have q2 := hd.2
      cases torn with
      | false =>
        rw [cutE_of he es d false hd (fun h => by cases h)]
        by_cases hE : errN l.blocks l.slots es es.length = 0
        · have c4 := ref16_all_ret l g nw (es.take d.toNat)
          unfold GLog.allL at c3 c4
          rw [hd4, errN_take _ _ _ _ _ (Nat.le_refl _), errN_zero hE hd3, putN_take _ _ _ _ (Nat.le_refl _), if_pos rfl] at c4
          rw [hE, if_pos rfl] at c3
          rw [hE, if_pos rfl]
          have hcs : cutS l.slots es d.toNat false = putN l.slots es d.toNat := rfl
          rw [hcs]
          generalize l.cpy.setS (putN l.slots es d.toNat) = L2 at *
          generalize l.cpy.setS (putN l.slots es es.length) = L1 at *
          (try (simp -implicitDefEqProofs only [go_sem, logD_eq, logC_eq, wrsD_len, wrsD_unif, wrsD_take', q1, q2])); repeat' first | with_reducible exact True.intro | with_reducible refine And.intro ?_ ?_ | with_reducible intro _ | (((with_reducible refine isCall ?_); first | refine call_b (c1) rfl ?_ ?_ | refine call_d (c1) rfl ?_ | refine call_sb (c1) rfl ?_ ?_ | refine call_s (c1) rfl rfl ?_ | refine call_b (c2) rfl ?_ ?_ | refine call_d (c2) rfl ?_ | refine call_sb (c2) rfl ?_ ?_ | refine call_s (c2) rfl rfl ?_ | refine call_b (c3) rfl ?_ ?_ | refine call_d (c3) rfl ?_ | refine call_sb (c3) rfl ?_ ?_ | refine call_s (c3) rfl rfl ?_ | refine call_b (c4) rfl ?_ ?_ | refine call_d (c4) rfl ?_ | refine call_sb (c4) rfl ?_ ?_ | refine call_s (c4) rfl rfl ?_) <;> try (simp -implicitDefEqProofs only [go_sem, logD_eq, logC_eq, wrsD_len, wrsD_unif, wrsD_take', q1, q2])) | (((with_reducible refine vc_b ?_ ?_) <;> intro _) <;> try (simp -implicitDefEqProofs only [go_sem, logD_eq, logC_eq, wrsD_len, wrsD_unif, wrsD_take', q1, q2])) | simp (disch := omega) only [wrapI, wrapU, shl1, shl1', shl1'', shrN, shrN', and_one] 
          all_goals first | omega | rfl | exact .inl True.intro | trace_state
        · unfold GLog.allL at c3
          rw [if_neg hE, zero_eq] at c3
          rw [if_neg hE, zero_eq]
          (try (simp -implicitDefEqProofs only [go_sem, logD_eq, logC_eq, wrsD_len, q1, q2, hE])); repeat' first | with_reducible exact True.intro | with_reducible refine And.intro ?_ ?_ | with_reducible intro _ | (((with_reducible refine isCall ?_); first | refine call_b (c1) rfl ?_ ?_ | refine call_d (c1) rfl ?_ | refine call_sb (c1) rfl ?_ ?_ | refine call_s (c1) rfl rfl ?_ | refine call_b (c2) rfl ?_ ?_ | refine call_d (c2) rfl ?_ | refine call_sb (c2) rfl ?_ ?_ | refine call_s (c2) rfl rfl ?_ | refine call_b (c3) rfl ?_ ?_ | refine call_d (c3) rfl ?_ | refine call_sb (c3) rfl ?_ ?_ | refine call_s (c3) rfl rfl ?_) <;> try (simp -implicitDefEqProofs only [go_sem, logD_eq, logC_eq, wrsD_len, q1, q2, hE])) | (((with_reducible refine vc_b ?_ ?_) <;> intro _) <;> try (simp -implicitDefEqProofs only [go_sem, logD_eq, logC_eq, wrsD_len, q1, q2, hE])) | simp (disch := omega) only [wrapI, wrapU, shl1, shl1', shl1'', shrN, shrN', and_one] 
          all_goals first | omega | rfl | trace_state
      | true =>
        have hdl : ¬ d = es.length := by simpa using ht
        rw [cutE_of he es d true hd (fun _ => hdl)]
        by_cases hE : errN l.blocks l.slots es es.length = 0
        · have hE2 := errN_zero hE hd3
          have c4 := own_all l g nw (es.take d.toNat) (by omega) (by rw [hd4, errN_take _ _ _ _ _ (Nat.le_refl _)]; exact hE2)
          rw [hd4, putN_take _ _ _ _ (Nat.le_refl _)] at c4
          unfold GLog.allL at c3
          rw [hE, if_pos rfl] at c3
          rw [hE, if_pos rfl]
          have hcs : cutS l.slots es d.toNat true = tornS (putN l.slots es d.toNat) := rfl
          rw [hcs]
          have gL : (l.cpy.setS (putN l.slots es d.toNat)).Good := putN_good (l := l.cpy) (cpy_good' g) es d.toNat hE2
          obtain ⟨n1, n2, n3⟩ := newest_good gL
          have c5 := ref16_Newest_ret (l.cpy.setS (putN l.slots es d.toNat))
          rw [setS_newest] at n1 n2 n3 c5
          have hpl := putN_len l.slots es d.toNat
          generalize l.cpy.setS (putN l.slots es es.length) = L1 at *
          have hP : nxS (putN l.slots es d.toNat) = (((nwS (putN l.slots es d.toNat)).num + 1).tmod (putN l.slots es d.toNat).length).toNat := rfl
          have ct := ref16_Torn_ret
          rw [recD_eq, recC_eq, badR] at ct
          have hts : tornS (putN l.slots es d.toNat) = (putN l.slots es d.toNat).set (nxS (putN l.slots es d.toNat)) ⟨0, 0, 0, 0, true⟩ := rfl
          rw [hts]
          obtain ⟨S, hS⟩ : ∃ S, putN l.slots es d.toNat = S := ⟨_, rfl⟩
          rw [hS] at hP n1 n2 n3 c4 c5 hpl ⊢
          have t1 := tmod_range (n := (nwS S).num + 1) (m := S.length) (by omega) (by omega)
          obtain ⟨N, hN⟩ : ∃ N, (nwS S).num = N := ⟨_, rfl⟩
          obtain ⟨T, hT⟩ : ∃ T, (nwS S).tail = T := ⟨_, rfl⟩
          rw [hN] at hP n2 t1 c5
          rw [hT] at c5
          have w1 : IntKind.i64.wrap (N + 1) = N + 1 := wrapI _ (by omega)
          have t2 : 0 ≤ (N + 1).tmod S.length ∧ (N + 1).tmod S.length < S.length := by omega
          have hlen2 : ¬ (S.length : Int) = 0 := by omega
          rw [hP]
          unfold logA at c4
          rw [logD_eq, logC_eq] at c4 c5
          simp only [GLog.setS, GLog.cpy, GDisk.cp] at c4 c5
          rcases allR_cases d.toNat with hA | hA | hA
          · rw [hA] at c4
            (try (simp -implicitDefEqProofs only [go_sem, logD_eq, logC_eq, wrsD_len, wrsD_unif, wrsD_take', q1, q2, hdl, recsD_len, onSome_recs, recsD_unif, recD_eq, recC_eq, recsD_set, w1, t2.1, t2.2, hlen2, GLog.setS, GLog.cpy, GDisk.cp])); repeat' first | with_reducible exact True.intro | with_reducible refine And.intro ?_ ?_ | with_reducible intro _ | (((with_reducible refine isCall ?_); first | refine call_b (c1) rfl ?_ ?_ | refine call_d (c1) rfl ?_ | refine call_sb (c1) rfl ?_ ?_ | refine call_s (c1) rfl rfl ?_ | refine call_b (c2) rfl ?_ ?_ | refine call_d (c2) rfl ?_ | refine call_sb (c2) rfl ?_ ?_ | refine call_s (c2) rfl rfl ?_ | refine call_b (c3) rfl ?_ ?_ | refine call_d (c3) rfl ?_ | refine call_sb (c3) rfl ?_ ?_ | refine call_s (c3) rfl rfl ?_ | (refine call_m ([]) ([((11, 0), (53, 0))]) (c4) (by repeat' first | exact True.intro | exact rfl | refine And.intro ?_ ?_) (by simp [Handed, Ren.get, AObj.ren, AV.ren, AV.ren.renL, View.get, lookO, callF, newS, View.reach, AV.sites, AV.sites.sitesL, View.osites]) (by simp [namesOk, hasN, nodupB, Ren.get, newS, lim, upd]) (by rfl) (by simp only [backC, Ren.get, AObj.ren, AV.ren, AV.ren.renL, and_self, and_true, true_and, if_true, reduceIte]; rfl) ?_) | refine call_s (c5) rfl (by simp [D.flat, D.flat1, D.prim]) ?_ | refine call_b (ct) rfl ?_ ?_ | refine call_d (ct) rfl ?_ | refine call_sb (ct) rfl ?_ ?_ | refine call_s (ct) rfl rfl ?_) <;> try (simp -implicitDefEqProofs only [go_sem, logD_eq, logC_eq, wrsD_len, wrsD_unif, wrsD_take', q1, q2, hdl, recsD_len, onSome_recs, recsD_unif, recD_eq, recC_eq, recsD_set, w1, t2.1, t2.2, hlen2, GLog.setS, GLog.cpy, GDisk.cp])) | (((with_reducible refine vc_b ?_ ?_) <;> intro _) <;> try (simp -implicitDefEqProofs only [go_sem, logD_eq, logC_eq, wrsD_len, wrsD_unif, wrsD_take', q1, q2, hdl, recsD_len, onSome_recs, recsD_unif, recD_eq, recC_eq, recsD_set, w1, t2.1, t2.2, hlen2, GLog.setS, GLog.cpy, GDisk.cp])) | simp (disch := omega) only [wrapI, wrapU, shl1, shl1', shl1'', shrN, shrN', and_one] 
            all_goals first | omega | rfl | exact .inl True.intro | trace_state
          · rw [hA] at c4
            (try (simp -implicitDefEqProofs only [go_sem, logD_eq, logC_eq, wrsD_len, wrsD_unif, wrsD_take', q1, q2, hdl, recsD_len, onSome_recs, recsD_unif, recD_eq, recC_eq, recsD_set, w1, t2.1, t2.2, hlen2, GLog.setS, GLog.cpy, GDisk.cp])); repeat' first | with_reducible exact True.intro | with_reducible refine And.intro ?_ ?_ | with_reducible intro _ | (((with_reducible refine isCall ?_); first | refine call_b (c1) rfl ?_ ?_ | refine call_d (c1) rfl ?_ | refine call_sb (c1) rfl ?_ ?_ | refine call_s (c1) rfl rfl ?_ | refine call_b (c2) rfl ?_ ?_ | refine call_d (c2) rfl ?_ | refine call_sb (c2) rfl ?_ ?_ | refine call_s (c2) rfl rfl ?_ | refine call_b (c3) rfl ?_ ?_ | refine call_d (c3) rfl ?_ | refine call_sb (c3) rfl ?_ ?_ | refine call_s (c3) rfl rfl ?_ | (refine call_m ([]) ([((24, 0), (53, 0))]) (c4) (by repeat' first | exact True.intro | exact rfl | refine And.intro ?_ ?_) (by simp [Handed, Ren.get, AObj.ren, AV.ren, AV.ren.renL, View.get, lookO, callF, newS, View.reach, AV.sites, AV.sites.sitesL, View.osites]) (by simp [namesOk, hasN, nodupB, Ren.get, newS, lim, upd]) (by rfl) (by simp only [backC, Ren.get, AObj.ren, AV.ren, AV.ren.renL, and_self, and_true, true_and, if_true, reduceIte]; rfl) ?_) | refine call_s (c5) rfl (by simp [D.flat, D.flat1, D.prim]) ?_ | refine call_b (ct) rfl ?_ ?_ | refine call_d (ct) rfl ?_ | refine call_sb (ct) rfl ?_ ?_ | refine call_s (ct) rfl rfl ?_) <;> try (simp -implicitDefEqProofs only [go_sem, logD_eq, logC_eq, wrsD_len, wrsD_unif, wrsD_take', q1, q2, hdl, recsD_len, onSome_recs, recsD_unif, recD_eq, recC_eq, recsD_set, w1, t2.1, t2.2, hlen2, GLog.setS, GLog.cpy, GDisk.cp])) | (((with_reducible refine vc_b ?_ ?_) <;> intro _) <;> try (simp -implicitDefEqProofs only [go_sem, logD_eq, logC_eq, wrsD_len, wrsD_unif, wrsD_take', q1, q2, hdl, recsD_len, onSome_recs, recsD_unif, recD_eq, recC_eq, recsD_set, w1, t2.1, t2.2, hlen2, GLog.setS, GLog.cpy, GDisk.cp])) | simp (disch := omega) only [wrapI, wrapU, shl1, shl1', shl1'', shrN, shrN', and_one] 
            all_goals first | omega | rfl | exact .inl True.intro | trace_state
          · rw [hA] at c4
            (try (simp -implicitDefEqProofs only [go_sem, logD_eq, logC_eq, wrsD_len, wrsD_unif, wrsD_take', q1, q2, hdl, recsD_len, onSome_recs, recsD_unif, recD_eq, recC_eq, recsD_set, w1, t2.1, t2.2, hlen2, GLog.setS, GLog.cpy, GDisk.cp])); repeat' first | with_reducible exact True.intro | with_reducible refine And.intro ?_ ?_ | with_reducible intro _ | (((with_reducible refine isCall ?_); first | refine call_b (c1) rfl ?_ ?_ | refine call_d (c1) rfl ?_ | refine call_sb (c1) rfl ?_ ?_ | refine call_s (c1) rfl rfl ?_ | refine call_b (c2) rfl ?_ ?_ | refine call_d (c2) rfl ?_ | refine call_sb (c2) rfl ?_ ?_ | refine call_s (c2) rfl rfl ?_ | refine call_b (c3) rfl ?_ ?_ | refine call_d (c3) rfl ?_ | refine call_sb (c3) rfl ?_ ?_ | refine call_s (c3) rfl rfl ?_ | (refine call_m ([]) ([((10024, 0), (53, 0))]) (c4) (by repeat' first | exact True.intro | exact rfl | refine And.intro ?_ ?_) (by simp [Handed, Ren.get, AObj.ren, AV.ren, AV.ren.renL, View.get, lookO, callF, newS, View.reach, AV.sites, AV.sites.sitesL, View.osites]) (by simp [namesOk, hasN, nodupB, Ren.get, newS, lim, upd]) (by rfl) (by simp only [backC, Ren.get, AObj.ren, AV.ren, AV.ren.renL, and_self, and_true, true_and, if_true, reduceIte]; rfl) ?_) | refine call_s (c5) rfl (by simp [D.flat, D.flat1, D.prim]) ?_ | refine call_b (ct) rfl ?_ ?_ | refine call_d (ct) rfl ?_ | refine call_sb (ct) rfl ?_ ?_ | refine call_s (ct) rfl rfl ?_) <;> try (simp -implicitDefEqProofs only [go_sem, logD_eq, logC_eq, wrsD_len, wrsD_unif, wrsD_take', q1, q2, hdl, recsD_len, onSome_recs, recsD_unif, recD_eq, recC_eq, recsD_set, w1, t2.1, t2.2, hlen2, GLog.setS, GLog.cpy, GDisk.cp])) | (((with_reducible refine vc_b ?_ ?_) <;> intro _) <;> try (simp -implicitDefEqProofs only [go_sem, logD_eq, logC_eq, wrsD_len, wrsD_unif, wrsD_take', q1, q2, hdl, recsD_len, onSome_recs, recsD_unif, recD_eq, recC_eq, recsD_set, w1, t2.1, t2.2, hlen2, GLog.setS, GLog.cpy, GDisk.cp])) | simp (disch := omega) only [wrapI, wrapU, shl1, shl1', shl1'', shrN, shrN', and_one] 
            all_goals first | omega | rfl | exact .inl True.intro | trace_state
        · unfold GLog.allL at c3
          rw [if_neg hE, zero_eq] at c3
          rw [if_neg hE, zero_eq]
          (try (simp -implicitDefEqProofs only [go_sem, logD_eq, logC_eq, wrsD_len, q1, q2, hE, hdl])); repeat' first | with_reducible exact True.intro | with_reducible refine And.intro ?_ ?_ | with_reducible intro _ | (((with_reducible refine isCall ?_); first | refine call_b (c1) rfl ?_ ?_ | refine call_d (c1) rfl ?_ | refine call_sb (c1) rfl ?_ ?_ | refine call_s (c1) rfl rfl ?_ | refine call_b (c2) rfl ?_ ?_ | refine call_d (c2) rfl ?_ | refine call_sb (c2) rfl ?_ ?_ | refine call_s (c2) rfl rfl ?_ | refine call_b (c3) rfl ?_ ?_ | refine call_d (c3) rfl ?_ | refine call_sb (c3) rfl ?_ ?_ | refine call_s (c3) rfl rfl ?_) <;> try (simp -implicitDefEqProofs only [go_sem, logD_eq, logC_eq, wrsD_len, q1, q2, hE, hdl])) | (((with_reducible refine vc_b ?_ ?_) <;> intro _) <;> try (simp -implicitDefEqProofs only [go_sem, logD_eq, logC_eq, wrsD_len, q1, q2, hE, hdl])) | simp (disch := omega) only [wrapI, wrapU, shl1, shl1', shl1'', shrN, shrN', and_one] 
          all_goals first | omega | rfl | trace_state
  · rw [cutE_open he, if_neg he, zero_eq]
    (try (simp -implicitDefEqProofs only [go_sem, logD_eq, logC_eq, he])); repeat' first | with_reducible exact True.intro | with_reducible refine And.intro ?_ ?_ | with_reducible intro _ | (((with_reducible refine isCall ?_); first | refine call_b (c1) rfl ?_ ?_ | refine call_d (c1) rfl ?_ | refine call_sb (c1) rfl ?_ ?_ | refine call_s (c1) rfl rfl ?_) <;> try (simp -implicitDefEqProofs only [go_sem, logD_eq, logC_eq, he])) | (((with_reducible refine vc_b ?_ ?_) <;> intro _) <;> try (simp -implicitDefEqProofs only [go_sem, logD_eq, logC_eq, he])) | simp (disch := omega) only [wrapI, wrapU, shl1, shl1', shl1'', shrN, shrN', and_one] 
    all_goals first | omega | rfl | trace_state

theorem ref16_Same_ret (l : GLog) (zn sn : Bool) : Ret E0 F_ref16_Same [logD { l with disk := { l.disk with zn := zn }, sn := sn }, logD l] (.bool true) := by
  refine ret_of_pw dec_ref16_Same mixed (by simp) fun hwf => ?_
  simp only [wf_int, wf_bool, wf_ints, wf_list, wf_agg, wf_ptr, wf_fn, wf_tup, wf_all_cons, wf_all_nil, wf_all_map, inK_i64, maxLen_eq, List.length_map, ints_len, true_and, and_true, logD_eq, logC_eq, zpsD_len, recsD_len] at hwf
  rw [enter_eq]; unfold pc_ref16_Same
  (try (simp -implicitDefEqProofs only [go_sem, logD_eq, logC_eq, recsD_len, zpsD_len])); repeat' first | with_reducible exact True.intro | with_reducible refine And.intro ?_ ?_ | with_reducible intro _ | (((with_reducible refine vc_b ?_ ?_) <;> intro _) <;> try (simp -implicitDefEqProofs only [go_sem, logD_eq, logC_eq, recsD_len, zpsD_len])) | simp (disch := omega) only [wrapI, wrapU, shl1, shl1', shl1'', shrN, shrN', and_one] | ((with_reducible refine isEx ?_); refine ⟨_, rfl, ?_, ?_⟩)
  all_goals (try omega)
  refine pw_loopS (α := Int) (l0 := ?l1) (m0 := ?m1) (fun x => [(5, .d (.int .i64 x))]) (fun x => []) (fun x => 0 ≤ x ∧ x ≤ l.slots.length) (fun x => (l.slots.length - x).toNat) ?a1_0 ?h01 ?he1 ?he21 ?hI1 ?step1
  case h01 => (simp -implicitDefEqProofs only [go_sem, recsD_len, zpsD_len]; rfl)
  case he1 => rfl
  case he21 => rfl
  case' step1 => (rintro i hI; try dsimp only at hI)
  case' hI1 => try dsimp only
  · exact ⟨by omega, by omega⟩
  · by_cases hi : i < l.slots.length
    · have w1 : IntKind.i64.wrap (i + 1) = i + 1 := wrapI _ (by omega)
      obtain ⟨r, hr⟩ : ∃ r, l.slots[i.toNat]?.getD default = r := ⟨_, rfl⟩
      (try (simp -implicitDefEqProofs only [go_sem, recsD_len, onSome_recs, hr, recD_eq, recC_eq, recsD_unif, w1, hi, hI.1])); repeat' first | with_reducible exact True.intro | with_reducible refine And.intro ?_ ?_ | with_reducible intro _ | (((with_reducible refine vc_b ?_ ?_) <;> intro _) <;> try (simp -implicitDefEqProofs only [go_sem, recsD_len, onSome_recs, hr, recD_eq, recC_eq, recsD_unif, w1, hi, hI.1])) | simp (disch := omega) only [wrapI, wrapU, shl1, shl1', shl1'', shrN, shrN', and_one] | ((with_reducible refine isEx ?_); refine ⟨_, rfl, ?_, ?_⟩)
      all_goals first | omega | (simp; done) | trace_state
    · (try (simp -implicitDefEqProofs only [go_sem, recsD_len, zpsD_len, hi])); repeat' first | with_reducible exact True.intro | with_reducible refine And.intro ?_ ?_ | with_reducible intro _ | (((with_reducible refine vc_b ?_ ?_) <;> intro _) <;> try (simp -implicitDefEqProofs only [go_sem, recsD_len, zpsD_len, hi])) | simp (disch := omega) only [wrapI, wrapU, shl1, shl1', shl1'', shrN, shrN', and_one] | ((with_reducible refine isEx ?_); refine ⟨_, rfl, ?_, ?_⟩)
      all_goals (try omega)
      refine pw_loopS (α := Int) (l0 := ?l2) (m0 := ?m2) (fun x => [(6, .d (.int .i64 x))]) (fun x => []) (fun x => 0 ≤ x ∧ x ≤ l.disk.zones.length) (fun x => (l.disk.zones.length - x).toNat) ?a2_0 ?h02 ?he2 ?he22 ?hI2 ?step2
      case h02 => (simp -implicitDefEqProofs only [go_sem, recsD_len, zpsD_len]; rfl)
      case he2 => rfl
      case he22 => rfl
      case' step2 => (rintro j hI2; try dsimp only at hI2)
      case' hI2 => try dsimp only
      · exact ⟨by omega, by omega⟩
      · by_cases hj : j < l.disk.zones.length
        · have w1 : IntKind.i64.wrap (j + 1) = j + 1 := wrapI _ (by omega)
          obtain ⟨z, hz⟩ : ∃ z, l.disk.zones[j.toNat]?.getD default = z := ⟨_, rfl⟩
          (try (simp -implicitDefEqProofs only [go_sem, zpsD_len, onSome_zps, hz, zpD_eq, zpsD_unif, w1, hj, hI2.1])); repeat' first | with_reducible exact True.intro | with_reducible refine And.intro ?_ ?_ | with_reducible intro _ | (((with_reducible refine vc_b ?_ ?_) <;> intro _) <;> try (simp -implicitDefEqProofs only [go_sem, zpsD_len, onSome_zps, hz, zpD_eq, zpsD_unif, w1, hj, hI2.1])) | simp (disch := omega) only [wrapI, wrapU, shl1, shl1', shl1'', shrN, shrN', and_one] | ((with_reducible refine isEx ?_); refine ⟨_, rfl, ?_, ?_⟩)
          all_goals first | omega | (simp; done) | trace_state
        · (try (simp -implicitDefEqProofs only [go_sem, zpsD_len, hj])); repeat' first | with_reducible exact True.intro | with_reducible refine And.intro ?_ ?_ | with_reducible intro _ | (((with_reducible refine vc_b ?_ ?_) <;> intro _) <;> try (simp -implicitDefEqProofs only [go_sem, zpsD_len, hj])) | simp (disch := omega) only [wrapI, wrapU, shl1, shl1', shl1'', shrN, shrN', and_one] | ((with_reducible refine isEx ?_); refine ⟨_, rfl, ?_, ?_⟩)
          all_goals first | omega | rfl | (simp; done) | trace_state
end Go.Pw
end
