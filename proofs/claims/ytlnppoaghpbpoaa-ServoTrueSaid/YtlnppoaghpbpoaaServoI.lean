/- A part of the proof. -/
import Derived.Test.YtlnppoaghpbpoaaServoH
set_option linter.all false
open Go Go.Pw Go.Proofs
namespace Go.Pw
set_option linter.unusedSimpArgs false
set_option linter.unusedVariables false
set_option maxRecDepth 100000
set_option maxHeartbeats 1600000
attribute [local congr] cg_pw cg_seqI cg_seqE cg_stepI cg_ev cg_evBin cg_condB cg_condV cg_thenQ cg_blockQ cg_onSome cg_onCells cg_onRow cg_onMap cg_onOpt cg_ghosts cg_ghost cg_evCall cg_part cg_rng cg_guardV cg_frzV cg_frpV cg_ownV cg_owcV cg_occV cg_occX cg_resK cg_res1
attribute [local irreducible] IntKind.wrap bitsOp Option.getD and or

theorem isEmpty_snoc {α : Type} (l : List α) (x : α) : (l ++ [x]).isEmpty = false := by cases l <;> rfl
def rwD (r : List Int) : D := .list false (ints r)
theorem rwD_eq (r : List Int) : rwD r = .list false (ints r) := rfl
def rwsD (R : List (List Int)) : List D := R.map rwD
theorem rwsD_len (R : List (List Int)) : (rwsD R).length = R.length := by simp [rwsD]
theorem rwsD_unif (R : List (List Int)) : Unif 1 (rwsD R) = True := unif_map fun _ => rfl
theorem rwsD_empty (R : List (List Int)) : (rwsD R).isEmpty = R.isEmpty := by cases R <;> rfl
theorem rwsD_snoc (R : List (List Int)) (r : List Int) : rwsD R ++ [.list false (ints r)] = rwsD (R ++ [r]) := by simp [rwsD, rwD]
theorem onSome_rws {R : List (List Int)} {i : Nat} {A : D → Prop} : onSome (rwsD R)[i]? A = (i < R.length ∧ A (rwD (R[i]?.getD default))) := onSome_map

def GServo.cost (s : GServo) (l : List Pair) (i p : Int) : Int := if s.agrees (l[i.toNat]?.getD default) i p then 0 else 1
theorem GServo.cost01 (s : GServo) (l : List Pair) (i p : Int) : 0 ≤ s.cost l i p ∧ s.cost l i p ≤ 1 := by unfold GServo.cost; split <;> omega
def GServo.addC (s : GServo) (l : List Pair) (i : Nat) (r : List Int) : List Int := (List.range r.length).map fun (p : Nat) => r[p]?.getD 0 + s.cost l i p
theorem addC_len (s : GServo) (l : List Pair) (i : Nat) (r : List Int) : (s.addC l i r).length = r.length := by simp [GServo.addC]
theorem addC_get (s : GServo) (l : List Pair) (i : Nat) (r : List Int) {p : Nat} (h : p < r.length) : (s.addC l i r)[p]?.getD 0 = r[p]?.getD 0 + s.cost l i p := by
  simp [GServo.addC, h]
theorem nearL_get {m : Int} {r : List Int} {p : Nat} (h : p < r.length) : (nearL m r)[p]?.getD 0 = nearAt m r p := by simp [nearL, h]
theorem ext0 {a b : List Int} (h : a.length = b.length) (hx : ∀ j : Nat, j < a.length → a[j]?.getD 0 = b[j]?.getD 0) : a = b := by
  refine List.ext_getElem h fun j h1 h2 => ?_
  have := hx j h1
  rwa [List.getElem?_eq_getElem h1, List.getElem?_eq_getElem h2, Option.getD_some, Option.getD_some] at this
def GServo.zero (s : GServo) : List Int := List.replicate (s.last + 1).toNat 0
/-- Before the wedge i, what the row is. -/
def GServo.pre (s : GServo) (l : List Pair) : Nat → List Int
  | 0 => s.zero
  | i + 1 => if i = 0 then s.addC l 0 s.zero else s.addC l i (nearL s.move (s.pre l i))
/-- What is added to at wedge i. -/
def GServo.base (s : GServo) (l : List Pair) (i : Nat) : List Int := if i = 0 then s.zero else nearL s.move (s.pre l i)
theorem pre_succ (s : GServo) (l : List Pair) (i : Nat) : s.pre l (i + 1) = s.addC l i (s.base l i) := by
  simp only [GServo.pre, GServo.base]; split
  · rename_i h; subst h; rfl
  · rfl
def GServo.forthL (s : GServo) (l : List Pair) (k : Nat) : List (List Int) := (List.range k).map fun i => s.pre l (i + 1)
theorem forthL_succ (s : GServo) (l : List Pair) (k : Nat) : s.forthL l (k + 1) = s.forthL l k ++ [s.pre l (k + 1)] := by simp [GServo.forthL, List.range_succ]
theorem forthL_len (s : GServo) (l : List Pair) (k : Nat) : (s.forthL l k).length = k := by simp [GServo.forthL]
theorem forthL_get (s : GServo) (l : List Pair) {k i : Nat} (h : i < k) : (s.forthL l k)[i]?.getD default = s.pre l (i + 1) := by simp [GServo.forthL, h]

theorem last_bound {s : GServo} (h : s.ok = true) : 0 ≤ s.last ∧ s.last ≤ 1008 := by
  have hd := GServo.ok_head h
  have h1 : s.step * (s.tracks - 1) ≤ 16 * (s.tracks - 1) := Int.mul_le_mul_of_nonneg_right (by omega) (by omega)
  have h2 : 0 ≤ s.step * (s.tracks - 1) := Int.mul_nonneg (by omega) (by omega)
  unfold GServo.last; omega
theorem zero_len {s : GServo} (h : s.ok = true) : (s.zero.length : Int) = s.last + 1 := by
  have := last_bound h; simp [GServo.zero]; omega
theorem pre_len (s : GServo) (l : List Pair) : ∀ i, (s.pre l i).length = s.zero.length
  | 0 => rfl
  | i + 1 => by
    rw [pre_succ, addC_len, GServo.base]; split
    · rfl
    · rw [nearL_len, pre_len]
theorem base_len (s : GServo) (l : List Pair) (i : Nat) : (s.base l i).length = s.zero.length := by
  rw [GServo.base]; split
  · rfl
  · rw [nearL_len, pre_len]

/-- the least of a row is one of it, and not above any -/
theorem foldl_min_le (l : List Int) (x : Int) : l.foldl min x ≤ x ∧ (∀ y, y ∈ l → l.foldl min x ≤ y) ∧ (l.foldl min x = x ∨ l.foldl min x ∈ l) := by
  induction l generalizing x with
  | nil => simp
  | cons y l ih =>
    obtain ⟨h1, h2, h3⟩ := ih (min x y)
    simp only [List.foldl_cons]
    refine ⟨by omega, fun z hz => ?_, ?_⟩
    · rcases List.mem_cons.1 hz with rfl | hz
      · omega
      · exact h2 z hz
    · rcases h3 with h3 | h3
      · rcases (show min x y = x ∨ min x y = y by omega) with h | h
        · exact .inl (by rw [h3, h])
        · exact .inr (by rw [h3, h]; simp)
      · exact .inr (List.mem_cons_of_mem _ h3)
theorem minL_spec {l : List Int} (h : 1 ≤ l.length) : minL l ∈ l ∧ ∀ y, y ∈ l → minL l ≤ y := by
  cases l with
  | nil => simp at h
  | cons x l =>
    obtain ⟨h1, h2, h3⟩ := foldl_min_le l x
    simp only [minL]
    refine ⟨?_, fun y hy => ?_⟩
    · rcases h3 with h3 | h3
      · rw [h3]; simp
      · exact List.mem_cons_of_mem _ h3
    · rcases List.mem_cons.1 hy with rfl | hy
      · exact h1
      · exact h2 y hy
/-- the window of a place -/
theorem nearAt_spec {m : Int} {r : List Int} {p : Nat} (hm : 0 ≤ m) (hp : p < r.length) :
    (∃ q : Nat, q < r.length ∧ (q : Int) - p ≤ m ∧ (p : Int) - q ≤ m ∧ nearAt m r p = r[q]?.getD 0) ∧ ∀ q : Nat, q < r.length → (q : Int) - p ≤ m → (p : Int) - q ≤ m → nearAt m r p ≤ r[q]?.getD 0 := by
  have hw := minL_spec (l := (r.drop (max 0 ((p : Int) - m)).toNat).take ((min (r.length : Int) ((p : Int) + m + 1)).toNat - (max 0 ((p : Int) - m)).toNat)) (by simp; omega)
  refine ⟨?_, fun q hq h1 h2 => ?_⟩
  · obtain ⟨j, hj, he⟩ := List.getElem_of_mem hw.1
    simp at hj
    refine ⟨(max 0 ((p : Int) - m)).toNat + j, by omega, by omega, by omega, ?_⟩
    unfold nearAt
    rw [← he, List.getElem?_eq_getElem (by omega)]
    simp
  · refine hw.2 _ ?_
    rw [List.mem_iff_getElem]
    refine ⟨q - (max 0 ((p : Int) - m)).toNat, by simp; omega, ?_⟩
    rw [List.getElem?_eq_getElem hq]
    simp [show (max 0 ((p : Int) - m)).toNat + (q - (max 0 ((p : Int) - m)).toNat) = q by omega]
theorem pre_bound {s : GServo} (h : s.ok = true) (l : List Pair) : ∀ (i j : Nat), j < s.zero.length → 0 ≤ (s.pre l i)[j]?.getD 0 ∧ (s.pre l i)[j]?.getD 0 ≤ i
  | 0, j, hj => by
    have : (s.pre l 0)[j]?.getD 0 = 0 := by simp only [GServo.pre, GServo.zero, List.length_replicate] at hj ⊢; simp [hj]
    omega
  | i + 1, j, hj => by
    rw [pre_succ, addC_get _ _ _ _ (by rw [base_len]; exact hj)]
    have hc := GServo.cost01 s l i j
    have : 0 ≤ (s.base l i)[j]?.getD 0 ∧ (s.base l i)[j]?.getD 0 ≤ i := by
      rw [GServo.base]; split
      · have : (s.zero)[j]?.getD 0 = 0 := by simp only [GServo.zero, List.length_replicate] at hj ⊢; simp [hj]
        omega
      · rw [nearL_get (by rw [pre_len]; exact hj)]
        obtain ⟨q, h1, _, _, h4⟩ := (nearAt_spec (m := s.move) (r := s.pre l i) (p := j) (by have := GServo.ok_head h; omega) (by rw [pre_len]; exact hj)).1
        rw [h4]
        exact pre_bound h l i q (by rw [pre_len] at h1; exact h1)
    omega
theorem base_bound {s : GServo} (h : s.ok = true) (l : List Pair) (i j : Nat) (hj : j < s.zero.length) : 0 ≤ (s.base l i)[j]?.getD 0 ∧ (s.base l i)[j]?.getD 0 ≤ i := by
  rw [GServo.base]; split
  · have : (s.zero)[j]?.getD 0 = 0 := by simp only [GServo.zero, List.length_replicate] at hj ⊢; simp [hj]
    omega
  · rw [nearL_get (by rw [pre_len]; exact hj)]
    obtain ⟨q, h1, _, _, h4⟩ := (nearAt_spec (m := s.move) (r := s.pre l i) (p := j) (by have := GServo.ok_head h; omega) (by rw [pre_len]; exact hj)).1
    rw [h4]
    exact pre_bound h l i q (by rw [pre_len] at h1; exact h1)

theorem servo_forth_ret (s : GServo) (h : s.ok = true) (nl : Bool) (l : List Pair) (hl : l.all wedgeOk = true) (h24 : l.length ≤ 24) :
    Ret E0 F_servo_head_forth [.ptr (headC s nl l)] (.list l.isEmpty (rwsD (s.forthL l l.length))) := by
  refine ret_of_pw dec_servo_head_forth mixed (by simp) fun hwf => ?_
  have hd := GServo.ok_head h
  have hb := last_bound h
  have hz := zero_len h
  rw [enter_eq]; unfold pc_servo_head_forth
  have w0 : IntKind.i64.wrap (s.last + 1) = s.last + 1 := wrapI _ (by omega)
  have hze : List.replicate (s.last + 1).toNat 0 = s.zero := rfl
  (try (simp -implicitDefEqProofs only [go_sem, headC_eq, w0])); repeat' first | with_reducible exact True.intro | with_reducible refine And.intro ?_ ?_ | with_reducible intro _ | (((with_reducible refine vc_b ?_ ?_) <;> intro _) <;> try (simp -implicitDefEqProofs only [go_sem, headC_eq, w0])) | simp (disch := omega) only [wrapI, wrapU, shl1, shl1', shl1'', shrN, shrN', and_one] | ((with_reducible refine isEx3 ?_); refine ⟨(_, _, _), rfl, ?_, ?_⟩) | ((with_reducible refine isEx2 ?_); refine ⟨(_, _), rfl, ?_, ?_⟩)
  all_goals first | omega | (simp; done) | (simp; omega) | skip
  refine pw_loopS (α := Int × (List Int) × (List (List Int))) (l0 := ?l1) (m0 := ?m1) (fun x => [(18, .d (.int .i64 x.1)), (3, .d (.list false (ints x.2.1)))]) (fun x => [(47, .row 90 1 x.2.2.isEmpty (rwsD x.2.2))]) (fun x => 0 ≤ x.1 ∧ x.1 ≤ l.length ∧ x.2.1 = s.pre l x.1.toNat ∧ x.2.2 = s.forthL l x.1.toNat) (fun x => (l.length - x.1).toNat) (?a1_0, s.zero, []) ?h01 ?he1 ?he21 ?hI1 ?step1
  case h01 => (simp -implicitDefEqProofs only [go_sem, headC_eq, w0, hze, pairsD_len]; rfl)
  case he1 => rfl
  case he21 => rfl
  case' step1 => (rintro ⟨i, now, R⟩ hI; try dsimp only at hI)
  case' hI1 => try dsimp only
  · exact ⟨by omega, by omega, rfl, rfl⟩
  · obtain ⟨h1, h2, h3, h4⟩ := hI
    subst h3 h4
    have hpl := pre_len s l i.toNat
    by_cases hi : i < l.length
    · have cc := fun p hp => servo_costs_ret s h nl l hl h24 i p ⟨h1, hi⟩ hp
      have hbl := base_len s l i.toNat
      have hbb := base_bound h l i.toNat
      have hfin := pre_succ s l i.toNat
      have hstep := forthL_succ s l i.toNat
      have hsn : (i + 1).toNat = i.toNat + 1 := by omega
      have hi1 : IntKind.i64.wrap (i + 1) = i + 1 := wrapI _ (by omega)
      by_cases hi0 : 0 < i
      · have hbe : s.base l i.toNat = nearL s.move (s.pre l i.toNat) := by rw [GServo.base, if_neg (by omega)]
        have c1 := servo_near_ret s h nl l (s.pre l i.toNat) (by omega) (by omega)
        rw [← hbe] at c1
        have c2 := slices_Clone_ret (s.base l i.toNat) (by omega) (by omega)
        generalize s.base l i.toNat = B at *
        generalize s.pre l i.toNat = P0 at *
        (try (simp -implicitDefEqProofs only [go_sem, headC_eq, hi0])); repeat' first | with_reducible exact True.intro | with_reducible refine And.intro ?_ ?_ | with_reducible intro _ | (((with_reducible refine isCall ?_); first | refine call_b (c1) rfl ?_ ?_ | refine call_d (c1) rfl ?_ | refine call_sb (c1) rfl ?_ ?_ | refine call_s (c1) rfl rfl ?_ | (refine call_m ([]) ([((7, 1), (27, 1))]) (c2) (by repeat' first | exact True.intro | exact rfl | refine And.intro ?_ ?_) (by simp [Handed, Ren.get, AObj.ren, AV.ren, AV.ren.renL, View.get, lookO, callF, newS, View.reach, AV.sites, AV.sites.sitesL, View.osites]) (by simp [namesOk, hasN, nodupB, Ren.get, newS, lim, upd]) (by rfl) (by simp only [backC, Ren.get, AObj.ren, AV.ren, AV.ren.renL, and_self, and_true, true_and, if_true, reduceIte]; rfl) ?_)) <;> try (simp -implicitDefEqProofs only [go_sem, headC_eq, hi0])) | (((with_reducible refine vc_b ?_ ?_) <;> intro _) <;> try (simp -implicitDefEqProofs only [go_sem, headC_eq, hi0])) | simp (disch := omega) only [wrapI, wrapU, shl1, shl1', shl1'', shrN, shrN', and_one] | ((with_reducible refine isEx3 ?_); refine ⟨(_, _, _), rfl, ?_, ?_⟩) | ((with_reducible refine isEx2 ?_); refine ⟨(_, _), rfl, ?_, ?_⟩)
        all_goals first | omega | (simp; done) | (simp; omega) | skip
        refine pw_loopS (α := Int × (List Int)) (l0 := ?l2) (m0 := ?m2) (fun x => [(30, .d (.int .i64 x.1))]) (fun x => [(27, .row T_int 1 false (ints x.2))]) (fun x => 0 ≤ x.1 ∧ x.1 ≤ B.length ∧ x.2.length = B.length ∧ (∀ j : Nat, (j : Int) < x.1 → x.2[j]?.getD 0 = (s.addC l i.toNat B)[j]?.getD 0) ∧ ∀ j : Nat, x.1 ≤ (j : Int) → x.2[j]?.getD 0 = B[j]?.getD 0) (fun x => (B.length - x.1).toNat) (?a2_0, B) ?h02 ?he2 ?he22 ?hI2 ?step2
        case h02 => (simp -implicitDefEqProofs only [go_sem, headC_eq]; rfl)
        case he2 => rfl
        case he22 => rfl
        case' step2 => (rintro ⟨p, cur⟩ hI2; try dsimp only at hI2)
        case' hI2 => try dsimp only
        · exact ⟨by omega, by omega, rfl, fun j hj => by omega, fun j hj => rfl⟩
        · obtain ⟨p1, p2, p3, p4, p5⟩ := hI2
          by_cases hp : p < B.length
          · have hpb := hbb p.toNat (by omega)
            have hco := s.cost01 l i p
            have ccp := cc p (by omega)
            rw [show (if s.agrees (l[i.toNat]?.getD default) i p = true then (0 : Int) else 1) = s.cost l i p from rfl] at ccp
            have e1 := p5 p.toNat (by omega)
            have hadd : (s.addC l i.toNat B)[p.toNat]?.getD 0 = B[p.toNat]?.getD 0 + s.cost l i p := by
              rw [addC_get _ _ _ _ (by omega), show ((i.toNat : Nat) : Int) = i by omega, show ((p.toNat : Nat) : Int) = p by omega]
            have hset1 : ∀ j : Nat, (j : Int) < p + 1 → (cur.set p.toNat (B[p.toNat]?.getD 0 + s.cost l i p))[j]?.getD 0 = (s.addC l i.toNat B)[j]?.getD 0 := fun j hj => by
              rw [List.getElem?_set]
              by_cases hji : p.toNat = j
              · subst hji; rw [if_pos rfl, if_pos (by omega), hadd, Option.getD_some]
              · rw [if_neg hji]; exact p4 j (by omega)
            have hset2 : ∀ j : Nat, p + 1 ≤ (j : Int) → (cur.set p.toNat (B[p.toNat]?.getD 0 + s.cost l i p))[j]?.getD 0 = B[j]?.getD 0 := fun j hj => by
              rw [List.getElem?_set, if_neg (by omega)]; exact p5 j (by omega)
            generalize s.cost l i p = C at *
            have w1 : IntKind.i64.wrap (B[p.toNat]?.getD 0 + C) = B[p.toNat]?.getD 0 + C := wrapI _ (by omega)
            (try (simp -implicitDefEqProofs only [go_sem, headC_eq, e1, w1, p3])); repeat' first | with_reducible exact True.intro | with_reducible refine And.intro ?_ ?_ | with_reducible intro _ | (((with_reducible refine isCall ?_); first | refine call_b (ccp) rfl ?_ ?_ | refine call_d (ccp) rfl ?_ | refine call_sb (ccp) rfl ?_ ?_ | refine call_s (ccp) rfl rfl ?_) <;> try (simp -implicitDefEqProofs only [go_sem, headC_eq, e1, w1, p3])) | (((with_reducible refine vc_b ?_ ?_) <;> intro _) <;> try (simp -implicitDefEqProofs only [go_sem, headC_eq, e1, w1, p3])) | simp (disch := omega) only [wrapI, wrapU, shl1, shl1', shl1'', shrN, shrN', and_one] | ((with_reducible refine isEx3 ?_); refine ⟨(_, _, _), rfl, ?_, ?_⟩) | ((with_reducible refine isEx2 ?_); refine ⟨(_, _), rfl, ?_, ?_⟩)
            all_goals first | omega | (apply hset1; assumption) | (apply hset2; assumption) | (simp; done) | (simp; omega) | skip
          · have hx : cur = s.addC l i.toNat B := ext0 (by rw [addC_len]; exact p3) fun j hj => p4 j (by omega)
            have hlen := forthL_len s l i.toNat
            (try (simp -implicitDefEqProofs only [go_sem, headC_eq, rwsD_unif, rwsD_len, rwsD_snoc, rwsD_empty])); repeat' first | with_reducible exact True.intro | with_reducible refine And.intro ?_ ?_ | with_reducible intro _ | (((with_reducible refine vc_b ?_ ?_) <;> intro _) <;> try (simp -implicitDefEqProofs only [go_sem, headC_eq, rwsD_unif, rwsD_len, rwsD_snoc, rwsD_empty])) | simp (disch := omega) only [wrapI, wrapU, shl1, shl1', shl1'', shrN, shrN', and_one] | ((with_reducible refine isEx3 ?_); refine ⟨(_, _, _), rfl, ?_, ?_⟩) | ((with_reducible refine isEx2 ?_); refine ⟨(_, _), rfl, ?_, ?_⟩)
            all_goals first | omega | (simp; done) | (simp; omega) | skip
            refine ⟨(i + 1, cur, s.forthL l i.toNat ++ [cur]), by simp only [isEmpty_snoc], ⟨by omega, by omega, ?_, ?_⟩, by simp only; omega⟩
            · simp only; rw [hsn, hfin, hx]
            · simp only; rw [hsn, hstep, hfin, hx]
      · have hbe : s.base l i.toNat = s.pre l i.toNat := by rw [show i.toNat = 0 by omega]; rfl
        rw [hbe] at hbl hbb hfin
        have c2 := slices_Clone_ret (s.pre l i.toNat) (by omega) (by omega)
        generalize s.pre l i.toNat = B at *
        (try (simp -implicitDefEqProofs only [go_sem, headC_eq, hi0])); repeat' first | with_reducible exact True.intro | with_reducible refine And.intro ?_ ?_ | with_reducible intro _ | (((with_reducible refine isCall ?_); first | (refine call_m ([]) ([((7, 1), (27, 1))]) (c2) (by repeat' first | exact True.intro | exact rfl | refine And.intro ?_ ?_) (by simp [Handed, Ren.get, AObj.ren, AV.ren, AV.ren.renL, View.get, lookO, callF, newS, View.reach, AV.sites, AV.sites.sitesL, View.osites]) (by simp [namesOk, hasN, nodupB, Ren.get, newS, lim, upd]) (by rfl) (by simp only [backC, Ren.get, AObj.ren, AV.ren, AV.ren.renL, and_self, and_true, true_and, if_true, reduceIte]; rfl) ?_)) <;> try (simp -implicitDefEqProofs only [go_sem, headC_eq, hi0])) | (((with_reducible refine vc_b ?_ ?_) <;> intro _) <;> try (simp -implicitDefEqProofs only [go_sem, headC_eq, hi0])) | simp (disch := omega) only [wrapI, wrapU, shl1, shl1', shl1'', shrN, shrN', and_one] | ((with_reducible refine isEx3 ?_); refine ⟨(_, _, _), rfl, ?_, ?_⟩) | ((with_reducible refine isEx2 ?_); refine ⟨(_, _), rfl, ?_, ?_⟩)
        all_goals first | omega | (simp; done) | (simp; omega) | skip
        refine pw_loopS (α := Int × (List Int)) (l0 := ?l3) (m0 := ?m3) (fun x => [(30, .d (.int .i64 x.1))]) (fun x => [(27, .row T_int 1 false (ints x.2))]) (fun x => 0 ≤ x.1 ∧ x.1 ≤ B.length ∧ x.2.length = B.length ∧ (∀ j : Nat, (j : Int) < x.1 → x.2[j]?.getD 0 = (s.addC l i.toNat B)[j]?.getD 0) ∧ ∀ j : Nat, x.1 ≤ (j : Int) → x.2[j]?.getD 0 = B[j]?.getD 0) (fun x => (B.length - x.1).toNat) (?a3_0, B) ?h03 ?he3 ?he23 ?hI3 ?step3
        case h03 => (simp -implicitDefEqProofs only [go_sem, headC_eq]; rfl)
        case he3 => rfl
        case he23 => rfl
        case' step3 => (rintro ⟨p, cur⟩ hI3; try dsimp only at hI3)
        case' hI3 => try dsimp only
        · exact ⟨by omega, by omega, rfl, fun j hj => by omega, fun j hj => rfl⟩
        · obtain ⟨p1, p2, p3, p4, p5⟩ := hI3
          by_cases hp : p < B.length
          · have hpb := hbb p.toNat (by omega)
            have hco := s.cost01 l i p
            have ccp := cc p (by omega)
            rw [show (if s.agrees (l[i.toNat]?.getD default) i p = true then (0 : Int) else 1) = s.cost l i p from rfl] at ccp
            have e1 := p5 p.toNat (by omega)
            have hadd : (s.addC l i.toNat B)[p.toNat]?.getD 0 = B[p.toNat]?.getD 0 + s.cost l i p := by
              rw [addC_get _ _ _ _ (by omega), show ((i.toNat : Nat) : Int) = i by omega, show ((p.toNat : Nat) : Int) = p by omega]
            have hset1 : ∀ j : Nat, (j : Int) < p + 1 → (cur.set p.toNat (B[p.toNat]?.getD 0 + s.cost l i p))[j]?.getD 0 = (s.addC l i.toNat B)[j]?.getD 0 := fun j hj => by
              rw [List.getElem?_set]
              by_cases hji : p.toNat = j
              · subst hji; rw [if_pos rfl, if_pos (by omega), hadd, Option.getD_some]
              · rw [if_neg hji]; exact p4 j (by omega)
            have hset2 : ∀ j : Nat, p + 1 ≤ (j : Int) → (cur.set p.toNat (B[p.toNat]?.getD 0 + s.cost l i p))[j]?.getD 0 = B[j]?.getD 0 := fun j hj => by
              rw [List.getElem?_set, if_neg (by omega)]; exact p5 j (by omega)
            generalize s.cost l i p = C at *
            have w1 : IntKind.i64.wrap (B[p.toNat]?.getD 0 + C) = B[p.toNat]?.getD 0 + C := wrapI _ (by omega)
            (try (simp -implicitDefEqProofs only [go_sem, headC_eq, e1, w1, p3])); repeat' first | with_reducible exact True.intro | with_reducible refine And.intro ?_ ?_ | with_reducible intro _ | (((with_reducible refine isCall ?_); first | refine call_b (ccp) rfl ?_ ?_ | refine call_d (ccp) rfl ?_ | refine call_sb (ccp) rfl ?_ ?_ | refine call_s (ccp) rfl rfl ?_) <;> try (simp -implicitDefEqProofs only [go_sem, headC_eq, e1, w1, p3])) | (((with_reducible refine vc_b ?_ ?_) <;> intro _) <;> try (simp -implicitDefEqProofs only [go_sem, headC_eq, e1, w1, p3])) | simp (disch := omega) only [wrapI, wrapU, shl1, shl1', shl1'', shrN, shrN', and_one] | ((with_reducible refine isEx3 ?_); refine ⟨(_, _, _), rfl, ?_, ?_⟩) | ((with_reducible refine isEx2 ?_); refine ⟨(_, _), rfl, ?_, ?_⟩)
            all_goals first | omega | (apply hset1; assumption) | (apply hset2; assumption) | (simp; done) | (simp; omega) | skip
          · have hx : cur = s.addC l i.toNat B := ext0 (by rw [addC_len]; exact p3) fun j hj => p4 j (by omega)
            have hlen := forthL_len s l i.toNat
            (try (simp -implicitDefEqProofs only [go_sem, headC_eq, rwsD_unif, rwsD_len, rwsD_snoc, rwsD_empty])); repeat' first | with_reducible exact True.intro | with_reducible refine And.intro ?_ ?_ | with_reducible intro _ | (((with_reducible refine vc_b ?_ ?_) <;> intro _) <;> try (simp -implicitDefEqProofs only [go_sem, headC_eq, rwsD_unif, rwsD_len, rwsD_snoc, rwsD_empty])) | simp (disch := omega) only [wrapI, wrapU, shl1, shl1', shl1'', shrN, shrN', and_one] | ((with_reducible refine isEx3 ?_); refine ⟨(_, _, _), rfl, ?_, ?_⟩) | ((with_reducible refine isEx2 ?_); refine ⟨(_, _), rfl, ?_, ?_⟩)
            all_goals first | omega | (simp; done) | (simp; omega) | skip
            refine ⟨(i + 1, cur, s.forthL l i.toNat ++ [cur]), by simp only [isEmpty_snoc], ⟨by omega, by omega, ?_, ?_⟩, by simp only; omega⟩
            · simp only; rw [hsn, hfin, hx]
            · simp only; rw [hsn, hstep, hfin, hx]
    · have hil : i = l.length := by omega
      have hem : (s.forthL l i.toNat).isEmpty = l.isEmpty := by
        have := forthL_len s l i.toNat
        cases hh : s.forthL l i.toNat with
        | nil => rw [hh] at this; have : l.length = 0 := by simp at this; omega
                 cases l with | nil => rfl | cons _ _ => simp at this
        | cons x y => rw [hh] at this; cases l with | nil => simp at this; simp at hil; omega | cons _ _ => rfl
      (try (simp -implicitDefEqProofs only [go_sem, rwsD_empty])); repeat' first | with_reducible exact True.intro | with_reducible refine And.intro ?_ ?_ | with_reducible intro _ | (((with_reducible refine vc_b ?_ ?_) <;> intro _) <;> try (simp -implicitDefEqProofs only [go_sem, rwsD_empty])) | simp (disch := omega) only [wrapI, wrapU, shl1, shl1', shl1'', shrN, shrN', and_one] | ((with_reducible refine isEx3 ?_); refine ⟨(_, _, _), rfl, ?_, ?_⟩) | ((with_reducible refine isEx2 ?_); refine ⟨(_, _), rfl, ?_, ?_⟩)
      all_goals first | omega | (simp; done) | (simp; omega) | skip
      all_goals (rw [hem, show i.toNat = l.length by omega])
end Go.Pw
