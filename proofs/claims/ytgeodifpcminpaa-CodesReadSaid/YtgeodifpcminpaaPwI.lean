/- Comparisons of plain structs and arrays, and keys of maps. -/
import Derived.Test.YtgeodifpcminpaaPwH
set_option linter.all false
namespace Go.Pw
open Go.RowKit
set_option linter.unusedSimpArgs false
set_option linter.unusedVariables false
section
variable {P : Program} {w : World}

theorem listM_length {α γ : Type} {f : α → Option γ} : ∀ {l : List α} {r : List γ}, listM f l = some r → r.length = l.length
  | [], r, h => by simp [listM] at h; subst h; rfl
  | x :: xs, r, h => by
    simp only [listM] at h
    split at h
    · cases h
    · split at h
      · cases h
      · rename_i y hy ys hys
        simp at h; subst h
        simp [listM_length hys]
theorem listM_get {α γ : Type} {f : α → Option γ} : ∀ {l : List α} {r : List γ} {i : Nat} {x : α}, listM f l = some r → l[i]? = some x → ∃ y, r[i]? = some y ∧ f x = some y
  | [], r, i, x, h, hx => by simp at hx
  | z :: zs, r, i, x, h, hx => by
    simp only [listM] at h
    split at h
    · cases h
    · split at h
      · cases h
      · rename_i y hy _ ys hys
        simp at h; subst h
        cases i with
        | zero => simp at hx; subst hx; exact ⟨y, by simp, hy⟩
        | succ i => simp at hx ⊢; exact listM_get hys hx

/-- One cell of a kind. -/
theorem run_eq_cell {t : TypeId} {k : Option IntKind} (hk : kindOf P t = some k) {a b : D} {fb : Nat → Prop} {u v : Value} (ha : tyOK [k] [a] = true) (hb : tyOK [k] [b] = true)
    (hu : DRep w fb a u) (hv : DRep w fb b v) (d : Nat) : (Op.equalIn (d + 1) t u v).run P w = .ok (primEq a b) w := by
  unfold kindOf at hk
  split at hk
  · rename_i k' ht
    simp at hk; subst hk
    cases hu <;> simp [tyOK] at ha
    cases hv <;> simp [tyOK] at hb
    subst ha hb
    rw [run_equalIn_int w d t _ _ _ _ ht]
    simp [primEq, int_beq]
  · rename_i ht
    simp at hk; subst hk
    cases hu <;> simp [tyOK] at ha
    cases hv <;> simp [tyOK] at hb
    rw [run_equalIn_bool w d t _ _ ht]
    simp [primEq]
  · cases hk

theorem tyOK_cons {k : Option IntKind} {ks : List (Option IntKind)} {c : D} {cs : List D} (h : tyOK (k :: ks) (c :: cs) = true) : tyOK [k] [c] = true ∧ tyOK ks cs = true := by
  cases k <;> cases c <;> simp_all [tyOK]
theorem tyOK_length : ∀ {ks : List (Option IntKind)} {cs : List D}, tyOK ks cs = true → cs.length = ks.length
  | [], [], _ => rfl
  | [], _ :: _, h => by simp [tyOK] at h
  | some _ :: _, [], h => by simp [tyOK] at h
  | none :: _, [], h => by simp [tyOK] at h
  | k :: ks, c :: cs, h => by simp [tyOK_length (tyOK_cons h).2]
theorem tyOK_get : ∀ {ks : List (Option IntKind)} {cs : List D} {i : Nat} {k : Option IntKind} {c : D}, tyOK ks cs = true → ks[i]? = some k → cs[i]? = some c → tyOK [k] [c] = true
  | [], _, _, _, _, _, hk, _ => by simp at hk
  | k :: ks, [], i, _, _, h, _, hc => by simp at hc
  | k :: ks, c :: cs, 0, _, _, h, hk, hc => by simp at hk hc; subst hk hc; exact (tyOK_cons h).1
  | k :: ks, c :: cs, i + 1, _, _, h, hk, hc => by simp at hk hc; exact tyOK_get (tyOK_cons h).2 hk hc

theorem notAgg_of_kind {t : TypeId} {k : Option IntKind} (hk : kindOf P t = some k) : isAggT P t = some false := by
  unfold kindOf at hk
  split at hk <;> first | cases hk; done | skip
  · rename_i ht; simp [isAggT, ht]
  · rename_i ht; simp [isAggT, ht]

theorem run_part_cell {t : TypeId} {k : Option IntKind} (hk : kindOf P t = some k) {vs : Array Value} {i : Nat} {v : Value} (hv : vs[i]? = some v) : (part t vs i).run P w = .ok v w := by
  simp [part, run_isAgg (notAgg_of_kind hk), hv]

theorem run_eqFields {fb : Nat → Prop} {as bs : List D} {us vs : Array Value} (hu : CellsR (DRep w fb) as us) (hv : CellsR (DRep w fb) bs vs) (d : Nat) :
    ∀ (fs : List Field) (ks : List (Option IntKind)) (i : Nat) (as' bs' : List D), listM (fun f => kindOf P f.type) fs = some ks → ((fs.zipIdx i).all fun (f, i) => f.name != "_" && f.offset == i) = true →
      (∀ j, as'[j]? = as[i + j]?) → (∀ j, bs'[j]? = bs[i + j]?) → tyOK ks as' = true → tyOK ks bs' = true →
      (Op.eqFields (d + 1) us vs fs).run P w = .ok (allEq as' bs') w
  | [], ks, i, as', bs', hk, hn, ha, hb, ta, tb => by
    simp [listM] at hk; subst hk
    have := tyOK_length ta; have h2 := tyOK_length tb
    simp at this h2; subst this h2
    simp [Op.eqFields, allEq]
  | f :: fs, ks, i, as', bs', hk, hn, ha, hb, ta, tb => by
    simp only [listM] at hk
    split at hk
    · cases hk
    · rename_i k hkf
      split at hk
      · cases hk
      · rename_i ks' hks
        simp at hk; subst hk
        simp only [List.zipIdx_cons, List.all_cons, Bool.and_eq_true, bne_iff_ne, ne_eq, beq_iff_eq] at hn
        obtain ⟨⟨hn1, hn2⟩, hn3⟩ := hn
        have la := tyOK_length ta; have lb := tyOK_length tb
        match as', bs', la, lb with
        | a :: as'', b :: bs'', _, _ =>
          have ea : as[i]? = some a := by have := ha 0; simpa using this.symm
          have eb : bs[i]? = some b := by have := hb 0; simpa using this.symm
          obtain ⟨u, hui⟩ : ∃ u, us[i]? = some u := ⟨_, Array.getElem?_eq_getElem (by have := hu.1; have := (List.getElem?_eq_some_iff.1 ea).1; omega)⟩
          obtain ⟨v, hvi⟩ : ∃ v, vs[i]? = some v := ⟨_, Array.getElem?_eq_getElem (by have := hv.1; have := (List.getElem?_eq_some_iff.1 eb).1; omega)⟩
          have hcell := run_eq_cell hkf (tyOK_cons ta).1 (tyOK_cons tb).1 (hu.2 i a u ea hui) (hv.2 i b v eb hvi) d
          have ih := run_eqFields hu hv d fs ks' (i + 1) as'' bs'' hks hn3
            (fun j => by have := ha (j + 1); simp at this; rw [this]; congr 1; omega) (fun j => by have := hb (j + 1); simp at this; rw [this]; congr 1; omega) (tyOK_cons ta).2 (tyOK_cons tb).2
          simp only [Op.eqFields]
          rw [if_pos hn1]
          rw [hn2]
          simp only [Sem.run_bind, run_part_cell hkf hui, run_part_cell hkf hvi, Result.andThen_ok, hcell]
          cases hp : primEq a b
          · simp [allEq, hp]
          · simp [allEq, hp, ih]

theorem run_eqItems {e : TypeId} {k : Option IntKind} (hk : kindOf P e = some k) {fb : Nat → Prop} {as bs : List D} {us vs : Array Value} (hu : CellsR (DRep w fb) as us) (hv : CellsR (DRep w fb) bs vs) (d : Nat) :
    ∀ (n i : Nat) (as' bs' : List D), (∀ j, as'[j]? = as[i + j]?) → (∀ j, bs'[j]? = bs[i + j]?) → tyOK (List.replicate n k) as' = true → tyOK (List.replicate n k) bs' = true →
      ((forIn (m := Sem) (List.range' i n) ((none, ()) : Option Bool × PUnit) fun j r => do
          let a ← part e us (j * 1)
          let b ← part e vs (j * 1)
          let r ← Op.equalIn (d + 1) e a b
          if (!r) = true then pure (.done (some false, ())) else pure (.yield (none, ()))) : Sem (Option Bool × PUnit)).run P w =
        .ok (if allEq as' bs' then (none, ()) else (some false, ())) w
  | 0, i, as', bs', ha, hb, ta, tb => by
    have la := tyOK_length ta; have lb := tyOK_length tb
    simp at la lb; subst la lb
    simp [allEq]
  | n + 1, i, as', bs', ha, hb, ta, tb => by
    have la := tyOK_length ta; have lb := tyOK_length tb
    rw [List.replicate_succ] at ta tb
    match as', bs', la, lb with
    | a :: as'', b :: bs'', _, _ =>
      have ea : as[i]? = some a := by have := ha 0; simpa using this.symm
      have eb : bs[i]? = some b := by have := hb 0; simpa using this.symm
      obtain ⟨u, hui⟩ : ∃ u, us[i]? = some u := ⟨_, Array.getElem?_eq_getElem (by have := hu.1; have := (List.getElem?_eq_some_iff.1 ea).1; omega)⟩
      obtain ⟨v, hvi⟩ : ∃ v, vs[i]? = some v := ⟨_, Array.getElem?_eq_getElem (by have := hv.1; have := (List.getElem?_eq_some_iff.1 eb).1; omega)⟩
      have hcell := run_eq_cell hk (tyOK_cons ta).1 (tyOK_cons tb).1 (hu.2 i a u ea hui) (hv.2 i b v eb hvi) d
      have ih := run_eqItems hk hu hv d n (i + 1) as'' bs''
        (fun j => by have := ha (j + 1); simp at this; rw [this]; congr 1; omega) (fun j => by have := hb (j + 1); simp at this; rw [this]; congr 1; omega) (tyOK_cons ta).2 (tyOK_cons tb).2
      simp only [List.range'_succ, List.forIn_cons, Sem.run_bind, Nat.mul_one, run_part_cell hk hui, run_part_cell hk hvi, Result.andThen_ok, hcell]
      cases hp : primEq a b
      · simp [allEq, hp]
      · simp only [Bool.not_true, Bool.false_eq_true, if_false, Sem.run_pure, Result.andThen_ok]
        simp only [Nat.mul_one] at ih
        rw [ih]
        simp [allEq, hp]

theorem run_equalIn_plain {t : TypeId} {tys : KTy} (ht : plainT P t = some tys) {a b : D} {fb : Nat → Prop} {u v : Value}
    (ha : tyM tys a = true) (hb : tyM tys b = true) (hu : DRep w fb a u) (hv : DRep w fb b v) (d : Nat) :
    (Op.equalIn (d + 2) t u v).run P w = .ok (keyEq a b) w := by
  unfold plainT at ht
  simp only [tyM, Bool.and_eq_true, beq_iff_eq] at ha hb
  split at ht
  · rename_i k hk
    simp at ht; subst ht
    have e1 : a.cells = [a] := by cases a <;> simp_all [D.cells, D.isAgg]
    have e2 : b.cells = [b] := by cases b <;> simp_all [D.cells, D.isAgg]
    rw [e1] at ha; rw [e2] at hb
    rw [run_eq_cell (by simp [kindOf, hk]) ha.2 hb.2 hu hv (d + 1)]
    simp [keyEq, e1, e2, allEq]
  · rename_i hk
    simp at ht; subst ht
    have e1 : a.cells = [a] := by cases a <;> simp_all [D.cells, D.isAgg]
    have e2 : b.cells = [b] := by cases b <;> simp_all [D.cells, D.isAgg]
    rw [e1] at ha; rw [e2] at hb
    rw [run_eq_cell (by simp [kindOf, hk]) ha.2 hb.2 hu hv (d + 1)]
    simp [keyEq, e1, e2, allEq]
  · rename_i fs hk
    split at ht
    · rename_i hc
      cases hl : listM (fun f => kindOf P f.type) fs.toList with
      | none => simp [hl] at ht
      | some l =>
        simp [hl] at ht; subst ht
        obtain ⟨cs, rfl⟩ : ∃ cs, a = .agg cs := by cases a <;> simp_all [D.isAgg]
        obtain ⟨ds, rfl⟩ : ∃ cs, b = .agg cs := by cases b <;> simp_all [D.isAgg]
        cases hu with | agg _ us hl1 h11 hr1 =>
        cases hv with | agg _ vs hl2 h12 hr2 =>
        have hf : P.fieldsOf t = fs := by simp [Program.fieldsOf, hk]
        rw [run_equalIn_struct w (d + 1) t us vs (by rw [hf]; exact hk) hc.1, hf]
        exact run_eqFields ⟨hl1, hr1⟩ ⟨hl2, hr2⟩ d fs.toList l 0 cs ds hl hc.2.2 (fun j => by simp) (fun j => by simp) ha.2 hb.2
    · cases ht
  · rename_i n e hk
    split at ht
    · rename_i hc
      cases hke : kindOf P e with
      | none => simp [hke] at ht
      | some k =>
        simp [hke] at ht; subst ht
        obtain ⟨cs, rfl⟩ : ∃ cs, a = .agg cs := by cases a <;> simp_all [D.isAgg]
        obtain ⟨ds, rfl⟩ : ∃ cs, b = .agg cs := by cases b <;> simp_all [D.isAgg]
        cases hu with | agg _ us hl1 h11 hr1 =>
        cases hv with | agg _ vs hl2 h12 hr2 =>
        have := run_eqItems hke (us := us) (vs := vs) ⟨hl1, hr1⟩ ⟨hl2, hr2⟩ d n 0 cs ds (fun j => by simp) (fun j => by simp) ha.2 hb.2
        rw [Op.equalIn]
        simp only [Sem.run_bind, run_underlying hk, Result.andThen_ok, run_sizeOf hc.2]
        rw [Std.Legacy.Range.forIn_eq_forIn_range']
        simp only [Std.Legacy.Range.size, Nat.sub_zero, Nat.add_sub_cancel, Nat.div_one] at this ⊢
        rw [this]
        simp only [Result.andThen_ok, keyEq, D.cells]
        cases allEq cs ds <;> simp
    · cases ht
  · cases ht

/-- EQUALITY OF TWO VALUES OF A PLAIN TYPE. -/
theorem run_equal_plain {t : TypeId} {tys : KTy} (ht : plainT P t = some tys) {a b : D} {fb : Nat → Prop} {u v : Value}
    (ha : tyM tys a = true) (hb : tyM tys b = true) (hu : DRep w fb a u) (hv : DRep w fb b v) :
    (Op.equal t u v).run P w = .ok (keyEq a b) w := run_equalIn_plain ht ha hb hu hv 9998

theorem eqGuard_plain {t : TypeId} {tys : KTy} (ht : plainT P t = some tys) {a b : D} {fb : Nat → Prop} {u v : Value}
    (ha : tyM tys a = true) (hb : tyM tys b = true) (hu : DRep w fb a u) (hv : DRep w fb b v) (hag : tys.1 = true) (op : BinOp) (x y : Operand) : ∃ us vs, u = .agg us ∧ v = .agg vs ∧ (eqGuard op t x y u v).run P w = .ok () w := by
  simp only [tyM, Bool.and_eq_true, beq_iff_eq, hag] at ha hb
  obtain ⟨cs, rfl⟩ : ∃ cs, a = .agg cs := by cases a <;> simp_all [D.isAgg]
  obtain ⟨ds, rfl⟩ : ∃ cs, b = .agg cs := by cases b <;> simp_all [D.isAgg]
  cases hu with | agg _ us hl1 h11 hr1 =>
  cases hv with | agg _ vs hl2 h12 hr2 =>
  refine ⟨us, vs, rfl, rfl, run_eqGuard_agg w op t x y us vs ?_⟩
  unfold plainT at ht
  split at ht
  · simp at ht; subst ht; simp at hag
  · simp at ht; subst ht; simp at hag
  · split at ht
    · rename_i hc; exact hc.2.1
    · cases ht
  · split at ht
    · rename_i hc; exact hc.1
    · cases ht
  · cases ht
end
end Go.Pw
