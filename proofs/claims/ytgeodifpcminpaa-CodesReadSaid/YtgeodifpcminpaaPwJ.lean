/- Data out of values; maps. -/
import Derived.Test.YtgeodifpcminpaaPwI
set_option linter.all false
namespace Go.Pw
open Go.RowKit
set_option linter.unusedSimpArgs false
set_option linter.unusedVariables false
section
variable {E : Env} {c : Ctx} {β : Nat → Nat → Value} {s : PSt} {tm : Array Value} {w : World} {K : AV → Chg → Prop}

theorem toD0_rep {fb β' cn} {x : AV} {u : Value} {d : D} (h : AVRep w fb β' cn x u) (hd : x.toD0 = some d) : DRep w fb d u ∧ (x.one = true → d.one = true) := by
  unfold AV.toD0 at hd
  split at hd
  · cases hd
  · cases hd
  · simp at hd; subst hd
    cases h with | d _ _ h => exact ⟨h, fun h => h⟩
  · simp at hd; subst hd
    cases h with | ex _ a h => exact ⟨h, fun _ => rfl⟩
  · split at hd
    · cases hd
    · simp at hd; subst hd
      cases h with | dptr _ _ b base vs hb hne h1 hc hv => exact ⟨.ptr _ b base vs hb hne h1 hc hv, fun _ => rfl⟩
  · cases hd

theorem listM_mem {α γ : Type} {f : α → Option γ} {l : List α} {r : List γ} {y : γ} (h : listM f l = some r) (hy : y ∈ r) : ∃ x, x ∈ l ∧ f x = some y := by
  obtain ⟨i, hi⟩ := List.getElem?_of_mem hy
  have hlt : i < l.length := by rw [← listM_length h]; exact (List.getElem?_eq_some_iff.1 hi).1
  obtain ⟨y', h1, h2⟩ := listM_get h (List.getElem?_eq_getElem hlt)
  rw [hi] at h1
  simp at h1; subst h1
  exact ⟨_, List.getElem_mem hlt, h2⟩

theorem listM_get' {α γ : Type} {f : α → Option γ} {l : List α} {r : List γ} {i : Nat} {y : γ} (h : listM f l = some r) (hy : r[i]? = some y) : ∃ x, l[i]? = some x ∧ f x = some y := by
  have hlt : i < l.length := by rw [← listM_length h]; exact (List.getElem?_eq_some_iff.1 hy).1
  obtain ⟨y', h1, h2⟩ := listM_get h (List.getElem?_eq_getElem hlt)
  rw [hy] at h1; simp at h1; subst h1
  exact ⟨_, List.getElem?_eq_getElem hlt, h2⟩

theorem toD1_rep {fb β' cn} {x : AV} {u : Value} {d : D} (h : AVRep w fb β' cn x u) (hd : x.toD1 = some d) : DRep w fb d u ∧ (x.one = true → d.one = true) := by
  unfold AV.toD1 at hd
  split at hd
  · rename_i cs
    split at hd
    · rename_i l hl
      simp at hd; subst hd
      obtain ⟨vs, rfl, hc, h1⟩ := agg_inv h
      refine ⟨.agg l vs (by rw [listM_length hl]; exact hc.1) (fun y hy => ?_) (fun i y v hy hv => ?_), fun h => by simp [AV.one] at h⟩
      · obtain ⟨x, hx, hxy⟩ := listM_mem hl hy
        obtain ⟨i, hi⟩ := List.getElem?_of_mem hx
        obtain ⟨v, hv⟩ : ∃ v, vs[i]? = some v := ⟨_, Array.getElem?_eq_getElem (by have := hc.1; have := (List.getElem?_eq_some_iff.1 hi).1; omega)⟩
        exact (toD0_rep (hc.2 i x v hi hv) hxy).2 (h1 x hx)
      · obtain ⟨x, hx, hxy⟩ := listM_get' hl hy
        exact (toD0_rep (hc.2 i x v hx hv) hxy).1
    · cases hd
  · rename_i f cs
    split at hd
    · rename_i l hl
      simp at hd; subst hd
      cases h with | fn _ _ vs hlen hr =>
      exact ⟨.fn f l vs (by rw [listM_length hl]; exact hlen) (fun i y v hy hv => by
        obtain ⟨x, hx, hxy⟩ := listM_get' hl hy
        exact (toD0_rep (hr i x v hx hv) hxy).1), fun _ => rfl⟩
    · cases hd
  · exact toD0_rep h hd

theorem fb_bar {c : Ctx} {β : Nat → Nat → Value} {V : View} {b : Nat} (h : c.fb b) : c.bar β V b := .inl h

theorem mem_sitesL {x : AV} {xs : List AV} {o : Nat} (hx : x ∈ xs) (ho : o ∈ x.sites) : o ∈ AV.sites.sitesL xs := by
  induction xs with
  | nil => cases hx
  | cons y ys ih =>
    simp only [AV.sites.sitesL, List.mem_append]
    cases hx with
    | head => exact .inl ho
    | tail _ h => exact .inr (ih h)

/-- Own blocks read as data for as long as nothing is done to them. -/
theorem snapF0_rep (h : Rel E c β s tm w) {fb' : Nat → Prop} (hfb : ∀ b, fb' b → c.bar β s.V b) {x : AV} {u : Value} {d : D} (hx : AVRep w (c.bar β s.V) β s.V.cn x u) (hd : x.snap0 s.V = some d) (hs : ∀ o g y b, o ∈ x.sites → s.V.ob o = some (g, y) → rowBlk (β o g) = some b → ¬ fb' b) : DRep w fb' d u ∧ (x.one = true → d.one = true) := by
  have weak : ∀ {d : D} {u : Value}, DRep w (c.bar β s.V) d u → DRep w fb' d u := fun h => h.mono (Stays.refl _ _) fun b _ hb => hfb b hb
  unfold AV.snap0 at hd
  split at hd
  · rename_i o g
    split at hd
    · rename_i ety es nl l hg
      simp at hd; subst hd
      have hob := View.get_some hg
      obtain ⟨hlt, ho⟩ := h.objs _ _ _ hob
      cases ho with | row _ _ _ _ _ ho =>
      cases hx with | own _ _ _ _ =>
      refine ⟨?_, fun _ => rfl⟩
      rcases ho with ⟨h1, h2, h3⟩ | ⟨h1, b, off, cap, cur, h2, h3, h4, h5, h6, h7, h8, h10, h9⟩
      · subst h1 h2; rw [h3]; exact .nil
      · subst h1; rw [h2]
        refine .list l es b off cap (fun i j => cur.getD (off + i * es + j) undef) h4 h5 ?_ h7 h8 h10 (fun i x j c hi hj => ?_) (fun i x j c hi hj => ?_)
        · exact hs o g _ b (by simp [AV.sites]) hob (by rw [h2]; rfl)
        · obtain ⟨u, hu, _⟩ := h9 i x j c hi hj
          rw [cells_cell h3, hu]; simp [Array.getD_eq_getD_getElem?, hu]
        · obtain ⟨u, hu, hd⟩ := h9 i x j c hi hj
          simp only [Array.getD_eq_getD_getElem?, hu, Option.getD_some]; exact weak hd
    · cases hd
  · rename_i o g
    split at hd
    · rename_i xs hg
      split at hd
      · rename_i c0 l hl
        simp at hd; subst hd
        have hob := View.get_some hg
        obtain ⟨hlt, ho⟩ := h.objs _ _ _ hob
        cases hx with | ptr _ _ _ b hlt hβ =>
        rw [hβ] at ho
        cases ho with | cells _ _ cur e hb hlen h1 hr =>
        refine ⟨.ptr (c0 :: l) b 0 (fun j => cur.getD j undef) (hs o g _ b (by simp [AV.sites]) hob (by rw [hβ]; rfl)) (by simp) (fun y hy => ?_) (fun j y hj => ?_) (fun j y hj => ?_), fun _ => rfl⟩
        · obtain ⟨x, hx, hxy⟩ := listM_mem hl hy
          obtain ⟨i, hi⟩ := List.getElem?_of_mem hx
          obtain ⟨v, hv⟩ : ∃ v, cur[i]? = some v := ⟨_, Array.getElem?_eq_getElem (by have := (List.getElem?_eq_some_iff.1 hi).1; omega)⟩
          exact (toD1_rep (hr i x v hi hv) hxy).2 (h1 x hx)
        · obtain ⟨x, hx, hxy⟩ := listM_get' hl hj
          have hlt : j < cur.size := by have := (List.getElem?_eq_some_iff.1 hx).1; omega
          rw [Nat.zero_add, cells_cell hb, Array.getElem?_eq_getElem hlt]; simp [Array.getD_eq_getD_getElem?, hlt]
        · obtain ⟨x, hx, hxy⟩ := listM_get' hl hj
          have hlt : j < cur.size := by have := (List.getElem?_eq_some_iff.1 hx).1; omega
          have := (toD1_rep (hr j x _ hx (Array.getElem?_eq_getElem hlt)) hxy).1
          simp only [Array.getD_eq_getD_getElem?, Array.getElem?_eq_getElem hlt, Option.getD_some]; exact weak this
      · cases hd
    · cases hd
  · obtain ⟨h1, h2⟩ := toD1_rep hx hd
    exact ⟨weak h1, h2⟩

theorem snapF_rep (h : Rel E c β s tm w) {fb' : Nat → Prop} (hfb : ∀ b, fb' b → c.bar β s.V b) {x : AV} {u : Value} {d : D} (hx : AVRep w (c.bar β s.V) β s.V.cn x u) (hd : x.snap s.V = some d) (hs : ∀ o g y b, o ∈ x.sites → s.V.ob o = some (g, y) → rowBlk (β o g) = some b → ¬ fb' b) : DRep w fb' d u := by
  unfold AV.snap at hd
  split at hd
  · rename_i cs
    split at hd
    · rename_i l hl
      simp at hd; subst hd
      obtain ⟨vs, rfl, hc, h1⟩ := agg_inv hx
      refine .agg l vs (by rw [listM_length hl]; exact hc.1) (fun y hy => ?_) (fun i y v hy hv => ?_)
      · obtain ⟨x, hx, hxy⟩ := listM_mem hl hy
        obtain ⟨i, hi⟩ := List.getElem?_of_mem hx
        obtain ⟨v, hv⟩ : ∃ v, vs[i]? = some v := ⟨_, Array.getElem?_eq_getElem (by have := hc.1; have := (List.getElem?_eq_some_iff.1 hi).1; omega)⟩
        exact (snapF0_rep h hfb (hc.2 i x v hi hv) hxy fun o g y b ho => hs o g y b (by simp only [AV.sites]; exact mem_sitesL hx ho)).2 (h1 x hx)
      · obtain ⟨x, hx, hxy⟩ := listM_get' hl hy
        exact (snapF0_rep h hfb (hc.2 i x v hx hv) hxy fun o g y b ho => hs o g y b (by simp only [AV.sites]; exact mem_sitesL (List.mem_of_getElem? hx) ho)).1
    · cases hd
  · rename_i f cs
    split at hd
    · rename_i l hl
      simp at hd; subst hd
      cases hx with | fn _ _ vs hlen hr =>
      exact .fn f l vs (by rw [listM_length hl]; exact hlen) (fun i y v hy hv => by
        obtain ⟨x, hx, hxy⟩ := listM_get' hl hy
        exact (snapF0_rep h hfb (hr i x v hx hv) hxy fun o g y b ho => hs o g y b (by simp only [AV.sites]; exact mem_sitesL (List.mem_of_getElem? hx) ho)).1)
    · cases hd
  · exact (snapF0_rep h hfb hx hd hs).1

theorem snap0_rep (h : Rel E c β s tm w) {x : AV} {u : Value} {d : D} (hx : AVRep w (c.bar β s.V) β s.V.cn x u) (hd : x.snap0 s.V = some d) : DRep w c.fb d u ∧ (x.one = true → d.one = true) :=
  snapF0_rep h (fun b hb => fb_bar hb) hx hd fun o g y b _ ho hb => (h.home o g y b ho hb).2.2
theorem snap_rep (h : Rel E c β s tm w) {x : AV} {u : Value} {d : D} (hx : AVRep w (c.bar β s.V) β s.V.cn x u) (hd : x.snap s.V = some d) : DRep w c.fb d u :=
  snapF_rep h (fun b hb => fb_bar hb) hx hd fun o g y b _ ho hb => (h.home o g y b ho hb).2.2

/-- A slice operand. -/
theorem asList_rep (h : Rel E c β s tm w) {x : AV} {u : Value} {nl : Bool} {l : List D} (hx : AVRep w (c.bar β s.V) β s.V.cn x u) (hl : x.asList s.V = some (nl, l)) : DRep w c.fb (.list nl l) u := by
  have weak : ∀ {d : D} {u : Value}, DRep w (c.bar β s.V) d u → DRep w c.fb d u := fun h => h.mono (Stays.refl _ _) fun b _ hb => fb_bar hb
  unfold AV.asList at hl
  split at hl
  · simp at hl; obtain ⟨rfl, rfl⟩ := hl
    cases hx with | d _ _ hx => exact weak hx
  · simp at hl; obtain ⟨rfl, rfl⟩ := hl
    cases hx with | ex _ a hx => exact weak hx
  · rename_i o g
    split at hl
    · rename_i ety es nl l hg
      simp at hl; obtain ⟨rfl, rfl⟩ := hl
      exact (snap0_rep h hx (by simp [AV.snap0, hg])).1
    · cases hl
  · cases hl

theorem run_getObj_map {b : Nat} {es : Array MapEntry} {cl : Nat} (hb : w.heap[b]? = some (.map es cl)) : (getObj b).run E.P w = .ok (.map es cl) w := by
  simp [getObj, Sem.run, hb]

theorem checkKey_plain {P : Program} {t : TypeId} {tys : KTy} (ht : plainT P t = some tys) {a : D} {fb : Nat → Prop} {u : Value} (ha : tyM tys a = true) (hu : DRep w fb a u) (emp : Bool) (n : Nat) :
    (Instr.checkKey emp (n + 2) t u).run P w = .ok () w := by
  unfold plainT at ht
  simp only [tyM, Bool.and_eq_true, beq_iff_eq] at ha
  have cell : ∀ {e : TypeId} {k : Option IntKind} (v : Value) (m : Nat), kindOf P e = some k → (Instr.checkKey emp (m + 1) e v).run P w = .ok () w := by
    intro e k v m hk
    unfold kindOf at hk
    split at hk
    · rename_i k' hke; simp [Instr.checkKey, run_underlying hke]
    · rename_i hke; simp [Instr.checkKey, run_underlying hke]
    · cases hk
  split at ht
  · rename_i k hk; exact cell (k := some k) u (n + 1) (by simp [kindOf, hk])
  · rename_i hk; exact cell (k := none) u (n + 1) (by simp [kindOf, hk])
  · rename_i fs hk
    split at ht
    · rename_i hc
      cases hl : listM (fun f => kindOf P f.type) fs.toList with
      | none => simp [hl] at ht
      | some l =>
        simp [hl] at ht; subst ht
        obtain ⟨cs, rfl⟩ : ∃ cs, a = .agg cs := by cases a <;> simp_all [D.isAgg]
        cases hu with | agg _ us hl1 h11 hr1 =>
        have hall := hc.2.2
        have htl : cs.length = fs.toList.length := by have h1 := tyOK_length ha.2; have h2 := listM_length hl; simp only [D.cells] at h1; omega
        rw [Instr.checkKey]
        simp only [Sem.run_bind, run_underlying hk, Result.andThen_ok]
        rw [← Array.forIn_toList]
        have key : ∀ (gs : List Field) (ks : List (Option IntKind)) (i : Nat), i + gs.length ≤ us.size → listM (fun f => kindOf P f.type) gs = some ks → ((gs.zipIdx i).all fun (f, i) => f.name != "_" && f.offset == i) = true →
            ((forIn (m := Sem) gs PUnit.unit fun f r => do
              if f.name ≠ "_" then do
                let x ← part f.type us f.offset
                Instr.checkKey emp (n + 1) f.type x
                pure (.yield PUnit.unit)
              else pure (.yield PUnit.unit)) : Sem PUnit).run P w = .ok PUnit.unit w := by
          intro gs
          induction gs with
          | nil => intro ks i _ _ _; simp
          | cons f gs ih =>
            intro ks i hlen hks hn
            simp only [listM] at hks
            split at hks
            · cases hks
            · rename_i k hkf
              split at hks
              · cases hks
              · rename_i ks' hks'
                simp only [List.zipIdx_cons, List.all_cons, Bool.and_eq_true, bne_iff_ne, ne_eq, beq_iff_eq] at hn
                obtain ⟨⟨hn1, hn2⟩, hn3⟩ := hn
                simp only [List.length_cons] at hlen
                have hui : us[i]? = some us[i] := Array.getElem?_eq_getElem (by omega)
                have := ih ks' (i + 1) (by omega) hks' hn3
                simp only [List.forIn_cons, Sem.run_bind]
                rw [if_pos hn1, hn2]
                simp only [Sem.run_bind, run_part_cell hkf hui, Result.andThen_ok, cell _ _ hkf, Sem.run_pure]
                exact this
        have := key fs.toList l 0 (by omega) hl hall
        rw [this]; rfl
    · cases ht
  · rename_i m e hk
    split at ht
    · rename_i hc
      cases hke : kindOf P e with
      | none => simp [hke] at ht
      | some k =>
        simp [hke] at ht; subst ht
        obtain ⟨cs, rfl⟩ : ∃ cs, a = .agg cs := by cases a <;> simp_all [D.isAgg]
        cases hu with | agg _ us hl1 h11 hr1 =>
        have htl : cs.length = m := by simpa [D.cells] using tyOK_length ha.2
        rw [Instr.checkKey]
        simp only [Sem.run_bind, run_underlying hk, Result.andThen_ok]
        rw [Std.Legacy.Range.forIn_eq_forIn_range']
        simp only [Std.Legacy.Range.size, Nat.sub_zero, Nat.add_sub_cancel, Nat.div_one]
        have key : ∀ (q i : Nat), i + q ≤ us.size → 
            ((forIn (m := Sem) (List.range' i q) PUnit.unit fun j r => do
              let s ← sizeOf e
              let x ← part e us (j * s)
              Instr.checkKey emp (n + 1) e x
              pure (.yield PUnit.unit)) : Sem PUnit).run P w = .ok PUnit.unit w := by
          intro q
          induction q with
          | zero => intro i _; simp
          | succ q ih =>
            intro i hlen
            have hui : us[i]? = some us[i] := Array.getElem?_eq_getElem (by omega)
            simp only [List.range'_succ, List.forIn_cons, Sem.run_bind, run_sizeOf hc.2, Result.andThen_ok, Nat.mul_one, run_part_cell hke hui, cell _ _ hke, Sem.run_pure]
            exact ih (i + 1) (by omega)
        have := key m 0 (by omega)
        rw [this]; rfl
    · cases ht
  · cases ht
end
end Go.Pw
