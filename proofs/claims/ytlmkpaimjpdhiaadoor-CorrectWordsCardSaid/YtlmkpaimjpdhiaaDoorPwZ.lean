/- A part of the proof. -/
import Derived.Test.YtlmkpaimjpdhiaaDoorPwY
set_option linter.all false
namespace Go.Pw
set_option linter.unusedSimpArgs false
set_option linter.unusedVariables false

def look : List (Nat × AV) → Nat → AV
  | [] => fun _ => .undef
  | (k, v) :: l => fun t => if t = k then v else look l t
theorem look_cons (k : Nat) (v : AV) (l : List (Nat × AV)) (t : Nat) : look ((k, v) :: l) t = if t = k then v else look l t := rfl
theorem look_nil (t : Nat) : look [] t = .undef := rfl
theorem lookO_cons (k : Nat) (v : Nat × AObj) (l : List (Nat × (Nat × AObj))) (t : Nat) : lookO ((k, v) :: l) t = if t = k then some v else lookO l t := rfl
theorem lookO_nil (t : Nat) : lookO [] t = none := rfl

theorem put_some (l : List (Nat × AV)) (V : View) (t : Nat) (v : AV) (ch : Chg) : put ⟨look l, V⟩ (some t) v ch = ⟨look ((t, v) :: l), V.app ch⟩ := rfl
theorem put_none (f : Nat → AV) (V : View) (v : AV) (ch : Chg) : put ⟨f, V⟩ none v ch = ⟨f, V.app ch⟩ := rfl
theorem app_none (V : View) : V.app .none = V := rfl
theorem app_seq (V : View) (a b : Chg) : V.app (.seq a b) = (V.app a).app b := rfl
theorem app_keep (l : List (Nat × (Nat × AObj))) (cn : Nat → Nat) (o g : Nat) (x : AObj) : (View.mk (lookO l) cn).app (.keep o g x) = ⟨lookO ((o, (g, x)) :: l), cn⟩ := rfl
theorem app_fresh (l : List (Nat × (Nat × AObj))) (cn : Nat → Nat) (o : Nat) (x : AObj) : (View.mk (lookO l) cn).app (.fresh o x) = ⟨lookO ((o, (cn o, x)) :: l), upd cn o (cn o + 1)⟩ := rfl
theorem get_at (ob : Nat → Option (Nat × AObj)) (cn : Nat → Nat) (o g : Nat) : (View.mk ob cn).get o g = match ob o with | some (g', x) => if g = g' then some x else none | none => none := rfl

theorem enter_eq (ds : List D) : PSt.enter ds = ⟨look (ds.zipIdx.map fun (d, k) => (k, .d d)), ⟨lookO [], fun _ => 0⟩⟩ := by
  have key : ∀ (ds : List D) (n t : Nat), look ((ds.zipIdx n).map fun (d, k) => (k, .d d)) t = if t < n then .undef else (match ds[t - n]? with | some d => .d d | none => .undef) := by
    intro ds
    induction ds with
    | nil => intro n t; simp [look]
    | cons d ds ih =>
      intro n t
      simp only [List.zipIdx_cons, List.map_cons, look_cons]
      rw [ih]
      by_cases h : t = n
      · subst h; simp
      · by_cases h2 : t < n
        · simp [h, h2, Nat.lt_succ_of_lt h2]
        · have h3 : ¬ t < n + 1 := by omega
          have h4 : t - n = (t - (n + 1)) + 1 := by omega
          simp only [h, h2, h3, if_false]
          rw [h4, List.getElem?_cons_succ]
  unfold PSt.enter
  congr 1
  funext t
  rw [key]; simp
  cases ds[t]? <;> rfl

theorem keep_eq (f : Nat → AV) (V : View) (ks : List Nat) : (PSt.mk f V).keep ks = ⟨look (ks.map fun k => (k, f k)), V⟩ := by
  unfold PSt.keep
  congr 1
  funext t
  induction ks with
  | nil => simp [look]
  | cons k ks ih =>
    simp only [List.map_cons, look_cons, List.contains_cons]
    by_cases h : t = k
    · subst h; simp
    · have : (t == k) = false := by simpa using h
      rw [this, Bool.false_or, if_neg h]; exact ih

variable {E : Env} {Q : PExit → PSt → Prop} {s s' : PSt} {K : AV → Chg → Prop} {KS : PSt → Prop}

theorem condV_bool (b : Bool) (A B : Prop) : condV (.d (.bool b)) A B = condB b A B := rfl

theorem pw_dead : pw E .dead Q s = False := rfl
theorem pw_skip : pw E .skip Q s = Q .normal s := rfl
theorem pw_reg {gs l ks} : pw E (.reg gs l ks) Q s = ghosts gs s fun s' => seqI E l s' fun s' => Q .normal (s'.keep ks) := rfl
theorem pw_draw {gs l ks} : pw E (.draw gs l ks) Q s = ghosts gs s fun s' => seqD E l [] s' fun s' => Q .normal (s'.keep ks) := rfl
theorem pw_seq {a b} : pw E (.seq a b) Q s = pw E a (thenQ (pw E b Q) Q) s := rfl
theorem pw_cond {c a b} : pw E (.cond c a b) Q s = condV (c.val s.sl) (pw E a Q s) (pw E b Q s) := rfl
theorem pw_block {id a} : pw E (.block id a) Q s = pw E a (blockQ id Q) s := rfl
theorem pw_exit {id} : pw E (.exit id) Q s = Q (.exit id) s := rfl
theorem pw_ret : pw E .ret Q s = Q .ret s := rfl
theorem thenQ_normal {A : PSt → Prop} : thenQ A Q .normal s = A s := rfl
theorem thenQ_exit {A : PSt → Prop} {i} : thenQ A Q (.exit i) s = Q (.exit i) s := rfl
theorem thenQ_ret {A : PSt → Prop} : thenQ A Q .ret s = Q .ret s := rfl
theorem blockQ_normal {i} : blockQ i Q .normal s = Q .normal s := rfl
theorem blockQ_ret {i} : blockQ i Q .ret s = Q .ret s := rfl
theorem blockQ_exit {i j} : blockQ i Q (.exit j) s = if j = i then Q .normal s else Q (.exit j) s := rfl
theorem ghosts_nil : ghosts [] s KS = KS s := rfl
theorem ghosts_cons {g gs} : ghosts (g :: gs) s KS = ghost g s fun s' => ghosts gs s' KS := rfl
theorem seqI_nil : seqI E [] s KS = KS s := rfl
theorem seqI_cons {I l} : seqI E (I :: l) s KS = stepI E I s fun v ch => seqI E l (put s I.dst v ch) KS := rfl
theorem stepI_plain {d op xs} {sl : Nat → AV} {V : View} : stepI E ⟨d, none, op, xs⟩ ⟨sl, V⟩ K = ev E d V op (xs.map (Opd.val sl)) K := rfl
section
variable {dst : Option Nat} {V : View}
theorem ev_mov {x} : ev E dst V .mov [x] K = K x .none := rfl
theorem ev_pick {c x y} : ev E dst V .pick [.d (.bool c), x, y] K = condB c (K x .none) (K y .none) := rfl
theorem ev_bin {b k k' x y} : ev E dst V (.bin b) [.d (.int k x), .d (.int k' y)] K = evBin b k k' x y (K · .none) := rfl
theorem ev_not {b} : ev E dst V (.un .not) [.d (.bool b)] K = K (.d (.bool (!b))) .none := rfl
end

theorem stepI_mono {I : Ins} {K K' : AV → Chg → Prop} (h : stepI E I s K) (hk : ∀ v ch, K v ch → K' v ch) : stepI E I s K' := by
  obtain ⟨v, ch, h1, _, h3⟩ := stepI_loc h
  exact h3 s K' (fun _ _ => rfl) (fun _ _ => ⟨rfl, rfl⟩) (hk v ch h1)
theorem seqI_mono {KS KS' : PSt → Prop} (hk : ∀ s, KS s → KS' s) : ∀ {l : List Ins} {s : PSt}, seqI E l s KS → seqI E l s KS'
  | [], s, h => hk s h
  | I :: l, s, h => stepI_mono h fun v ch h' => seqI_mono hk h'
theorem seqD_mono {KS KS' : PSt → Prop} (hk : ∀ s, KS s → KS' s) : ∀ {l : List (Ins × List Nat)} {r : List Rec} {s : PSt}, seqD E l r s KS → seqD E l r s KS'
  | [], r, s, h => hk s h
  | (I, dy) :: l, r, s, h => stepI_mono h fun v ch h' => ⟨h'.1, seqD_mono hk h'.2⟩
theorem ghost_mono {KS KS' : PSt → Prop} (hk : ∀ s, KS s → KS' s) {g : Ghost} (h : ghost g s KS) : ghost g s KS' := by
  unfold ghost at *
  split at h
  · split at h
    · split at h
      · exact hk _ h
      · exact h.elim
    · exact hk _ h
  · split at h
    · split at h
      · split at h
        · exact hk _ h
        · exact h.elim
      · exact h.elim
    · exact hk _ h
  · split at h
    · split at h
      · split at h
        · exact hk _ h
        · exact h.elim
      · exact hk _ h
    · exact hk _ h
  · split at h
    · split at h
      · exact hk _ h
      · exact h.elim
    · exact hk _ h
  · split at h
    · split at h
      · exact hk _ h
      · exact h.elim
    · exact hk _ h
  · split at h
    · split at h
      · split at h
        · split at h
          · exact hk _ h
          · exact h.elim
        · exact hk _ h
      · exact hk _ h
    · exact hk _ h
  · split at h
    · exact ⟨h.1, hk _ h.2⟩
    · exact hk _ h
  · split at h
    · exact ⟨h.1, hk _ h.2⟩
    · exact hk _ h
  · split at h
    · split at h
      · split at h
        · exact ⟨h.1, h.2.1, hk _ h.2.2⟩
        · exact hk _ h
      · exact hk _ h
    · exact hk _ h
  · exact hk _ h
  · exact hk _ h
theorem ord_mono {KS KS' : PSt → Prop} (hk : ∀ s, KS s → KS' s) : ∀ {t : Ord} {s : PSt}, ordP E t s KS → ordP E t s KS'
  | .done, s, h => hk s h
  | .step I r, s, h => stepI_mono h fun v ch h' => ord_mono hk h'
  | .both a b, s, h => ⟨ord_mono hk h.1, ord_mono hk h.2⟩
theorem ghosts_mono : ∀ {gs : List Ghost} {s : PSt} {KS KS' : PSt → Prop}, (∀ s, KS s → KS' s) → ghosts gs s KS → ghosts gs s KS'
  | [], s, _, _, hk, h => hk s h
  | g :: gs, s, _, _, hk, h => ghost_mono (fun s' h' => ghosts_mono hk h') h

theorem yldP_mono {y : AV} {xs : List AV} {V : View} {K K' : AV → Chg → Prop} (hk : ∀ v ch, K v ch → K' v ch) (h : yldP y xs V K) : yldP y xs V K' := by
  unfold yldP at *
  split at h
  · split at h
    · split at h
      · exact ⟨h.1, hk _ _ h.2.1, hk _ _ h.2.2⟩
      · exact h.elim
    · exact h.elim
  · exact h.elim

theorem rngV_mono {v : AV} {K K' : FuncId → List D → List D → Prop} (hk : ∀ f pre post, K f pre post → K' f pre post) (h : rngV E v K) : rngV E v K' := by
  unfold rngV at *
  split at h
  · exact ⟨h.1, hk _ _ _ h.2⟩
  · exact h.elim

theorem pw_mono : ∀ {p : PC} {Q Q' : PExit → PSt → Prop} {s : PSt}, pw E p Q s → (∀ e s, Q e s → Q' e s) → pw E p Q' s
  | .skip, Q, Q', s, h, hq => hq _ _ h
  | .reg gs l ks, Q, Q', s, h, hq => ghosts_mono (fun s' h' => seqI_mono (fun s'' h'' => hq _ _ h'') h') h
  | .draw gs l ks, Q, Q', s, h, hq => ghosts_mono (fun s' h' => seqD_mono (fun s'' h'' => hq _ _ h'') h') h
  | .any gs t ks, Q, Q', s, h, hq => ghosts_mono (fun s' h' => ord_mono (fun s'' h'' => hq _ _ h'') h') h
  | .seq a b, Q, Q', s, h, hq => pw_mono (p := a) h fun e s' h' => by
      cases e with
      | normal => exact pw_mono (p := b) h' hq
      | exit i => exact hq _ _ h'
      | ret => exact hq _ _ h'
  | .cond c a b, Q, Q', s, h, hq => by
      simp only [pw, condV] at h ⊢
      split at h
      · exact ⟨fun hb => pw_mono (h.1 hb) hq, fun hb => pw_mono (h.2 hb) hq⟩
      · exact h.elim
  | .block id a, Q, Q', s, h, hq => pw_mono (p := a) h fun e s' h' => by
      cases e with
      | normal => exact hq _ _ h'
      | ret => exact hq _ _ h'
      | exit i =>
        simp only [blockQ] at h' ⊢
        split at h'
        · rename_i e; rw [if_pos e]; exact hq _ _ h'
        · rename_i e; rw [if_neg e]; exact hq _ _ h'
  | .loop gs ks os a, Q, Q', s, h, hq => by
      obtain ⟨J, h0, h1⟩ := h
      refine ⟨J, h0, fun n s' hJ => pw_mono (p := a) (h1 n s' hJ) fun e s'' h' => ?_⟩
      cases e with
      | normal => exact h'
      | exit i => exact hq _ _ h'
      | ret => exact hq _ _ h'
  | .exit id, Q, Q', s, h, hq => hq _ _ h
  | .ret, Q, Q', s, h, hq => hq _ _ h
  | .dead, Q, Q', s, h, hq => h.elim
  | .scope a, Q, Q', s, h, hq => pw_mono (p := a) h hq
  | .lab, Q, Q', s, h, hq => hq _ _ h
  | .rngF gs g ps ks os b gs2 os2 a, Q, Q', s, h, hq => ghosts_mono (fun s0 h0 => rngV_mono (fun f pre post ⟨h1, els, h2, JJ, Pd, h3, h4, h5, h6, h7⟩ =>
      ⟨h1, els, h2, JJ, Pd, h3, h4, h5, fun V hV hJ => hq _ _ (h6 V hV hJ), fun e V hV hP => hq _ _ (h7 e V hV hP)⟩) h0) h
  | .yld gs l1 d y xs l2 ks, Q, Q', s, h, hq => ghosts_mono (fun s0 h0 => seqI_mono (fun s1 h1 => yldP_mono (fun v ch h2 => seqI_mono (fun s' h3 => hq _ _ h3) h2) h1) h0) h

theorem pw_loopI {α : Type} (St : α → PSt) (Inv : α → Prop) (μ : α → Nat) {gs : List Ghost} {ks os : List Nat} {a : PC} (x0 : α) (h0 : ghosts gs s fun s1 => s1.nrm ks os = St x0) (hI : Inv x0)
    (step : ∀ x, Inv x → pw E a (thenQ (fun s' => ghosts gs s' fun s1 => ∃ y, s1.nrm ks os = St y ∧ Inv y ∧ μ y < μ x) Q) (St x)) : pw E (.loop gs ks os a) Q s := by
  refine ⟨fun n s' => ∃ x, s' = St x ∧ Inv x ∧ μ x = n, ghosts_mono (fun s1 h => ⟨μ x0, x0, h, hI, rfl⟩) h0, ?_⟩
  rintro n s' ⟨x, rfl, hx, rfl⟩
  refine pw_mono (step x hx) fun e s' h => ?_
  cases e with
  | normal =>
    refine ghosts_mono (fun s1 h => ?_) h
    obtain ⟨y, h1, h2, h3⟩ := h
    exact ⟨μ y, h3, y, h1, h2, rfl⟩
  | exit i => exact h
  | ret => exact h

theorem upd_look (l : List (Nat × AV)) (t : Nat) (v : AV) : upd (look l) t v = look ((t, v) :: l) := rfl
theorem drop_eq (l : List (Nat × (Nat × AObj))) (cn : Nat → Nat) (o : Nat) : (View.mk (lookO l) cn).drop o = ⟨lookO (l.filter fun p => !(p.1 == o)), cn⟩ := by
  simp only [View.drop, View.mk.injEq, and_true]
  funext t
  induction l with
  | nil => simp only [upd, List.filter_nil, lookO]; split <;> rfl
  | cons p l ih =>
    simp only [upd] at ih ⊢
    by_cases h : t = o
    · subst h
      simp only [if_true] at ih ⊢
      by_cases h1 : p.1 = t
      · simp [List.filter_cons, h1]; simpa using ih
      · have : (!(p.1 == t)) = true := by simpa using h1
        rw [List.filter_cons, if_pos this]
        obtain ⟨k, v⟩ := p
        simp only [lookO] at h1 ⊢
        rw [if_neg (Ne.symm h1)]; exact ih
    · simp only [if_neg h] at ih ⊢
      obtain ⟨k, v⟩ := p
      by_cases h1 : k = o
      · subst h1
        have : (!((k, v).1 == k)) = false := by simp
        rw [List.filter_cons, if_neg (by simp), ← ih]
        simp only [lookO]
        rw [if_neg h]
      · rw [List.filter_cons, if_pos (by simpa using h1)]
        simp only [lookO]
        rw [ih]

def look2 (f : Nat → AV) (V : View) (os ks : List Nat) : List (Nat × AV) := ks.map fun k => (k, (f k).nrm V os)
def lookO2 (V : View) (os : List Nat) : List Nat → List (Nat × (Nat × AObj))
  | [] => []
  | o :: l => match V.ob o with
    | some (_, x) => (match x.nrm V os with | some y => (o, (0, y)) :: lookO2 V os l | none => lookO2 V os l)
    | none => lookO2 V os l

theorem nrm_eq (f : Nat → AV) (V : View) (ks os : List Nat) : (PSt.mk f V).nrm ks os = ⟨look (ks.map fun k => (k, (f k).nrm V os)), ⟨lookO (lookO2 V os os), fun _ => 1⟩⟩ := by
  have h1 : (fun t => if ks.contains t then (f t).nrm V os else .undef) = look (ks.map fun k => (k, (f k).nrm V os)) := by
    funext t
    induction ks with
    | nil => simp [look]
    | cons k ks ih =>
      simp only [List.map_cons, look_cons, List.contains_cons]
      by_cases h : t = k
      · subst h; simp
      · have : (t == k) = false := by simpa using h
        rw [this, Bool.false_or, if_neg h]; exact ih
  have h2 : ∀ l : List Nat, (fun o => if l.contains o then (match V.ob o with
      | some (_, x) => match x.nrm V os with | some y => some (0, y) | none => none
      | none => none) else none) = lookO (lookO2 V os l) := by
    intro l
    funext t
    induction l with
    | nil => simp [lookO2, lookO]
    | cons k l ih =>
      simp only [List.contains_cons]
      have hnot : ∀ (t : Nat), V.ob t = none → lookO (lookO2 V os l) t = none := by
        intro t ht
        clear ih
        induction l with
        | nil => rfl
        | cons a l ih2 =>
          simp only [lookO2]
          cases ha : V.ob a with
          | none => exact ih2
          | some p =>
            obtain ⟨g, x⟩ := p
            simp only
            have hne : t ≠ a := by rintro rfl; rw [ht] at ha; cases ha
            cases x.nrm V os with
            | none => exact ih2
            | some y => simp only [lookO, if_neg hne]; exact ih2
      have hnot2 : ∀ (t g : Nat) (x : AObj), V.ob t = some (g, x) → x.nrm V os = none → lookO (lookO2 V os l) t = none := by
        intro t g x ht hx
        clear ih hnot
        induction l with
        | nil => rfl
        | cons a l ih2 =>
          simp only [lookO2]
          cases ha : V.ob a with
          | none => exact ih2
          | some p =>
            obtain ⟨g', x'⟩ := p
            simp only
            by_cases hne : t = a
            · subst hne
              rw [ht] at ha; cases ha
              rw [hx]; exact ih2
            · cases x'.nrm V os with
              | none => exact ih2
              | some y => simp only [lookO, if_neg hne]; exact ih2
      by_cases h : t = k
      · subst h
        simp only [beq_self_eq_true, Bool.true_or, if_true, lookO2]
        cases hk : V.ob t with
        | none => simp only; exact (hnot t hk).symm
        | some p =>
          obtain ⟨g, x⟩ := p
          simp only
          cases hx : x.nrm V os with
          | none => simp only; exact (hnot2 t g x hk hx).symm
          | some y => simp [lookO]
      · have : (t == k) = false := by simpa using h
        rw [this, Bool.false_or]
        simp only [lookO2]
        cases V.ob k with
        | none => exact ih
        | some p =>
          obtain ⟨g, x⟩ := p
          simp only
          cases x.nrm V os with
          | none => exact ih
          | some y => simp only [lookO, if_neg h]; exact ih
  show PSt.mk _ _ = _
  rw [h1, View.nrm]
  exact congrArg (fun ob => PSt.mk _ ⟨ob, fun _ => 1⟩) (h2 os)

theorem lookO2_nil (V : View) (os : List Nat) : lookO2 V os [] = [] := rfl
theorem lookO2_cons (V : View) (os : List Nat) (o : Nat) (l : List Nat) : lookO2 V os (o :: l) = match V.ob o with
    | some (_, x) => (match x.nrm V os with | some y => (o, (0, y)) :: lookO2 V os l | none => lookO2 V os l)
    | none => lookO2 V os l := rfl
theorem onrm_row {V : View} {os ety es nl l} : (AObj.row ety es nl l).nrm V os = some (.row ety es nl l) := rfl
theorem onrm_mat {V : View} {os a b c d e} : (AObj.mat a b c d e).nrm V os = some (.mat a b c d e) := rfl
theorem nrm_mref {V : View} {os k o g} : (AV.mref k o g).nrm V os = if AV.nrm.live V os o g then .mref k o 0 else .undef := rfl
theorem nrm_ablk {V : View} {os sl cs off} : (AV.ablk sl cs off).nrm V os = if (AV.nrm.nrmL V os cs).all AV.one then .ablk sl (AV.nrm.nrmL V os cs) off else .undef := rfl
theorem onrm_cells {V : View} {os xs} : (AObj.cells xs).nrm V os = if (xs.map (AV.nrm V os)).all AV.one then some (.cells (xs.map (AV.nrm V os))) else none := rfl
theorem nrm_d {V : View} {os x} : (AV.d x).nrm V os = .d x := rfl
theorem nrm_undef {V : View} {os} : AV.undef.nrm V os = .undef := rfl
theorem nrm_own {V : View} {os o g} : (AV.own o g).nrm V os = if AV.nrm.live V os o g then .own o 0 else .undef := rfl
theorem nrm_ptr {V : View} {os o g off} : (AV.ptr o g off).nrm V os = if AV.nrm.live V os o g then .ptr o 0 off else .undef := rfl
theorem nrm_fn {V : View} {os f cs} : (AV.fn f cs).nrm V os = .fn f (AV.nrm.nrmL V os cs) := rfl
theorem nrmL_nil {V : View} {os} : AV.nrm.nrmL V os [] = [] := rfl
theorem nrmL_cons {V : View} {os x xs} : AV.nrm.nrmL V os (x :: xs) = x.nrm V os :: AV.nrm.nrmL V os xs := rfl
theorem live_eq {V : View} {os : List Nat} {o g : Nat} : AV.nrm.live V os o g = (os.contains o && match V.ob o with | some (g', _) => g' == g | none => false) := rfl
end Go.Pw
