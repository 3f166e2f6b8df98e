/- What an operation depends on, and what it changes. -/
import Derived.Test.YtgeodifpcminpaaPwT
set_option linter.all false
namespace Go.Pw
set_option linter.unusedSimpArgs false
set_option linter.unusedVariables false

inductive Foot where
  | none | read | all

def IOp.foot : IOp → Foot
  | .mov | .pick | .bin _ | .beq _ | .eqv .. | .un _ | .conv _ | .nilck | .field .. | .faddr _ | .iaddrA .. | .index .. | .build .. | .mkrow .. | .mkfn _ | .minmax _ | .extract _ => .none
  | .eqnil _ | .load .. | .iaddrS _ | .len _ | .lookup .. => .read
  | _ => .all

def IOp.isCall : IOp → Bool
  | .call _ | .callv => true
  | _ => false

/-- The sites that an operation may look at or change. -/
def fp (V : View) (dst : Option Nat) (op : IOp) (xs : List AV) : List Nat :=
  match op.foot with
  | .none => []
  | .read => AV.sites.sitesL xs
  | .all => if op.isCall then callF dst V xs else dst.toList ++ AV.sites.sitesL xs

/-- The sites that it may change. -/
def wfp (V : View) (dst : Option Nat) (op : IOp) (xs : List AV) : List Nat :=
  match op.foot with
  | .all => if op.isCall then callF dst V xs else dst.toList ++ AV.sites.sitesL xs
  | _ => []

theorem wfp_fp {V : View} {dst : Option Nat} {op : IOp} {xs : List AV} {o : Nat} (h : o ∈ wfp V dst op xs) : o ∈ fp V dst op xs := by
  unfold wfp at h; unfold fp
  split at h
  · simp_all
  · cases h

def Chg.site : Chg → List Nat
  | .none => []
  | .keep o _ _ => [o]
  | .fresh o _ => [o]
  | .seq a b => a.site ++ b.site

def AgreeV (F : List Nat) (V V' : View) : Prop := ∀ o, o ∈ F → V'.ob o = V.ob o ∧ V'.cn o = V.cn o

theorem AgreeV.get {F : List Nat} {V V' : View} (h : AgreeV F V V') {o g : Nat} (ho : o ∈ F) : V'.get o g = V.get o g := by
  simp only [View.get, (h o ho).1]

theorem asList_agree {F : List Nat} {V V' : View} (h : AgreeV F V V') {x : AV} (hx : ∀ o, o ∈ x.sites → o ∈ F) : x.asList V' = x.asList V := by
  cases x with
  | own o g => simp only [AV.asList, h.get (hx o (by simp [AV.sites]))]
  | d x => cases x <;> rfl
  | _ => rfl

theorem appSrc_agree {F : List Nat} {V V' : View} (h : AgreeV F V V') {z : Option D} {x : AV} (hx : ∀ o, o ∈ x.sites → o ∈ F) : appSrc V' z x = appSrc V z x := by
  cases z <;> simp only [appSrc, asList_agree h hx]

theorem snap0_agree {F : List Nat} {V V' : View} (h : AgreeV F V V') {x : AV} (hx : ∀ o, o ∈ x.sites → o ∈ F) : x.snap0 V' = x.snap0 V := by
  cases x with
  | own o g => simp only [AV.snap0, h.get (hx o (by simp [AV.sites]))]
  | ptr o g off =>
    have := h.get (g := g) (hx o (by simp [AV.sites]))
    cases off with
    | zero => simp only [AV.snap0, this]
    | succ n => rfl
  | _ => rfl

theorem listM_congr {α γ : Type} {f g : α → Option γ} : ∀ {l : List α}, (∀ x, x ∈ l → f x = g x) → listM f l = listM g l
  | [], _ => rfl
  | x :: l, h => by simp only [listM, h x (by simp), listM_congr (l := l) fun y hy => h y (by simp [hy])]

theorem snap_agree {F : List Nat} {V V' : View} (h : AgreeV F V V') {x : AV} (hx : ∀ o, o ∈ x.sites → o ∈ F) : x.snap V' = x.snap V := by
  cases x with
  | agg cs => simp only [AV.snap]; rw [listM_congr fun y hy => snap0_agree h fun o ho => hx o (by simp only [AV.sites]; exact mem_sitesL hy ho)]
  | fn f cs => simp only [AV.snap]; rw [listM_congr fun y hy => snap0_agree h fun o ho => hx o (by simp only [AV.sites]; exact mem_sitesL hy ho)]
  | _ => exact snap0_agree h hx

theorem argsD_agree {F : List Nat} {V V' : View} (h : AgreeV F V V') {xs : List AV} (hx : ∀ o, o ∈ AV.sites.sitesL xs → o ∈ F) : argsD V' xs = argsD V xs :=
  listM_congr fun y hy => snap_agree h fun o ho => hx o (mem_sitesL hy ho)

theorem sitesL_append (xs ys : List AV) : AV.sites.sitesL (xs ++ ys) = AV.sites.sitesL xs ++ AV.sites.sitesL ys := by
  induction xs with
  | nil => rfl
  | cons x xs ih => simp only [List.cons_append, AV.sites.sitesL, ih, List.append_assoc]
theorem sitesL_d (cs : List D) : AV.sites.sitesL (cs.map .d) = [] := by
  induction cs with
  | nil => rfl
  | cons x xs ih => simp only [List.map_cons, AV.sites.sitesL, AV.sites, ih, List.append_nil]

variable {E : Env} {dst : Option Nat} {V : View} {K : AV → Chg → Prop}

/-- WHAT AN OPERATION GIVES IS ONE VALUE AND ONE CHANGE, and they hang on its footprint alone. -/
def Loc (W F : List Nat) (V : View) (G : View → (AV → Chg → Prop) → Prop) (K : AV → Chg → Prop) : Prop :=
  ∃ v ch, K v ch ∧ (∀ o, o ∈ ch.site → o ∈ W) ∧ ∀ V' K', AgreeV F V V' → K' v ch → G V' K'

theorem osites_agree {F : List Nat} {V V' : View} (h : AgreeV F V V') {o : Nat} (ho : o ∈ F) : V'.osites o = V.osites o := by
  simp only [View.osites, (h o ho).1]
theorem reach_sub {V : View} : ∀ {n : Nat} {l : List Nat} {o : Nat}, o ∈ l → o ∈ V.reach n l
  | 0, _, _, h => h
  | n + 1, _, _, h => List.mem_append_left _ h
theorem reach_agree {V V' : View} : ∀ {n : Nat} {l : List Nat}, AgreeV (V.reach n l) V V' → V'.reach n l = V.reach n l
  | 0, _, _ => rfl
  | n + 1, l, h => by
    simp only [View.reach] at h ⊢
    have e : l.flatMap V'.osites = l.flatMap V.osites := by
      have : ∀ m : List Nat, (∀ o, o ∈ m → o ∈ l) → m.flatMap V'.osites = m.flatMap V.osites := by
        intro m
        induction m with
        | nil => intro _; rfl
        | cons x m ih =>
          intro hm
          rw [List.flatMap_cons, List.flatMap_cons, ih fun o ho => hm o (List.mem_cons_of_mem _ ho), osites_agree h (List.mem_append_left _ (hm x (by simp)))]
      exact this l fun _ h => h
    rw [e, reach_agree (V := V) (V' := V') (n := n) fun o ho => h o (List.mem_append_right _ ho)]
theorem reach_mono {V : View} : ∀ {n : Nat} {l m : List Nat}, (∀ o, o ∈ l → o ∈ m) → ∀ o, o ∈ V.reach n l → o ∈ V.reach n m
  | 0, _, _, h, o, ho => h o ho
  | n + 1, l, m, h, o, ho => by
    simp only [View.reach, List.mem_append] at ho ⊢
    rcases ho with ho | ho
    · exact .inl (h o ho)
    · refine .inr (reach_mono (V := V) (fun q hq => ?_) o ho)
      rw [List.mem_flatMap] at hq ⊢
      obtain ⟨z, hz, hq⟩ := hq
      exact ⟨z, h z hz, hq⟩
theorem callF_agree {dst : Option Nat} {V V' : View} {xs : List AV} (h : AgreeV (callF dst V xs) V V') : callF dst V' xs = callF dst V xs := by
  simp only [callF] at h ⊢
  rw [reach_agree (V := V) (V' := V') fun o ho => h o (List.mem_append_right _ ho)]
theorem callF_dst {t : Nat} {V : View} {xs : List AV} : t ∈ callF (some t) V xs := by simp [callF, newS]
theorem callF_new {t u : Nat} {V : View} {xs : List AV} (h : u ∈ newS t) : u ∈ callF (some t) V xs := by simp only [callF]; exact List.mem_append_left _ h
theorem callF_sites {dst : Option Nat} {V : View} {xs : List AV} {o : Nat} (h : o ∈ AV.sites.sitesL xs) : o ∈ callF dst V xs := by simp only [callF]; exact List.mem_append_right _ (reach_sub h)
theorem callF_mono {dst : Option Nat} {V : View} {xs ys : List AV} (h : ∀ o, o ∈ AV.sites.sitesL xs → o ∈ AV.sites.sitesL ys) : ∀ o, o ∈ callF dst V xs → o ∈ callF dst V ys := by
  intro o ho
  simp only [callF, List.mem_append] at ho ⊢
  exact ho.imp id (reach_mono h o)

theorem handed_agree {V V' : View} {F F' : List Nat} {ρ : Ren} (hF : ∀ o, o ∈ F → o ∈ F') (h : ∀ o, o ∈ F → V'.ob o = V.ob o) : ∀ {V0 : List (Nat × Nat × AObj)}, Handed V F ρ V0 → Handed V' F' ρ V0
  | [], _ => trivial
  | (o, g, x) :: l, hh => by
    simp only [Handed] at hh ⊢
    refine ⟨?_, handed_agree hF h hh.2⟩
    have h1 := hh.1
    split at h1
    · rename_i q y hq hy
      have hin : q.1 ∈ F := by simpa using h1.2
      exact ⟨by simp only [View.get, h q.1 hin]; exact h1.1, by simpa using hF q.1 hin⟩
    · exact h1.elim
theorem namesOk_agree {cn cn' : Nat → Nat} {dst : Option Nat} {V0 V1 : List (Nat × Nat × AObj)} {ρ ρ2 : Ren} (h : ∀ t, dst = some t → ∀ o, o ∈ newS t → cn' o = cn o) (hn : namesOk cn dst V0 V1 ρ ρ2 = true) : namesOk cn' dst V0 V1 ρ ρ2 = true := by
  simp only [namesOk, Bool.and_eq_true, List.all_eq_true] at hn ⊢
  refine ⟨⟨⟨hn.1.1.1, fun e he => ?_⟩, hn.1.2⟩, hn.2⟩
  have := hn.1.1.2 e he
  refine ⟨this.1, ?_⟩
  have h2 := this.2
  cases hρ : ρ.get e.1.1 e.1.2 with
  | some q => rfl
  | none =>
    simp only [hρ] at h2 ⊢
    cases dst with
    | none => simp at h2
    | some t =>
      simp only [Bool.and_eq_true] at h2 ⊢
      exact ⟨h2.1, by rw [h t rfl _ (by simpa using h2.1.1)]; exact h2.2⟩
theorem back_sites {ρ ρ2 : Ren} : ∀ {V1 : List (Nat × Nat × AObj)} {ch : Chg}, backC ρ ρ2 V1 = some ch → ∀ o', o' ∈ ch.site → ∃ o g x q, (o, g, x) ∈ V1 ∧ ρ2.get o g = some q ∧ q.1 = o'
  | [], ch, h, o', ho' => by simp [backC] at h; subst h; simp [Chg.site] at ho'
  | (o, g, x) :: l, ch, h, o', ho' => by
    simp only [backC] at h
    split at h
    · rename_i q y cl hq hy hcl
      simp at h; subst h
      simp only [Chg.site, List.mem_append] at ho'
      rcases ho' with ho' | ho'
      · refine ⟨o, g, x, q, by simp, hq, ?_⟩
        split at ho' <;> simp [Chg.site] at ho' <;> exact ho'.symm
      · obtain ⟨o1, g1, x1, q1, h1, h2, h3⟩ := back_sites hcl o' ho'
        exact ⟨o1, g1, x1, q1, List.mem_cons_of_mem _ h1, h2, h3⟩
    · cases h

theorem evCall_loc {f : FuncId} {xs : List AV} {F : List Nat} (hF : ∀ o, o ∈ callF dst V xs → o ∈ F) (h : evCall E dst V f xs K) : Loc F F V (fun V' K' => evCall E dst V' f xs K') K := by
  have hd : ∀ t, dst = some t → t ∈ F := fun t ht => hF t (by subst ht; exact callF_dst)
  have hx : ∀ o, o ∈ AV.sites.sitesL xs → o ∈ F := fun o ho => hF o (callF_sites ho)
  rcases h with ⟨ds, r, h1, h2, hK⟩ | ⟨ds, r, h1, h2, h3, hK⟩ | ⟨ds, t, ety, es, nl, l, h1, hl, h2, h3, hK⟩ | ⟨V0, cxs, V1, r, r', ch, ρ, ρ2, hren, hcall, hhand, hnm, hr, hback, hK⟩
  · exact ⟨_, _, hK, by simp [Chg.site], fun V' K' _ hk => .inl ⟨ds, r, h1, h2, hk⟩⟩
  · exact ⟨_, _, hK, by simp [Chg.site], fun V' K' ha hk => .inr (.inl ⟨ds, r, by rw [argsD_agree ha hx]; exact h1, h2, h3, hk⟩)⟩
  · refine ⟨_, _, hK, fun o ho => by simp [Chg.site] at ho; subst ho; exact hd _ h1, fun V' K' ha hk => .inr (.inr (.inl ⟨ds, t, ety, es, nl, l, h1, hl, h2, h3, ?_⟩))⟩
    rw [(ha t (hd _ h1)).2]; exact hk
  · refine ⟨_, _, hK, fun o' ho' => ?_, fun V' K' ha hk => .inr (.inr (.inr ⟨V0, cxs, V1, r, r', ch, ρ, ρ2, hren, hcall, ?_, ?_, hr, hback, hk⟩))⟩
    · obtain ⟨o, g, x, q, hm, hq, he⟩ := back_sites hback o' ho'
      subst he
      have N := names_of hnm
      cases hro : ρ.get o g with
      | some q' =>
        have := (N.n1 _ _ _ hro).2.2
        rw [hq] at this; simp at this; subst this
        obtain ⟨x0, hm0⟩ := (N.n1 _ _ _ hro).2.1
        obtain ⟨q2, y2, k1, _, _, k4⟩ := handed_spec hhand o g x0 hm0
        rw [hro] at k1; simp at k1; subst k1
        exact hF _ k4
      | none =>
        obtain ⟨t, ht, k1, _⟩ := (N.n2 _ _ _ hq).2 hro
        subst ht
        exact hF _ (callF_new k1)
    · have hag : AgreeV (callF dst V xs) V V' := fun o ho => ha o (hF o ho)
      exact handed_agree (fun o ho => by rw [callF_agree hag]; exact ho) (fun o ho => (hag o ho).1) hhand
    · exact namesOk_agree (fun t ht o ho => by subst ht; exact (ha o (hF o (callF_new ho))).2) hnm

theorem part_loc {α : Type} {ag : Bool} {n off : Nat} {cs : List α} {mk : List α → AV} {one : α → AV} (h : evPart ag n cs off mk one (K · .none)) :
    ∃ v, K v .none ∧ ∀ K' : AV → Chg → Prop, K' v .none → evPart ag n cs off mk one (K' · .none) := by
  cases ag with
  | true =>
    simp only [evPart, if_true] at *
    exact ⟨_, h.2, fun K' hk => ⟨h.1, hk⟩⟩
  | false =>
    simp only [evPart, Bool.false_eq_true, if_false] at *
    cases hc : cs[off]? with
    | none => simp [hc] at h
    | some v => simp only [hc] at h ⊢; exact ⟨_, h, fun K' hk => hk⟩

theorem bin_loc {op : BinOp} {k k' : IntKind} {a b : Int} (h : evBin op k k' a b (K · .none)) : ∃ v, K v .none ∧ ∀ K' : AV → Chg → Prop, K' v .none → evBin op k k' a b (K' · .none) := by
  cases op <;> simp only [evBin] at h ⊢ <;> first
    | exact ⟨_, h.2.2, fun K' hk => ⟨h.1, h.2.1, hk⟩⟩
    | exact ⟨_, h.2, fun K' hk => ⟨h.1, hk⟩⟩

theorem rng_loc {lo hi : Bool} {len : Nat} {rest : List AV} {C : Nat → Nat → Prop} (h : rngP lo hi len rest C) : ∃ a b, C a b ∧ ∀ C' : Nat → Nat → Prop, C' a b → rngP lo hi len rest C' := by
  cases lo <;> cases hi <;> simp only [rngP, if_true, if_false, Bool.false_eq_true] at h ⊢
  · split at h
    · exact ⟨_, _, h, fun C' hc => hc⟩
    · exact h.elim
  · split at h
    · exact ⟨_, _, h.2.2, fun C' hc => ⟨h.1, h.2.1, hc⟩⟩
    · exact h.elim
  · split at h
    · exact ⟨_, _, h.2.2, fun C' hc => ⟨h.1, h.2.1, hc⟩⟩
    · exact h.elim
  · split at h
    · exact ⟨_, _, h.2.2.2, fun C' hc => ⟨h.1, h.2.1, h.2.2.1, hc⟩⟩
    · exact h.elim

/-- Nothing of the objects is looked at. -/
theorem loc_pure {W F : List Nat} {G : View → (AV → Chg → Prop) → Prop} (h : ∃ v, K v .none ∧ ∀ V' K', K' v .none → G V' K') : Loc W F V G K := by
  obtain ⟨v, h1, h2⟩ := h
  exact ⟨v, .none, h1, by simp [Chg.site], fun V' K' _ hk => h2 V' K' hk⟩

theorem ev_loc {op : IOp} {xs : List AV} (h : ev E dst V op xs K) : Loc (wfp V dst op xs) (fp V dst op xs) V (fun V' K' => ev E dst V' op xs K') K := by
  have sin : ∀ {x : AV} {o : Nat} {ys : List AV}, o ∈ x.sites → o ∈ AV.sites.sitesL (x :: ys) := fun {x o ys} h => by simp only [AV.sites.sitesL, List.mem_append]; exact .inl h
  cases op with
  | mov =>
    unfold ev at h; simp only at h; split at h
    · exact loc_pure ⟨_, h, fun V' K' hk => by unfold ev; exact hk⟩
    · exact h.elim
  | pick =>
    unfold ev at h; simp only at h; split at h
    · rename_i c a b
      cases c
      · simp at h; exact loc_pure ⟨_, h, fun V' K' hk => by unfold ev; simpa using hk⟩
      · simp at h; exact loc_pure ⟨_, h, fun V' K' hk => by unfold ev; simpa using hk⟩
    · exact h.elim
  | bin b =>
    unfold ev at h; simp only at h; split at h
    · obtain ⟨v, h1, h2⟩ := bin_loc h
      exact loc_pure ⟨v, h1, fun V' K' hk => by unfold ev; exact h2 K' hk⟩
    · exact h.elim
  | beq neg =>
    unfold ev at h; simp only at h; split at h
    · exact loc_pure ⟨_, h, fun V' K' hk => by unfold ev; exact hk⟩
    · exact h.elim
  | eqv neg tys =>
    unfold ev at h; simp only at h; split at h
    · rename_i x y
      split at h
      · rename_i a b ha hb
        exact loc_pure ⟨_, h.2.2, fun V' K' hk => by unfold ev; simp only [ha, hb]; exact ⟨h.1, h.2.1, hk⟩⟩
      · exact h.elim
    · exact h.elim
  | eqnil neg =>
    unfold ev at h; simp only at h; split at h
    · rename_i x
      split at h
      · rename_i nl l hl
        refine ⟨_, _, h, by simp [Chg.site], fun V' K' ha hk => ?_⟩
        unfold ev; simp only
        rw [asList_agree ha fun o ho => by simp only [fp, IOp.foot, IOp.isCall]; exact sin ho, hl]; exact hk
      · exact h.elim
    · exact h.elim
  | un u =>
    unfold ev at h; simp only at h; split at h
    · exact loc_pure ⟨_, h, fun V' K' hk => by unfold ev; exact hk⟩
    · exact loc_pure ⟨_, h, fun V' K' hk => by unfold ev; exact hk⟩
    · exact loc_pure ⟨_, h, fun V' K' hk => by unfold ev; exact hk⟩
    · exact h.elim
  | conv k =>
    unfold ev at h; simp only at h; split at h
    · exact loc_pure ⟨_, h, fun V' K' hk => by unfold ev; exact hk⟩
    · exact h.elim
  | load ag n =>
    unfold ev at h; simp only at h; split at h
    · rename_i o g off
      split at h
      · rename_i cs hg
        obtain ⟨v, h1, h2⟩ := part_loc h
        refine ⟨v, .none, h1, by simp [Chg.site], fun V' K' ha hk => ?_⟩
        unfold ev; simp only
        rw [ha.get (by simp [fp, IOp.foot, IOp.isCall, AV.sites.sitesL, AV.sites]), hg]; exact h2 K' hk
      · exact h.elim
    · rename_i o g es i off
      split at h
      · rename_i ety es' nl l hg
        obtain ⟨he, h⟩ := h
        split at h
        · rename_i x hx
          obtain ⟨v, h1, h2⟩ := part_loc h
          refine ⟨v, .none, h1, by simp [Chg.site], fun V' K' ha hk => ?_⟩
          unfold ev; simp only
          rw [ha.get (by simp [fp, IOp.foot, IOp.isCall, AV.sites.sitesL, AV.sites]), hg]
          simp only [hx]
          exact ⟨he, h2 K' hk⟩
        · exact h.elim
      · exact h.elim
    · obtain ⟨v, h1, h2⟩ := part_loc h
      exact loc_pure ⟨v, h1, fun V' K' hk => by unfold ev; exact h2 K' hk⟩
    · obtain ⟨v, h1, h2⟩ := part_loc h
      exact loc_pure ⟨v, h1, fun V' K' hk => by unfold ev; exact h2 K' hk⟩
    · exact h.elim
  | store n =>
    unfold ev at h; simp only at h; split at h
    · rename_i o g off v
      split at h
      · rename_i cs vs hg hv
        refine ⟨_, _, h.2.2, by simp [Chg.site, wfp, IOp.foot, IOp.isCall, AV.sites.sitesL, AV.sites], fun V' K' ha hk => ?_⟩
        unfold ev; simp only
        rw [ha.get (by simp [fp, IOp.foot, IOp.isCall, AV.sites.sitesL, AV.sites]), hg]
        simp only [hv]
        exact ⟨h.1, h.2.1, hk⟩
      · exact h.elim
    · rename_i o g es0 i off v
      split at h
      · rename_i ety es nl l y hg hv
        obtain ⟨he, h⟩ := h
        split at h
        · rename_i x hx
          refine ⟨_, _, h.2.2.2, by simp [Chg.site, wfp, IOp.foot, IOp.isCall, AV.sites.sitesL, AV.sites], fun V' K' ha hk => ?_⟩
          unfold ev; simp only
          rw [ha.get (by simp [fp, IOp.foot, IOp.isCall, AV.sites.sitesL, AV.sites]), hg]
          simp only [hv, hx]
          exact ⟨he, h.1, h.2.1, h.2.2.1, hk⟩
        · exact h.elim
      · exact h.elim
    · exact h.elim
  | nilck =>
    unfold ev at h; simp only at h
    split at h
    · exact loc_pure ⟨_, h, fun V' K' hk => by unfold ev; exact hk⟩
    · exact loc_pure ⟨_, h, fun V' K' hk => by unfold ev; exact hk⟩
    · exact loc_pure ⟨_, h, fun V' K' hk => by unfold ev; exact hk⟩
    · exact loc_pure ⟨_, h, fun V' K' hk => by unfold ev; exact hk⟩
    · exact h.elim
  | field ag off n =>
    unfold ev at h; simp only at h
    split at h
    · obtain ⟨v, h1, h2⟩ := part_loc h
      exact loc_pure ⟨v, h1, fun V' K' hk => by unfold ev; exact h2 K' hk⟩
    · obtain ⟨v, h1, h2⟩ := part_loc h
      exact loc_pure ⟨v, h1, fun V' K' hk => by unfold ev; exact h2 K' hk⟩
    · exact h.elim
  | faddr off =>
    unfold ev at h; simp only at h
    split at h
    · exact loc_pure ⟨_, h, fun V' K' hk => by unfold ev; exact hk⟩
    · exact loc_pure ⟨_, h, fun V' K' hk => by unfold ev; exact hk⟩
    · exact loc_pure ⟨_, h, fun V' K' hk => by unfold ev; exact hk⟩
    · exact loc_pure ⟨_, h, fun V' K' hk => by unfold ev; exact hk⟩
    · exact h.elim
  | iaddrS es =>
    unfold ev at h; simp only at h
    split at h
    · rename_i o g k i
      split at h
      · rename_i ety es' nl l hg
        refine ⟨_, _, h.2.2.2, by simp [Chg.site], fun V' K' ha hk => ?_⟩
        unfold ev; simp only
        rw [ha.get (by simp [fp, IOp.foot, IOp.isCall, AV.sites.sitesL, AV.sites]), hg]
        exact ⟨h.1, h.2.1, h.2.2.1, hk⟩
      · exact h.elim
    · obtain ⟨h1, h2, h⟩ := h
      split at h
      · rename_i x hx
        exact loc_pure ⟨_, h.2, fun V' K' hk => by unfold ev; simp only [hx]; exact ⟨h1, h2, h.1, hk⟩⟩
      · exact h.elim
    · obtain ⟨h1, h2, h⟩ := h
      split at h
      · rename_i x hx
        exact loc_pure ⟨_, h.2, fun V' K' hk => by unfold ev; simp only [hx]; exact ⟨h1, h2, h.1, hk⟩⟩
      · exact h.elim
    · exact h.elim
  | iaddrA len es =>
    unfold ev at h; simp only at h
    split at h
    · exact loc_pure ⟨_, h.2.2, fun V' K' hk => by unfold ev; exact ⟨h.1, h.2.1, hk⟩⟩
    · exact loc_pure ⟨_, h.2.2, fun V' K' hk => by unfold ev; exact ⟨h.1, h.2.1, hk⟩⟩
    · exact loc_pure ⟨_, h.2.2, fun V' K' hk => by unfold ev; exact ⟨h.1, h.2.1, hk⟩⟩
    · exact h.elim
  | index len es ag =>
    unfold ev at h; simp only at h
    split at h
    · obtain ⟨v, h1, h2⟩ := part_loc h.2.2
      exact loc_pure ⟨v, h1, fun V' K' hk => by unfold ev; exact ⟨h.1, h.2.1, h2 K' hk⟩⟩
    · obtain ⟨v, h1, h2⟩ := part_loc h.2.2
      exact loc_pure ⟨v, h1, fun V' K' hk => by unfold ev; exact ⟨h.1, h.2.1, h2 K' hk⟩⟩
    · exact h.elim
  | build z pl =>
    unfold ev at h; simp only at h
    split at h
    · rename_i cs hc
      exact loc_pure ⟨_, h.2, fun V' K' hk => by unfold ev; simp only [hc]; exact ⟨h.1, hk⟩⟩
    · exact h.elim
  | mkrow es z len ix =>
    unfold ev at h; simp only at h
    split at h
    · rename_i cs hc
      exact loc_pure ⟨_, h.2, fun V' K' hk => by unfold ev; simp only [hc]; exact ⟨h.1, hk⟩⟩
    · exact h.elim
  | mkrowO ety es z len ix =>
    unfold ev at h; simp only at h
    split at h
    · rename_i t l hl
      refine ⟨_, _, h.2.2, by simp [Chg.site, wfp, IOp.foot, IOp.isCall], fun V' K' ha hk => ?_⟩
      unfold ev; simp only [hl]
      rw [(ha t (by simp [fp, IOp.foot, IOp.isCall])).2]; exact ⟨h.1, h.2.1, hk⟩
    · exact h.elim
  | mkfn f => exact loc_pure ⟨_, h, fun V' K' hk => hk⟩
  | box =>
    unfold ev at h; simp only at h
    split at h
    · rename_i t v
      split at h
      · rename_i cs hc
        refine ⟨_, _, h.2, by simp [Chg.site, wfp, IOp.foot, IOp.isCall], fun V' K' ha hk => ?_⟩
        unfold ev; simp only [hc]
        rw [(ha t (by simp [fp, IOp.foot, IOp.isCall])).2]; exact ⟨h.1, hk⟩
      · exact h.elim
    · exact h.elim
  | zero cs =>
    unfold ev at h; simp only at h
    split at h
    · rename_i t
      refine ⟨_, _, h.2, by simp [Chg.site, wfp, IOp.foot, IOp.isCall], fun V' K' ha hk => ?_⟩
      unfold ev; simp only
      rw [(ha t (by simp [fp, IOp.foot, IOp.isCall])).2]; exact ⟨h.1, hk⟩
    · exact h.elim
  | mkmap tys =>
    unfold ev at h; simp only at h
    split at h
    · rename_i t
      refine ⟨_, _, h.2, by simp [Chg.site, wfp, IOp.foot, IOp.isCall], fun V' K' ha hk => ?_⟩
      unfold ev; simp only
      rw [(ha t (by simp [fp, IOp.foot, IOp.isCall])).2]; exact ⟨h.1, hk⟩
    · exact h.elim
  | mksl ety es z own =>
    unfold ev at h; simp only at h
    split at h
    · rename_i t n m
      obtain ⟨h1, h2, h3, h⟩ := h
      cases own with
      | true =>
        simp only [if_true] at h
        refine ⟨_, _, h.2, by simp [Chg.site, wfp, IOp.foot, IOp.isCall], fun V' K' ha hk => ?_⟩
        unfold ev; simp only [if_true]
        rw [(ha t (by simp [fp, IOp.foot, IOp.isCall])).2]; exact ⟨h1, h2, h3, h.1, hk⟩
      | false =>
        simp only [Bool.false_eq_true, if_false] at h
        exact loc_pure ⟨_, h, fun V' K' hk => by unfold ev; simp only [Bool.false_eq_true, if_false]; exact ⟨h1, h2, h3, hk⟩⟩
    · exact h.elim
  | slice es lo hi mx =>
    unfold ev at h; simp only at h
    cases mx with
    | true =>
      simp only [if_true] at h
      split at h
      · exact loc_pure ⟨_, h.2.2.2.2, fun V' K' hk => by unfold ev; simp only [if_true]; exact ⟨h.1, h.2.1, h.2.2.1, h.2.2.2.1, hk⟩⟩
      · exact loc_pure ⟨_, h.2.2, fun V' K' hk => by unfold ev; simp only [if_true]; exact ⟨h.1, h.2.1, hk⟩⟩
      · exact h.elim
    | false =>
      simp only [Bool.false_eq_true, if_false] at h
      split at h
      · obtain ⟨hu, h⟩ := h
        obtain ⟨a, b, h1, h2⟩ := rng_loc h
        exact loc_pure ⟨_, h1, fun V' K' hk => by unfold ev; simp only [Bool.false_eq_true, if_false]; exact ⟨hu, h2 _ hk⟩⟩
      · obtain ⟨hu, h⟩ := h
        obtain ⟨a, b, h1, h2⟩ := rng_loc h
        exact loc_pure ⟨_, h1, fun V' K' hk => by unfold ev; simp only [Bool.false_eq_true, if_false]; exact ⟨hu, h2 _ hk⟩⟩
      · rename_i o g rest
        split at h
        · rename_i ety es' nl l hg
          obtain ⟨hol, he, hh, h⟩ := h
          obtain ⟨a, b, h1, h2⟩ := rng_loc h
          refine ⟨_, _, h1, by simp [Chg.site, wfp, IOp.foot, IOp.isCall, AV.sites.sitesL, AV.sites], fun V' K' ha hk => ?_⟩
          unfold ev; simp only [Bool.false_eq_true, if_false]
          have ho : o ∈ fp V dst (.slice es lo hi false) (.own o g :: rest) := by simp [fp, IOp.foot, IOp.isCall, AV.sites.sitesL, AV.sites]
          rw [ha.get ho, hg, (ha o ho).2]
          exact ⟨hol, he, hh, h2 (fun a _ => K' (.own o (V.cn o)) (.fresh o (.row ety es nl (l.drop a)))) hk⟩
        · exact h.elim
      · exact h.elim
  | len m =>
    unfold ev at h; simp only at h
    split at h
    · rename_i x
      cases m with
      | true =>
        simp only [if_true] at h
        split at h
        · rename_i o g
          split at h
          · rename_i tys kvs hg
            refine ⟨_, _, h.2, by simp [Chg.site], fun V' K' ha hk => ?_⟩
            unfold ev; simp only [if_true]
            rw [ha.get (by simp [fp, IOp.foot, IOp.isCall, AV.sites.sitesL, AV.sites]), hg]; exact ⟨h.1, hk⟩
          · exact h.elim
        · exact h.elim
      | false =>
        simp only [Bool.false_eq_true, if_false] at h
        split at h
        · rename_i nl l hl
          refine ⟨_, _, h, by simp [Chg.site], fun V' K' ha hk => ?_⟩
          unfold ev; simp only [Bool.false_eq_true, if_false]
          rw [asList_agree ha fun o ho => by simp only [fp, IOp.foot, IOp.isCall]; exact sin ho, hl]; exact hk
        · exact h.elim
    · exact h.elim
  | minmax m =>
    unfold ev at h; simp only at h
    split at h
    · split at h
      · rename_i r hr
        exact loc_pure ⟨_, h, fun V' K' hk => by unfold ev; simp only [hr]; exact hk⟩
      · exact h.elim
    · exact h.elim
  | extract i =>
    unfold ev at h; simp only at h
    split at h
    · split at h
      · rename_i r hr
        exact loc_pure ⟨_, h, fun V' K' hk => by unfold ev; simp only [hr]; exact hk⟩
      · exact h.elim
    · exact h.elim
  | lookup ok tys z =>
    unfold ev at h; simp only at h
    split at h
    · rename_i o g key
      split at h
      · rename_i tys' kvs k hg hk'
        obtain ⟨h1, h2, h⟩ := h
        split at h
        · rename_i v hv
          refine ⟨_, _, h, by simp [Chg.site], fun V' K' ha hk => ?_⟩
          unfold ev; simp only
          rw [ha.get (by simp [fp, IOp.foot, IOp.isCall, AV.sites.sitesL, AV.sites]), hg]
          simp only [hk', hv]; exact ⟨h1, h2, hk⟩
        · rename_i hv
          refine ⟨_, _, h, by simp [Chg.site], fun V' K' ha hk => ?_⟩
          unfold ev; simp only
          rw [ha.get (by simp [fp, IOp.foot, IOp.isCall, AV.sites.sitesL, AV.sites]), hg]
          simp only [hk', hv]; exact ⟨h1, h2, hk⟩
      · exact h.elim
    · split at h
      · rename_i k hk'
        exact loc_pure ⟨_, h.2, fun V' K' hk => by unfold ev; simp only [hk']; exact ⟨h.1, hk⟩⟩
      · exact h.elim
    · exact h.elim
  | mapupd tys =>
    unfold ev at h; simp only at h
    split at h
    · rename_i o g key val
      split at h
      · rename_i tys' kvs k v hg hk' hv'
        refine ⟨_, _, h.2.2.2, by simp [Chg.site, wfp, IOp.foot, IOp.isCall, AV.sites.sitesL, AV.sites], fun V' K' ha hk => ?_⟩
        unfold ev; simp only
        rw [ha.get (by simp [fp, IOp.foot, IOp.isCall, AV.sites.sitesL, AV.sites]), hg]
        simp only [hk', hv']; exact ⟨h.1, h.2.1, h.2.2.1, hk⟩
      · exact h.elim
    · exact h.elim
  | mapent tys z =>
    unfold ev at h; simp only at h
    split at h
    · rename_i o g key
      split at h
      · rename_i tys' kvs k hg hk'
        obtain ⟨h1, h2, h3, h⟩ := h
        split at h
        · rename_i v hv
          refine ⟨_, _, h, by simp [Chg.site], fun V' K' ha hk => ?_⟩
          unfold ev; simp only
          rw [ha.get (by simp [fp, IOp.foot, IOp.isCall, AV.sites.sitesL, AV.sites]), hg]
          simp only [hk', hv]; exact ⟨h1, h2, h3, hk⟩
        · rename_i hv
          refine ⟨_, _, h, by simp [Chg.site, wfp, IOp.foot, IOp.isCall, AV.sites.sitesL, AV.sites], fun V' K' ha hk => ?_⟩
          unfold ev; simp only
          rw [ha.get (by simp [fp, IOp.foot, IOp.isCall, AV.sites.sitesL, AV.sites]), hg]
          simp only [hk', hv]; exact ⟨h1, h2, h3, hk⟩
      · exact h.elim
    · exact h.elim
  | entst =>
    unfold ev at h; simp only at h
    split at h
    · rename_i o g k i val
      split at h
      · rename_i tys kvs v hg hv'
        obtain ⟨h1, h2, h⟩ := h
        split at h
        · rename_i e hev
          refine ⟨_, _, h, by simp [Chg.site, wfp, IOp.foot, IOp.isCall, AV.sites.sitesL, AV.sites], fun V' K' ha hk => ?_⟩
          unfold ev; simp only
          rw [ha.get (by simp [fp, IOp.foot, IOp.isCall, AV.sites.sitesL, AV.sites]), hg]
          simp only [hv', hev]; exact ⟨h1, h2, hk⟩
        · exact h.elim
      · exact h.elim
    · exact h.elim
  | app ety es z own =>
    unfold ev at h; simp only at h
    split at h
    · rename_i x y
      split at h
      · exact h.elim
      · rename_i ys hys
        have hsrc : ∀ {V' : View}, AgreeV (fp V dst (.app ety es z own) [x, y]) V V' → appSrc V' z y = some ys := fun {V'} ha => by
          rw [appSrc_agree ha fun o ho => by simp [fp, IOp.foot, IOp.isCall, AV.sites.sitesL]; exact .inr (.inr ho), hys]
        split at h
        · rename_i o g
          split at h
          · rename_i ety' es' nl l hg
            obtain ⟨h0, h1, h2, h3, h4, h⟩ := h
            refine ⟨_, _, h, by simp [Chg.site, wfp, IOp.foot, IOp.isCall, AV.sites.sitesL, AV.sites], fun V' K' ha hk => ?_⟩
            have ho : o ∈ fp V dst (.app ety es z own) [.own o g, y] := by simp [fp, IOp.foot, IOp.isCall, AV.sites.sitesL, AV.sites]
            unfold ev; simp only [hsrc ha]
            rw [ha.get ho, hg, (ha o ho).2]
            exact ⟨h0, h1, h2, h3, h4, hk⟩
          · exact h.elim
        · obtain ⟨h1, h2, h⟩ := h
          cases own with
          | true =>
            simp only [if_true] at h
            split at h
            · rename_i t
              refine ⟨_, _, h.2, by simp [Chg.site, wfp, IOp.foot, IOp.isCall], fun V' K' ha hk => ?_⟩
              unfold ev; simp only [hsrc ha, if_true]
              rw [(ha t (by simp [fp, IOp.foot, IOp.isCall])).2]; exact ⟨h1, h2, h.1, hk⟩
            · exact h.elim
          | false =>
            simp only [Bool.false_eq_true, if_false] at h
            refine ⟨_, _, h, by simp [Chg.site], fun V' K' ha hk => ?_⟩
            unfold ev; simp only [hsrc ha, Bool.false_eq_true, if_false]; exact ⟨h1, h2, hk⟩
        · obtain ⟨h1, h2, h⟩ := h
          cases own with
          | true =>
            simp only [if_true] at h
            split at h
            · rename_i t
              split at h
              · refine ⟨_, _, h, by simp [Chg.site, wfp, IOp.foot, IOp.isCall], fun V' K' ha hk => ?_⟩
                unfold ev; simp only [hsrc ha, if_true]
                exact ⟨h1, h2, hk⟩
              · refine ⟨_, _, h.2, by simp [Chg.site, wfp, IOp.foot, IOp.isCall], fun V' K' ha hk => ?_⟩
                unfold ev; simp only [hsrc ha, if_true]
                rw [(ha t (by simp [fp, IOp.foot, IOp.isCall])).2]; exact ⟨h1, h2, h.1, hk⟩
            · exact h.elim
          | false =>
            simp only [Bool.false_eq_true, if_false] at h
            refine ⟨_, _, h, by simp [Chg.site], fun V' K' ha hk => ?_⟩
            unfold ev; simp only [hsrc ha, Bool.false_eq_true, if_false]; exact ⟨h1, h2, hk⟩
        · exact h.elim
    · exact h.elim
  | call f => exact evCall_loc (F := fp V dst (.call f) xs) (fun o ho => by simpa [fp, IOp.foot, IOp.isCall] using ho) h
  | callv =>
    unfold ev at h; simp only at h
    split at h
    · rename_i f cs args
      obtain ⟨hb, h⟩ := h
      obtain ⟨v, ch, h1, h2, h3⟩ := evCall_loc (F := fp V dst .callv (.fn f cs :: args)) (fun o ho => by
        have : o ∈ callF dst V (.fn f cs :: args) := callF_mono (fun o ho => by
          rw [sitesL_append] at ho
          simp only [AV.sites.sitesL, AV.sites, List.mem_append] at ho ⊢
          exact ho.symm) o ho
        simpa [fp, IOp.foot, IOp.isCall] using this) h
      exact ⟨v, ch, h1, h2, fun V' K' ha hk => by unfold ev; exact ⟨hb, h3 V' K' ha hk⟩⟩
    · rename_i f cs args
      obtain ⟨hb, h⟩ := h
      obtain ⟨v, ch, h1, h2, h3⟩ := evCall_loc (F := fp V dst .callv (.d (.fn f cs) :: args)) (fun o ho => by
        have : o ∈ callF dst V (.d (.fn f cs) :: args) := callF_mono (fun o ho => by
          rw [sitesL_append, sitesL_d] at ho
          simp only [AV.sites.sitesL, AV.sites, List.mem_append, List.append_nil, List.nil_append] at ho ⊢
          exact ho) o ho
        simpa [fp, IOp.foot, IOp.isCall] using this) h
      exact ⟨v, ch, h1, h2, fun V' K' ha hk => by unfold ev; exact ⟨hb, h3 V' K' ha hk⟩⟩
    · exact h.elim
  | delete => unfold ev at h; exact h.elim
end Go.Pw
