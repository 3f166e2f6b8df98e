/- What an operation depends on, and what it changes. -/
import Derived.Test.YtgeodifpcminpaaPwT
set_option linter.all false
namespace Go.Pw
set_option linter.unusedSimpArgs false
set_option linter.unusedVariables false

/-- The sites that a value names. -/
def AV.sites : AV → List Nat
  | .own o _ | .map o _ | .ptr o _ _ | .rptr o _ _ _ _ => [o]
  | .agg cs => sitesL cs
  | .fn _ cs => sitesL cs
  | .tup cs => sitesL cs
  | _ => []
where
  sitesL : List AV → List Nat
    | [] => []
    | x :: xs => x.sites ++ sitesL xs

inductive Foot where
  | none | read | all

def IOp.foot : IOp → Foot
  | .mov | .pick | .bin _ | .beq _ | .eqv .. | .un _ | .conv _ | .nilck | .field .. | .faddr _ | .iaddrA .. | .index .. | .build .. | .mkrow .. | .mkfn _ | .minmax _ | .extract _ => .none
  | .eqnil _ | .load .. | .iaddrS _ | .len _ | .lookup .. => .read
  | _ => .all

/-- The sites that an operation may look at or change. -/
def fp (dst : Option Nat) (op : IOp) (xs : List AV) : List Nat :=
  match op.foot with
  | .none => []
  | .read => AV.sites.sitesL xs
  | .all => dst.toList ++ AV.sites.sitesL xs

/-- The sites that it may change. -/
def wfp (dst : Option Nat) (op : IOp) (xs : List AV) : List Nat :=
  match op.foot with
  | .all => dst.toList ++ AV.sites.sitesL xs
  | _ => []

theorem wfp_fp {dst : Option Nat} {op : IOp} {xs : List AV} {o : Nat} (h : o ∈ wfp dst op xs) : o ∈ fp dst op xs := by
  unfold wfp at h; unfold fp
  split at h
  · simp_all
  · cases h

def Chg.site : Chg → Option Nat
  | .none => Option.none
  | .keep o _ _ => some o
  | .fresh o _ => some o

def AgreeV (F : List Nat) (V V' : View) : Prop := ∀ o, o ∈ F → V'.ob o = V.ob o ∧ V'.cn o = V.cn o

theorem AgreeV.get {F : List Nat} {V V' : View} (h : AgreeV F V V') {o g : Nat} (ho : o ∈ F) : V'.get o g = V.get o g := by
  simp only [View.get, (h o ho).1]

theorem mem_sitesL {x : AV} {xs : List AV} {o : Nat} (hx : x ∈ xs) (ho : o ∈ x.sites) : o ∈ AV.sites.sitesL xs := by
  induction xs with
  | nil => cases hx
  | cons y ys ih =>
    simp only [AV.sites.sitesL, List.mem_append]
    cases hx with
    | head => exact .inl ho
    | tail _ h => exact .inr (ih h)

theorem asList_agree {F : List Nat} {V V' : View} (h : AgreeV F V V') {x : AV} (hx : ∀ o, o ∈ x.sites → o ∈ F) : x.asList V' = x.asList V := by
  cases x with
  | own o g => simp only [AV.asList, h.get (hx o (by simp [AV.sites]))]
  | d x => cases x <;> rfl
  | _ => rfl

theorem appSrc_agree {F : List Nat} {V V' : View} (h : AgreeV F V V') {z : Option D} {x : AV} (hx : ∀ o, o ∈ x.sites → o ∈ F) : appSrc V' z x = appSrc V z x := by
  cases z <;> simp only [appSrc, asList_agree h hx]

theorem snap0_agree {F : List Nat} {V V' : View} (h : AgreeV F V V') {x : AV} (hx : ∀ o, o ∈ x.sites → o ∈ F) : x.snap0 V' = x.snap0 V := by
  cases x with
  | own o g => simp only [AV.snap0, h.get (hx o (by simp [AV.sites]))]
  | ptr o g off =>
    have := h.get (g := g) (hx o (by simp [AV.sites]))
    cases off with
    | zero => simp only [AV.snap0, this]
    | succ n => rfl
  | _ => rfl

theorem listM_congr {α γ : Type} {f g : α → Option γ} : ∀ {l : List α}, (∀ x, x ∈ l → f x = g x) → listM f l = listM g l
  | [], _ => rfl
  | x :: l, h => by simp only [listM, h x (by simp), listM_congr (l := l) fun y hy => h y (by simp [hy])]

theorem snap_agree {F : List Nat} {V V' : View} (h : AgreeV F V V') {x : AV} (hx : ∀ o, o ∈ x.sites → o ∈ F) : x.snap V' = x.snap V := by
  cases x with
  | agg cs => simp only [AV.snap]; rw [listM_congr fun y hy => snap0_agree h fun o ho => hx o (by simp only [AV.sites]; exact mem_sitesL hy ho)]
  | fn f cs => simp only [AV.snap]; rw [listM_congr fun y hy => snap0_agree h fun o ho => hx o (by simp only [AV.sites]; exact mem_sitesL hy ho)]
  | _ => exact snap0_agree h hx

theorem argsD_agree {F : List Nat} {V V' : View} (h : AgreeV F V V') {xs : List AV} (hx : ∀ o, o ∈ AV.sites.sitesL xs → o ∈ F) : argsD V' xs = argsD V xs :=
  listM_congr fun y hy => snap_agree h fun o ho => hx o (mem_sitesL hy ho)

theorem sitesL_append (xs ys : List AV) : AV.sites.sitesL (xs ++ ys) = AV.sites.sitesL xs ++ AV.sites.sitesL ys := by
  induction xs with
  | nil => rfl
  | cons x xs ih => simp only [List.cons_append, AV.sites.sitesL, ih, List.append_assoc]
theorem sitesL_d (cs : List D) : AV.sites.sitesL (cs.map .d) = [] := by
  induction cs with
  | nil => rfl
  | cons x xs ih => simp only [List.map_cons, AV.sites.sitesL, AV.sites, ih, List.append_nil]

variable {E : Env} {dst : Option Nat} {V : View} {K : AV → Chg → Prop}

/-- WHAT AN OPERATION GIVES IS ONE VALUE AND ONE CHANGE, and they hang on its footprint alone. -/
def Loc (W F : List Nat) (V : View) (G : View → (AV → Chg → Prop) → Prop) (K : AV → Chg → Prop) : Prop :=
  ∃ v ch, K v ch ∧ (∀ o, ch.site = some o → o ∈ W) ∧ ∀ V' K', AgreeV F V V' → K' v ch → G V' K'

theorem evCall_loc {f : FuncId} {xs : List AV} {F : List Nat} (hd : ∀ t, dst = some t → t ∈ F) (hx : ∀ o, o ∈ AV.sites.sitesL xs → o ∈ F) (h : evCall E dst V f xs K) : Loc F F V (fun V' K' => evCall E dst V' f xs K') K := by
  rcases h with ⟨ds, r, h1, h2, hK⟩ | ⟨ds, r, h1, h2, h3, hK⟩ | ⟨ds, t, ety, es, nl, l, h1, h2, h3, hK⟩
  · exact ⟨_, _, hK, by simp [Chg.site], fun V' K' _ hk => .inl ⟨ds, r, h1, h2, hk⟩⟩
  · exact ⟨_, _, hK, by simp [Chg.site], fun V' K' ha hk => .inr (.inl ⟨ds, r, by rw [argsD_agree ha hx]; exact h1, h2, h3, hk⟩)⟩
  · refine ⟨_, _, hK, fun o ho => by simp [Chg.site] at ho; subst ho; exact hd _ h1, fun V' K' ha hk => .inr (.inr ⟨ds, t, ety, es, nl, l, h1, h2, h3, ?_⟩)⟩
    rw [(ha t (hd _ h1)).2]; exact hk

theorem part_loc {α : Type} {ag : Bool} {n off : Nat} {cs : List α} {mk : List α → AV} {one : α → AV} (h : evPart ag n cs off mk one (K · .none)) :
    ∃ v, K v .none ∧ ∀ K' : AV → Chg → Prop, K' v .none → evPart ag n cs off mk one (K' · .none) := by
  cases ag with
  | true =>
    simp only [evPart, if_true] at *
    exact ⟨_, h.2, fun K' hk => ⟨h.1, hk⟩⟩
  | false =>
    simp only [evPart, Bool.false_eq_true, if_false] at *
    cases hc : cs[off]? with
    | none => simp [hc] at h
    | some v => simp only [hc] at h ⊢; exact ⟨_, h, fun K' hk => hk⟩

theorem bin_loc {op : BinOp} {k k' : IntKind} {a b : Int} (h : evBin op k k' a b (K · .none)) : ∃ v, K v .none ∧ ∀ K' : AV → Chg → Prop, K' v .none → evBin op k k' a b (K' · .none) := by
  cases op <;> simp only [evBin] at h ⊢ <;> first
    | exact ⟨_, h.2.2, fun K' hk => ⟨h.1, h.2.1, hk⟩⟩
    | exact ⟨_, h.2, fun K' hk => ⟨h.1, hk⟩⟩

theorem rng_loc {lo hi : Bool} {len : Nat} {rest : List AV} {C : Nat → Nat → Prop} (h : rngP lo hi len rest C) : ∃ a b, C a b ∧ ∀ C' : Nat → Nat → Prop, C' a b → rngP lo hi len rest C' := by
  cases lo <;> cases hi <;> simp only [rngP, if_true, if_false, Bool.false_eq_true] at h ⊢
  · split at h
    · exact ⟨_, _, h, fun C' hc => hc⟩
    · exact h.elim
  · split at h
    · exact ⟨_, _, h.2.2, fun C' hc => ⟨h.1, h.2.1, hc⟩⟩
    · exact h.elim
  · split at h
    · exact ⟨_, _, h.2.2, fun C' hc => ⟨h.1, h.2.1, hc⟩⟩
    · exact h.elim
  · split at h
    · exact ⟨_, _, h.2.2.2, fun C' hc => ⟨h.1, h.2.1, h.2.2.1, hc⟩⟩
    · exact h.elim

/-- Nothing of the objects is looked at. -/
theorem loc_pure {W F : List Nat} {G : View → (AV → Chg → Prop) → Prop} (h : ∃ v, K v .none ∧ ∀ V' K', K' v .none → G V' K') : Loc W F V G K := by
  obtain ⟨v, h1, h2⟩ := h
  exact ⟨v, .none, h1, by simp [Chg.site], fun V' K' _ hk => h2 V' K' hk⟩

theorem ev_loc {op : IOp} {xs : List AV} (h : ev E dst V op xs K) : Loc (wfp dst op xs) (fp dst op xs) V (fun V' K' => ev E dst V' op xs K') K := by
  have sin : ∀ {x : AV} {o : Nat} {ys : List AV}, o ∈ x.sites → o ∈ AV.sites.sitesL (x :: ys) := fun {x o ys} h => by simp only [AV.sites.sitesL, List.mem_append]; exact .inl h
  cases op with
  | mov =>
    unfold ev at h; simp only at h; split at h
    · exact loc_pure ⟨_, h, fun V' K' hk => by unfold ev; exact hk⟩
    · exact h.elim
  | pick =>
    unfold ev at h; simp only at h; split at h
    · rename_i c a b
      cases c
      · simp at h; exact loc_pure ⟨_, h, fun V' K' hk => by unfold ev; simpa using hk⟩
      · simp at h; exact loc_pure ⟨_, h, fun V' K' hk => by unfold ev; simpa using hk⟩
    · exact h.elim
  | bin b =>
    unfold ev at h; simp only at h; split at h
    · obtain ⟨v, h1, h2⟩ := bin_loc h
      exact loc_pure ⟨v, h1, fun V' K' hk => by unfold ev; exact h2 K' hk⟩
    · exact h.elim
  | beq neg =>
    unfold ev at h; simp only at h; split at h
    · exact loc_pure ⟨_, h, fun V' K' hk => by unfold ev; exact hk⟩
    · exact h.elim
  | eqv neg tys =>
    unfold ev at h; simp only at h; split at h
    · rename_i x y
      split at h
      · rename_i a b ha hb
        exact loc_pure ⟨_, h.2.2, fun V' K' hk => by unfold ev; simp only [ha, hb]; exact ⟨h.1, h.2.1, hk⟩⟩
      · exact h.elim
    · exact h.elim
  | eqnil neg =>
    unfold ev at h; simp only at h; split at h
    · rename_i x
      split at h
      · rename_i nl l hl
        refine ⟨_, _, h, by simp [Chg.site], fun V' K' ha hk => ?_⟩
        unfold ev; simp only
        rw [asList_agree ha fun o ho => by simp only [fp, IOp.foot]; exact sin ho, hl]; exact hk
      · exact h.elim
    · exact h.elim
  | un u =>
    unfold ev at h; simp only at h; split at h
    · exact loc_pure ⟨_, h, fun V' K' hk => by unfold ev; exact hk⟩
    · exact loc_pure ⟨_, h, fun V' K' hk => by unfold ev; exact hk⟩
    · exact loc_pure ⟨_, h, fun V' K' hk => by unfold ev; exact hk⟩
    · exact h.elim
  | conv k =>
    unfold ev at h; simp only at h; split at h
    · exact loc_pure ⟨_, h, fun V' K' hk => by unfold ev; exact hk⟩
    · exact h.elim
  | load ag n =>
    unfold ev at h; simp only at h; split at h
    · rename_i o g off
      split at h
      · rename_i cs hg
        obtain ⟨v, h1, h2⟩ := part_loc h
        refine ⟨v, .none, h1, by simp [Chg.site], fun V' K' ha hk => ?_⟩
        unfold ev; simp only
        rw [ha.get (by simp [fp, IOp.foot, AV.sites.sitesL, AV.sites]), hg]; exact h2 K' hk
      · exact h.elim
    · rename_i o g es i off
      split at h
      · rename_i ety es' nl l hg
        obtain ⟨he, h⟩ := h
        split at h
        · rename_i x hx
          obtain ⟨v, h1, h2⟩ := part_loc h
          refine ⟨v, .none, h1, by simp [Chg.site], fun V' K' ha hk => ?_⟩
          unfold ev; simp only
          rw [ha.get (by simp [fp, IOp.foot, AV.sites.sitesL, AV.sites]), hg]
          simp only [hx]
          exact ⟨he, h2 K' hk⟩
        · exact h.elim
      · exact h.elim
    · obtain ⟨v, h1, h2⟩ := part_loc h
      exact loc_pure ⟨v, h1, fun V' K' hk => by unfold ev; exact h2 K' hk⟩
    · obtain ⟨v, h1, h2⟩ := part_loc h
      exact loc_pure ⟨v, h1, fun V' K' hk => by unfold ev; exact h2 K' hk⟩
    · exact h.elim
  | store n =>
    unfold ev at h; simp only at h; split at h
    · rename_i o g off v
      split at h
      · rename_i cs vs hg hv
        refine ⟨_, _, h.2.2, by simp [Chg.site, wfp, IOp.foot, AV.sites.sitesL, AV.sites], fun V' K' ha hk => ?_⟩
        unfold ev; simp only
        rw [ha.get (by simp [fp, IOp.foot, AV.sites.sitesL, AV.sites]), hg]
        simp only [hv]
        exact ⟨h.1, h.2.1, hk⟩
      · exact h.elim
    · rename_i o g es0 i off v
      split at h
      · rename_i ety es nl l y hg hv
        obtain ⟨he, h⟩ := h
        split at h
        · rename_i x hx
          refine ⟨_, _, h.2.2.2, by simp [Chg.site, wfp, IOp.foot, AV.sites.sitesL, AV.sites], fun V' K' ha hk => ?_⟩
          unfold ev; simp only
          rw [ha.get (by simp [fp, IOp.foot, AV.sites.sitesL, AV.sites]), hg]
          simp only [hv, hx]
          exact ⟨he, h.1, h.2.1, h.2.2.1, hk⟩
        · exact h.elim
      · exact h.elim
    · exact h.elim
  | nilck =>
    unfold ev at h; simp only at h
    split at h
    · exact loc_pure ⟨_, h, fun V' K' hk => by unfold ev; exact hk⟩
    · exact loc_pure ⟨_, h, fun V' K' hk => by unfold ev; exact hk⟩
    · exact loc_pure ⟨_, h, fun V' K' hk => by unfold ev; exact hk⟩
    · exact loc_pure ⟨_, h, fun V' K' hk => by unfold ev; exact hk⟩
    · exact h.elim
  | field ag off n =>
    unfold ev at h; simp only at h
    split at h
    · obtain ⟨v, h1, h2⟩ := part_loc h
      exact loc_pure ⟨v, h1, fun V' K' hk => by unfold ev; exact h2 K' hk⟩
    · obtain ⟨v, h1, h2⟩ := part_loc h
      exact loc_pure ⟨v, h1, fun V' K' hk => by unfold ev; exact h2 K' hk⟩
    · exact h.elim
  | faddr off =>
    unfold ev at h; simp only at h
    split at h
    · exact loc_pure ⟨_, h, fun V' K' hk => by unfold ev; exact hk⟩
    · exact loc_pure ⟨_, h, fun V' K' hk => by unfold ev; exact hk⟩
    · exact loc_pure ⟨_, h, fun V' K' hk => by unfold ev; exact hk⟩
    · exact loc_pure ⟨_, h, fun V' K' hk => by unfold ev; exact hk⟩
    · exact h.elim
  | iaddrS es =>
    unfold ev at h; simp only at h
    split at h
    · rename_i o g k i
      split at h
      · rename_i ety es' nl l hg
        refine ⟨_, _, h.2.2.2, by simp [Chg.site], fun V' K' ha hk => ?_⟩
        unfold ev; simp only
        rw [ha.get (by simp [fp, IOp.foot, AV.sites.sitesL, AV.sites]), hg]
        exact ⟨h.1, h.2.1, h.2.2.1, hk⟩
      · exact h.elim
    · obtain ⟨h1, h2, h⟩ := h
      split at h
      · rename_i x hx
        exact loc_pure ⟨_, h.2, fun V' K' hk => by unfold ev; simp only [hx]; exact ⟨h1, h2, h.1, hk⟩⟩
      · exact h.elim
    · obtain ⟨h1, h2, h⟩ := h
      split at h
      · rename_i x hx
        exact loc_pure ⟨_, h.2, fun V' K' hk => by unfold ev; simp only [hx]; exact ⟨h1, h2, h.1, hk⟩⟩
      · exact h.elim
    · exact h.elim
  | iaddrA len es =>
    unfold ev at h; simp only at h
    split at h
    · exact loc_pure ⟨_, h.2.2, fun V' K' hk => by unfold ev; exact ⟨h.1, h.2.1, hk⟩⟩
    · exact loc_pure ⟨_, h.2.2, fun V' K' hk => by unfold ev; exact ⟨h.1, h.2.1, hk⟩⟩
    · exact loc_pure ⟨_, h.2.2, fun V' K' hk => by unfold ev; exact ⟨h.1, h.2.1, hk⟩⟩
    · exact h.elim
  | index len es ag =>
    unfold ev at h; simp only at h
    split at h
    · obtain ⟨v, h1, h2⟩ := part_loc h.2.2
      exact loc_pure ⟨v, h1, fun V' K' hk => by unfold ev; exact ⟨h.1, h.2.1, h2 K' hk⟩⟩
    · obtain ⟨v, h1, h2⟩ := part_loc h.2.2
      exact loc_pure ⟨v, h1, fun V' K' hk => by unfold ev; exact ⟨h.1, h.2.1, h2 K' hk⟩⟩
    · exact h.elim
  | build z pl =>
    unfold ev at h; simp only at h
    split at h
    · rename_i cs hc
      exact loc_pure ⟨_, h.2, fun V' K' hk => by unfold ev; simp only [hc]; exact ⟨h.1, hk⟩⟩
    · exact h.elim
  | mkrow es z len ix =>
    unfold ev at h; simp only at h
    split at h
    · rename_i cs hc
      exact loc_pure ⟨_, h.2, fun V' K' hk => by unfold ev; simp only [hc]; exact ⟨h.1, hk⟩⟩
    · exact h.elim
  | mkrowO ety es z len ix =>
    unfold ev at h; simp only at h
    split at h
    · rename_i t l hl
      refine ⟨_, _, h.2, by simp [Chg.site, wfp, IOp.foot], fun V' K' ha hk => ?_⟩
      unfold ev; simp only [hl]
      rw [(ha t (by simp [fp, IOp.foot])).2]; exact ⟨h.1, hk⟩
    · exact h.elim
  | mkfn f => exact loc_pure ⟨_, h, fun V' K' hk => hk⟩
  | box =>
    unfold ev at h; simp only at h
    split at h
    · rename_i t v
      split at h
      · rename_i cs hc
        refine ⟨_, _, h, by simp [Chg.site, wfp, IOp.foot], fun V' K' ha hk => ?_⟩
        unfold ev; simp only [hc]
        rw [(ha t (by simp [fp, IOp.foot])).2]; exact hk
      · exact h.elim
    · exact h.elim
  | zero cs =>
    unfold ev at h; simp only at h
    split at h
    · rename_i t
      refine ⟨_, _, h, by simp [Chg.site, wfp, IOp.foot], fun V' K' ha hk => ?_⟩
      unfold ev; simp only
      rw [(ha t (by simp [fp, IOp.foot])).2]; exact hk
    · exact h.elim
  | mkmap tys =>
    unfold ev at h; simp only at h
    split at h
    · rename_i t
      refine ⟨_, _, h, by simp [Chg.site, wfp, IOp.foot], fun V' K' ha hk => ?_⟩
      unfold ev; simp only
      rw [(ha t (by simp [fp, IOp.foot])).2]; exact hk
    · exact h.elim
  | mksl ety es z own =>
    unfold ev at h; simp only at h
    split at h
    · rename_i t n m
      obtain ⟨h1, h2, h3, h⟩ := h
      cases own with
      | true =>
        simp only [if_true] at h
        refine ⟨_, _, h, by simp [Chg.site, wfp, IOp.foot], fun V' K' ha hk => ?_⟩
        unfold ev; simp only [if_true]
        rw [(ha t (by simp [fp, IOp.foot])).2]; exact ⟨h1, h2, h3, hk⟩
      | false =>
        simp only [Bool.false_eq_true, if_false] at h
        exact loc_pure ⟨_, h, fun V' K' hk => by unfold ev; simp only [Bool.false_eq_true, if_false]; exact ⟨h1, h2, h3, hk⟩⟩
    · exact h.elim
  | slice es lo hi mx =>
    unfold ev at h; simp only at h
    cases mx with
    | true =>
      simp only [if_true] at h
      split at h
      · exact loc_pure ⟨_, h.2.2.2.2, fun V' K' hk => by unfold ev; simp only [if_true]; exact ⟨h.1, h.2.1, h.2.2.1, h.2.2.2.1, hk⟩⟩
      · exact loc_pure ⟨_, h.2.2, fun V' K' hk => by unfold ev; simp only [if_true]; exact ⟨h.1, h.2.1, hk⟩⟩
      · exact h.elim
    | false =>
      simp only [Bool.false_eq_true, if_false] at h
      split at h
      · obtain ⟨hu, h⟩ := h
        obtain ⟨a, b, h1, h2⟩ := rng_loc h
        exact loc_pure ⟨_, h1, fun V' K' hk => by unfold ev; simp only [Bool.false_eq_true, if_false]; exact ⟨hu, h2 _ hk⟩⟩
      · obtain ⟨hu, h⟩ := h
        obtain ⟨a, b, h1, h2⟩ := rng_loc h
        exact loc_pure ⟨_, h1, fun V' K' hk => by unfold ev; simp only [Bool.false_eq_true, if_false]; exact ⟨hu, h2 _ hk⟩⟩
      · rename_i o g rest
        split at h
        · rename_i ety es' nl l hg
          obtain ⟨he, hh, h⟩ := h
          obtain ⟨a, b, h1, h2⟩ := rng_loc h
          refine ⟨_, _, h1, by simp [Chg.site, wfp, IOp.foot, AV.sites.sitesL, AV.sites], fun V' K' ha hk => ?_⟩
          unfold ev; simp only [Bool.false_eq_true, if_false]
          have ho : o ∈ fp dst (.slice es lo hi false) (.own o g :: rest) := by simp [fp, IOp.foot, AV.sites.sitesL, AV.sites]
          rw [ha.get ho, hg, (ha o ho).2]
          exact ⟨he, hh, h2 (fun a _ => K' (.own o (V.cn o)) (.fresh o (.row ety es nl (l.drop a)))) hk⟩
        · exact h.elim
      · exact h.elim
  | len m =>
    unfold ev at h; simp only at h
    split at h
    · rename_i x
      cases m with
      | true =>
        simp only [if_true] at h
        split at h
        · rename_i o g
          split at h
          · rename_i tys kvs hg
            refine ⟨_, _, h.2, by simp [Chg.site], fun V' K' ha hk => ?_⟩
            unfold ev; simp only [if_true]
            rw [ha.get (by simp [fp, IOp.foot, AV.sites.sitesL, AV.sites]), hg]; exact ⟨h.1, hk⟩
          · exact h.elim
        · exact h.elim
      | false =>
        simp only [Bool.false_eq_true, if_false] at h
        split at h
        · rename_i nl l hl
          refine ⟨_, _, h, by simp [Chg.site], fun V' K' ha hk => ?_⟩
          unfold ev; simp only [Bool.false_eq_true, if_false]
          rw [asList_agree ha fun o ho => by simp only [fp, IOp.foot]; exact sin ho, hl]; exact hk
        · exact h.elim
    · exact h.elim
  | minmax m =>
    unfold ev at h; simp only at h
    split at h
    · split at h
      · rename_i r hr
        exact loc_pure ⟨_, h, fun V' K' hk => by unfold ev; simp only [hr]; exact hk⟩
      · exact h.elim
    · exact h.elim
  | extract i =>
    unfold ev at h; simp only at h
    split at h
    · split at h
      · rename_i r hr
        exact loc_pure ⟨_, h, fun V' K' hk => by unfold ev; simp only [hr]; exact hk⟩
      · exact h.elim
    · exact h.elim
  | lookup ok tys z =>
    unfold ev at h; simp only at h
    split at h
    · rename_i o g key
      split at h
      · rename_i tys' kvs k hg hk'
        obtain ⟨h1, h2, h⟩ := h
        split at h
        · rename_i v hv
          refine ⟨_, _, h, by simp [Chg.site], fun V' K' ha hk => ?_⟩
          unfold ev; simp only
          rw [ha.get (by simp [fp, IOp.foot, AV.sites.sitesL, AV.sites]), hg]
          simp only [hk', hv]; exact ⟨h1, h2, hk⟩
        · rename_i hv
          refine ⟨_, _, h, by simp [Chg.site], fun V' K' ha hk => ?_⟩
          unfold ev; simp only
          rw [ha.get (by simp [fp, IOp.foot, AV.sites.sitesL, AV.sites]), hg]
          simp only [hk', hv]; exact ⟨h1, h2, hk⟩
      · exact h.elim
    · split at h
      · rename_i k hk'
        exact loc_pure ⟨_, h.2, fun V' K' hk => by unfold ev; simp only [hk']; exact ⟨h.1, hk⟩⟩
      · exact h.elim
    · exact h.elim
  | mapupd tys =>
    unfold ev at h; simp only at h
    split at h
    · rename_i o g key val
      split at h
      · rename_i tys' kvs k v hg hk' hv'
        refine ⟨_, _, h.2.2.2, by simp [Chg.site, wfp, IOp.foot, AV.sites.sitesL, AV.sites], fun V' K' ha hk => ?_⟩
        unfold ev; simp only
        rw [ha.get (by simp [fp, IOp.foot, AV.sites.sitesL, AV.sites]), hg]
        simp only [hk', hv']; exact ⟨h.1, h.2.1, h.2.2.1, hk⟩
      · exact h.elim
    · exact h.elim
  | mapent tys z =>
    unfold ev at h; simp only at h
    split at h
    · rename_i o g key
      split at h
      · rename_i tys' kvs k hg hk'
        obtain ⟨h1, h2, h3, h⟩ := h
        split at h
        · rename_i v hv
          refine ⟨_, _, h, by simp [Chg.site], fun V' K' ha hk => ?_⟩
          unfold ev; simp only
          rw [ha.get (by simp [fp, IOp.foot, AV.sites.sitesL, AV.sites]), hg]
          simp only [hk', hv]; exact ⟨h1, h2, h3, hk⟩
        · rename_i hv
          refine ⟨_, _, h, by simp [Chg.site, wfp, IOp.foot, AV.sites.sitesL, AV.sites], fun V' K' ha hk => ?_⟩
          unfold ev; simp only
          rw [ha.get (by simp [fp, IOp.foot, AV.sites.sitesL, AV.sites]), hg]
          simp only [hk', hv]; exact ⟨h1, h2, h3, hk⟩
      · exact h.elim
    · exact h.elim
  | entst =>
    unfold ev at h; simp only at h
    split at h
    · rename_i o g k i val
      split at h
      · rename_i tys kvs v hg hv'
        obtain ⟨h1, h2, h⟩ := h
        split at h
        · rename_i e hev
          refine ⟨_, _, h, by simp [Chg.site, wfp, IOp.foot, AV.sites.sitesL, AV.sites], fun V' K' ha hk => ?_⟩
          unfold ev; simp only
          rw [ha.get (by simp [fp, IOp.foot, AV.sites.sitesL, AV.sites]), hg]
          simp only [hv', hev]; exact ⟨h1, h2, hk⟩
        · exact h.elim
      · exact h.elim
    · exact h.elim
  | app ety es z own =>
    unfold ev at h; simp only at h
    split at h
    · rename_i x y
      split at h
      · exact h.elim
      · rename_i ys hys
        have hsrc : ∀ {V' : View}, AgreeV (fp dst (.app ety es z own) [x, y]) V V' → appSrc V' z y = some ys := fun {V'} ha => by
          rw [appSrc_agree ha fun o ho => by simp [fp, IOp.foot, AV.sites.sitesL]; exact .inr (.inr ho), hys]
        split at h
        · rename_i o g
          split at h
          · rename_i ety' es' nl l hg
            obtain ⟨h1, h2, h3, h4, h⟩ := h
            refine ⟨_, _, h, by simp [Chg.site, wfp, IOp.foot, AV.sites.sitesL, AV.sites], fun V' K' ha hk => ?_⟩
            have ho : o ∈ fp dst (.app ety es z own) [.own o g, y] := by simp [fp, IOp.foot, AV.sites.sitesL, AV.sites]
            unfold ev; simp only [hsrc ha]
            rw [ha.get ho, hg, (ha o ho).2]
            exact ⟨h1, h2, h3, h4, hk⟩
          · exact h.elim
        · obtain ⟨h1, h2, h⟩ := h
          cases own with
          | true =>
            simp only [if_true] at h
            split at h
            · rename_i t
              refine ⟨_, _, h, by simp [Chg.site, wfp, IOp.foot], fun V' K' ha hk => ?_⟩
              unfold ev; simp only [hsrc ha, if_true]
              rw [(ha t (by simp [fp, IOp.foot])).2]; exact ⟨h1, h2, hk⟩
            · exact h.elim
          | false =>
            simp only [Bool.false_eq_true, if_false] at h
            refine ⟨_, _, h, by simp [Chg.site], fun V' K' ha hk => ?_⟩
            unfold ev; simp only [hsrc ha, Bool.false_eq_true, if_false]; exact ⟨h1, h2, hk⟩
        · obtain ⟨h1, h2, h⟩ := h
          cases own with
          | true =>
            simp only [if_true] at h
            split at h
            · rename_i t
              split at h
              · refine ⟨_, _, h, by simp [Chg.site, wfp, IOp.foot], fun V' K' ha hk => ?_⟩
                unfold ev; simp only [hsrc ha, if_true]
                exact ⟨h1, h2, hk⟩
              · refine ⟨_, _, h, by simp [Chg.site, wfp, IOp.foot], fun V' K' ha hk => ?_⟩
                unfold ev; simp only [hsrc ha, if_true]
                rw [(ha t (by simp [fp, IOp.foot])).2]; exact ⟨h1, h2, hk⟩
            · exact h.elim
          | false =>
            simp only [Bool.false_eq_true, if_false] at h
            refine ⟨_, _, h, by simp [Chg.site], fun V' K' ha hk => ?_⟩
            unfold ev; simp only [hsrc ha, Bool.false_eq_true, if_false]; exact ⟨h1, h2, hk⟩
        · exact h.elim
    · exact h.elim
  | call f => exact evCall_loc (F := fp dst (.call f) xs) (fun t ht => by simp [fp, IOp.foot, ht]) (fun o ho => by simp [fp, IOp.foot]; exact .inr ho) h
  | callv =>
    unfold ev at h; simp only at h
    split at h
    · rename_i f cs args
      obtain ⟨hb, h⟩ := h
      obtain ⟨v, ch, h1, h2, h3⟩ := evCall_loc (F := fp dst .callv (.fn f cs :: args)) (fun t ht => by simp [fp, IOp.foot, ht]) (fun o ho => by
        rw [sitesL_append] at ho
        simp only [fp, IOp.foot, AV.sites.sitesL, AV.sites, List.mem_append] at ho ⊢
        rcases ho with ho | ho
        · exact .inr (.inr ho)
        · exact .inr (.inl ho)) h
      exact ⟨v, ch, h1, h2, fun V' K' ha hk => by unfold ev; exact ⟨hb, h3 V' K' ha hk⟩⟩
    · rename_i f cs args
      obtain ⟨hb, h⟩ := h
      obtain ⟨v, ch, h1, h2, h3⟩ := evCall_loc (F := fp dst .callv (.d (.fn f cs) :: args)) (fun t ht => by simp [fp, IOp.foot, ht]) (fun o ho => by
        rw [sitesL_append, sitesL_d] at ho
        simp only [fp, IOp.foot, AV.sites.sitesL, AV.sites, List.mem_append, List.append_nil, List.nil_append] at ho ⊢
        exact .inr ho) h
      exact ⟨v, ch, h1, h2, fun V' K' ha hk => by unfold ev; exact ⟨hb, h3 V' K' ha hk⟩⟩
    · exact h.elim
  | delete => unfold ev at h; exact h.elim
end Go.Pw
