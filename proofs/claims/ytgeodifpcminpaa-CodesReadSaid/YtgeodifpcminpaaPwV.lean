/- Regions: in the order of the text, and in any order that their edges allow. -/
import Derived.Test.YtgeodifpcminpaaPwU
set_option linter.all false
namespace Go.Pw
set_option linter.unusedSimpArgs false
set_option linter.unusedVariables false

def seqI (E : Env) : List Ins → PSt → (PSt → Prop) → Prop
  | [], s, K => K s
  | I :: l, s, K => stepI E I s fun v ch => seqI E l (put s I.dst v ch) K

abbrev Rec := List Nat × List Nat

def foot1 (I : Ins) (s : PSt) : List Nat := fp s.V I.dst I.op (I.xs.map (Opd.val s.sl))
def apartS (a b : Rec) : Bool :=
  (a.1.all fun o => !b.2.contains o) && (b.1.all fun o => !a.2.contains o)

def seqD (E : Env) : List (Ins × List Nat) → List Rec → PSt → (PSt → Prop) → Prop
  | [], _, s, K => K s
  | (I, dy) :: l, rec, s, K => stepI E I s fun v ch =>
      (dy.all fun j => match rec[j]? with | some r => apartS r (ch.site, foot1 I s) | none => false) = true ∧
      seqD E l (rec ++ [(ch.site, foot1 I s)]) (put s I.dst v ch) K

def Opd.slot : Opd → List Nat
  | .t n => [n]
  | .k _ => []

def Ins.reads (I : Ins) : List Nat := I.xs.flatMap Opd.slot ++ (match I.g with | some (t, _) => [t] | none => [])

theorem vals_agree {xs : List Opd} {s s' : PSt} (h : ∀ t, t ∈ xs.flatMap Opd.slot → s'.sl t = s.sl t) : xs.map (Opd.val s'.sl) = xs.map (Opd.val s.sl) := by
  apply List.map_congr_left
  intro x hx
  cases x with
  | t n => exact h n (List.mem_flatMap.2 ⟨_, hx, by simp [Opd.slot]⟩)
  | k v => rfl

def wfp1 (I : Ins) (s : PSt) : List Nat := wfp s.V I.dst I.op (I.xs.map (Opd.val s.sl))

variable {E : Env}

theorem stepI_loc {I : Ins} {s : PSt} {K : AV → Chg → Prop} (h : stepI E I s K) :
    ∃ v ch, K v ch ∧ (∀ o, o ∈ ch.site → o ∈ wfp1 I s) ∧ ∀ s' K', (∀ t, t ∈ I.reads → s'.sl t = s.sl t) → AgreeV (foot1 I s) s.V s'.V → K' v ch → stepI E I s' K' := by
  have hval : ∀ s' : PSt, (∀ t, t ∈ I.reads → s'.sl t = s.sl t) → I.xs.map (Opd.val s'.sl) = I.xs.map (Opd.val s.sl) := fun s' hs => vals_agree fun t ht => hs t (by simp [Ins.reads]; exact .inl (by simpa using ht))
  unfold stepI at h
  split at h
  · rename_i hg
    obtain ⟨v, ch, h1, h2, h3⟩ := ev_loc h
    refine ⟨v, ch, h1, h2, fun s' K' hs hV hk => ?_⟩
    unfold stepI; simp only [hg]
    rw [hval s' hs]; exact h3 s'.V K' hV hk
  · rename_i t b hg
    have ht : ∀ s' : PSt, (∀ t, t ∈ I.reads → s'.sl t = s.sl t) → s'.sl t = s.sl t := fun s' hs => hs t (by simp [Ins.reads, hg])
    split at h
    · rename_i b' hb
      by_cases hbb : (b == b') = true
      · rw [hbb] at h; simp only [condB_true] at h
        obtain ⟨v, ch, h1, h2, h3⟩ := ev_loc h
        refine ⟨v, ch, h1, h2, fun s' K' hs hV hk => ?_⟩
        unfold stepI; simp only [hg]
        rw [ht s' hs, hb]; simp only [hbb, condB_true]
        rw [hval s' hs]; exact h3 s'.V K' hV hk
      · have hbb' : (b == b') = false := by simpa using hbb
        rw [hbb'] at h; simp only [condB_false] at h
        refine ⟨_, _, h, by simp [Chg.site], fun s' K' hs hV hk => ?_⟩
        unfold stepI; simp only [hg]
        rw [ht s' hs, hb]; simp only [hbb', condB_false]; exact hk
    · rename_i hb
      refine ⟨_, _, h, by simp [Chg.site], fun s' K' hs hV hk => ?_⟩
      unfold stepI; simp only [hg]
      rw [ht s' hs, hb]; exact hk
    · exact h.elim

/-- What is read agrees. -/
def Agr (R F : List Nat) (s s' : PSt) : Prop := (∀ t, t ∈ R → s'.sl t = s.sl t) ∧ AgreeV F s.V s'.V

theorem Agr.refl (R F : List Nat) (s : PSt) : Agr R F s s := ⟨fun _ _ => rfl, fun _ _ => ⟨rfl, rfl⟩⟩

theorem AgreeV.app {F : List Nat} : ∀ {ch : Chg} {V V' : View}, AgreeV F V V' → AgreeV F (V.app ch) (V'.app ch)
  | .none, _, _, h => h
  | .keep o' g x, V, V', h => fun o ho => by
    obtain ⟨h1, h2⟩ := h o ho
    refine ⟨?_, h2⟩
    simp only [View.app, upd]; split
    · rfl
    · exact h1
  | .fresh o' x, V, V', h => fun o ho => by
    obtain ⟨h1, h2⟩ := h o ho
    refine ⟨?_, ?_⟩
    · simp only [View.app, upd]
      split
      · rename_i e; subst e; rw [h2]
      · exact h1
    · simp only [View.app, upd]
      split
      · rename_i e; subst e; rw [h2]
      · exact h2
  | .seq a b, V, V', h => AgreeV.app (ch := b) (AgreeV.app (ch := a) h)

theorem Agr.both {R F : List Nat} {s s' : PSt} (h : Agr R F s s') (dst : Option Nat) (v : AV) (ch : Chg) : Agr R F (put s dst v ch) (put s' dst v ch) := by
  refine ⟨fun t ht => ?_, h.2.app⟩
  cases dst with
  | none => exact h.1 t ht
  | some d =>
    simp only [put, upd]; split
    · rfl
    · exact h.1 t ht

theorem app_other : ∀ {ch : Chg} {V : View} {o : Nat}, o ∉ ch.site → (V.app ch).ob o = V.ob o ∧ (V.app ch).cn o = V.cn o
  | .none, _, _, _ => ⟨rfl, rfl⟩
  | .keep o' g x, V, o, h => by
    have : o ≠ o' := fun e => h (by simp [Chg.site, e])
    simp [View.app, upd, this]
  | .fresh o' x, V, o, h => by
    have : o ≠ o' := fun e => h (by simp [Chg.site, e])
    simp [View.app, upd, this]
  | .seq a b, V, o, h => by
    simp only [Chg.site, List.mem_append, not_or] at h
    obtain ⟨h1, h2⟩ := app_other (ch := b) (V := V.app a) h.2
    obtain ⟨h3, h4⟩ := app_other (ch := a) (V := V) h.1
    exact ⟨h1.trans h3, h2.trans h4⟩

theorem Agr.left {R F : List Nat} {s s' : PSt} (h : Agr R F s s') {dst : Option Nat} {v : AV} {ch : Chg} (hd : ∀ t, dst = some t → t ∉ R) (hc : ∀ o, o ∈ ch.site → o ∉ F) : Agr R F (put s dst v ch) s' := by
  refine ⟨fun t ht => ?_, fun o ho => ?_⟩
  · cases dst with
    | none => exact h.1 t ht
    | some d =>
      have : t ≠ d := fun e => hd d rfl (e ▸ ht)
      simp only [put, upd, this, if_false]; exact h.1 t ht
  · obtain ⟨h1, h2⟩ := app_other (V := s.V) (ch := ch) (o := o) fun e => hc o e ho
    show s'.V.ob o = (s.V.app ch).ob o ∧ s'.V.cn o = (s.V.app ch).cn o
    rw [h1, h2]; exact h.2 o ho

theorem Agr.right {R F : List Nat} {s s' : PSt} (h : Agr R F s s') {dst : Option Nat} {v : AV} {ch : Chg} (hd : ∀ t, dst = some t → t ∉ R) (hc : ∀ o, o ∈ ch.site → o ∉ F) : Agr R F s (put s' dst v ch) := by
  refine ⟨fun t ht => ?_, fun o ho => ?_⟩
  · cases dst with
    | none => exact h.1 t ht
    | some d =>
      have : t ≠ d := fun e => hd d rfl (e ▸ ht)
      simp only [put, upd, this, if_false]; exact h.1 t ht
  · obtain ⟨h1, h2⟩ := app_other (V := s'.V) (ch := ch) (o := o) fun e => hc o e ho
    show (s'.V.app ch).ob o = s.V.ob o ∧ (s'.V.app ch).cn o = s.V.cn o
    rw [h1, h2]; exact h.2 o ho

theorem app_comm1 {b : Chg} {a : Chg} (ha : ∀ x y, a ≠ .seq x y) : ∀ {b : Chg} {V : View}, (∀ o, o ∈ a.site → o ∉ b.site) → (V.app a).app b = (V.app b).app a
  | .seq b1 b2, V, h => by
    have h1 : ∀ o, o ∈ a.site → o ∉ b1.site := fun o ho hb => h o ho (by simp [Chg.site, hb])
    have h2 : ∀ o, o ∈ a.site → o ∉ b2.site := fun o ho hb => h o ho (by simp [Chg.site, hb])
    show ((V.app a).app b1).app b2 = ((V.app b1).app b2).app a
    rw [app_comm1 (b := b) ha h1, app_comm1 (b := b) ha h2]
  | .none, V, h => rfl
  | .keep o' g' x', V, h => by
    cases a with
    | seq x y => exact absurd rfl (ha x y)
    | none => rfl
    | keep o g x =>
      have hne : o' ≠ o := fun e => h o (by simp [Chg.site]) (by simp [Chg.site, e])
      simp only [View.app]
      congr 1; funext i; simp only [upd]; split <;> split <;> simp_all
    | fresh o x =>
      have hne : o' ≠ o := fun e => h o (by simp [Chg.site]) (by simp [Chg.site, e])
      simp only [View.app]
      congr 1; funext i; simp only [upd]; split <;> split <;> simp_all
  | .fresh o' x', V, h => by
    cases a with
    | seq x y => exact absurd rfl (ha x y)
    | none => rfl
    | keep o g x =>
      have hne : o' ≠ o := fun e => h o (by simp [Chg.site]) (by simp [Chg.site, e])
      simp only [View.app]
      congr 1; funext i; simp only [upd]; split <;> split <;> simp_all
    | fresh o x =>
      have hne : o' ≠ o := fun e => h o (by simp [Chg.site]) (by simp [Chg.site, e])
      have hne' : o ≠ o' := fun e => hne e.symm
      simp only [View.app]
      congr 1
      · funext i; simp only [upd, hne, hne', if_false]; split <;> split <;> simp_all
      · funext i; simp only [upd, hne, hne', if_false]; split <;> split <;> simp_all
theorem app_comm {b : Chg} : ∀ {a : Chg} {V : View}, (∀ o, o ∈ a.site → o ∉ b.site) → (V.app a).app b = (V.app b).app a
  | .seq a1 a2, V, h => by
    have h1 : ∀ o, o ∈ a1.site → o ∉ b.site := fun o ho => h o (by simp [Chg.site, ho])
    have h2 : ∀ o, o ∈ a2.site → o ∉ b.site := fun o ho => h o (by simp [Chg.site, ho])
    show ((V.app a1).app a2).app b = ((V.app b).app a1).app a2
    rw [app_comm (a := a2) h2, app_comm (a := a1) h1]
  | .none, V, h => app_comm1 (b := b) (fun _ _ => by simp) h
  | .keep _ _ _, V, h => app_comm1 (b := b) (fun _ _ => by simp) h
  | .fresh _ _, V, h => app_comm1 (b := b) (fun _ _ => by simp) h

theorem put_comm {s : PSt} {d d' : Option Nat} {v v' : AV} {a b : Chg} (hd : ∀ t, d = some t → d' ≠ some t) (h : ∀ o, o ∈ a.site → o ∉ b.site) :
    put (put s d v a) d' v' b = put (put s d' v' b) d v a := by
  unfold put
  congr 1
  · cases d <;> cases d' <;> try rfl
    rename_i t t'
    have hne : t' ≠ t := fun e => hd t rfl (by rw [e])
    funext i; simp only [upd]; split <;> split <;> simp_all
  · exact app_comm h

/-- The state after the operations of a set, in the order of the text. -/
def after (I : Nat → Ins) (v : Nat → AV) (ch : Nat → Chg) (s0 : PSt) (L : Nat → Bool) : Nat → PSt
  | 0 => s0
  | k + 1 => if L k then put (after I v ch s0 L k) (I k).dst (v k) (ch k) else after I v ch s0 L k

section
variable {I : Nat → Ins} {v : Nat → AV} {ch : Nat → Chg} {s0 : PSt} {F : Nat → List Nat}

/-- Two operations that may come in either order. -/
structure Free (I : Nat → Ins) (ch : Nat → Chg) (F : Nat → List Nat) (i k : Nat) : Prop where
  d1 : ∀ t, (I i).dst = some t → t ∉ (I k).reads
  d2 : ∀ t, (I k).dst = some t → t ∉ (I i).reads
  d3 : ∀ t, (I i).dst = some t → (I k).dst ≠ some t
  s1 : ∀ o, o ∈ (ch i).site → o ∉ F k
  s2 : ∀ o, o ∈ (ch k).site → o ∉ F i

theorem Free.symm {i k : Nat} (h : Free I ch F i k) : Free I ch F k i := ⟨h.d2, h.d1, fun t ht hi => h.d3 t hi ht, h.s2, h.s1⟩

theorem after_agree {L : Nat → Bool} {k n : Nat} (hk : k ≤ n) (hL : L k = false) (h1 : ∀ i, i < k → L i = false → Free I ch F i k) (h2 : ∀ i, k < i → i < n → L i = true → Free I ch F i k) :
    Agr (I k).reads (F k) (after I v ch s0 (fun _ => true) k) (after I v ch s0 L n) := by
  have a : ∀ m, m ≤ k → Agr (I k).reads (F k) (after I v ch s0 (fun _ => true) m) (after I v ch s0 L m) := by
    intro m
    induction m with
    | zero => intro _; exact Agr.refl _ _ _
    | succ m ih =>
      intro hm
      have := ih (by omega)
      simp only [after, if_true]
      cases hLm : L m with
      | true => simp only [if_true]; exact this.both _ _ _
      | false =>
        simp only [Bool.false_eq_true, if_false]
        have hf := h1 m (by omega) hLm
        exact this.left hf.d1 hf.s1
  have b : ∀ m, k ≤ m → m ≤ n → Agr (I k).reads (F k) (after I v ch s0 (fun _ => true) k) (after I v ch s0 L m) := by
    intro m hm
    induction m with
    | zero => intro _; have : k = 0 := by omega
              subst this; exact a 0 (Nat.le_refl _)
    | succ m ih =>
      intro hmn
      by_cases hkm : k = m + 1
      · subst hkm; exact a _ (Nat.le_refl _)
      · have := ih (by omega) (by omega)
        simp only [after]
        cases hLm : L m with
        | false => simp only [Bool.false_eq_true, if_false]; exact this
        | true =>
          simp only [if_true]
          have hne : m ≠ k := fun e => by rw [e, hL] at hLm; cases hLm
          have hf := h2 m (by omega) (by omega) hLm
          exact this.right hf.d1 hf.s1
  exact b n hk (Nat.le_refl _)

theorem after_insert {L L' : Nat → Bool} {k n : Nat} (hk : k < n) (hL : L k = false) (hL' : ∀ i, L' i = if i = k then true else L i) (h2 : ∀ i, k < i → i < n → L i = true → Free I ch F i k) (hF : ∀ i o, i < n → o ∈ (ch i).site → o ∈ F i) :
    after I v ch s0 L' n = put (after I v ch s0 L n) (I k).dst (v k) (ch k) := by
  have a : ∀ m, m ≤ k → after I v ch s0 L' m = after I v ch s0 L m := by
    intro m
    induction m with
    | zero => intro _; rfl
    | succ m ih =>
      intro hm
      simp only [after, ih (by omega), hL' m, show ¬ m = k by omega, if_false]
  have b : ∀ m, k < m → m ≤ n → after I v ch s0 L' m = put (after I v ch s0 L m) (I k).dst (v k) (ch k) := by
    intro m hm
    induction m with
    | zero => omega
    | succ m ih =>
      intro hmn
      by_cases hkm : m = k
      · subst hkm
        simp only [after, a m (Nat.le_refl _), hL' m, if_true, hL, Bool.false_eq_true, if_false]
      · simp only [after, ih (by omega) (by omega), hL' m, hkm, if_false]
        cases hLm : L m with
        | false => simp only [Bool.false_eq_true, if_false]
        | true =>
          simp only [if_true]
          have hf := h2 m (by omega) (by omega) hLm
          exact put_comm (fun t ht hm' => hf.d3 t hm' ht) fun o ho hm' => hf.s1 o hm' (hF k o hk ho)
  exact b n hk (Nat.le_refl _)

theorem after_congr {L L' : Nat → Bool} {n : Nat} (h : ∀ i, i < n → L i = L' i) : ∀ m, m ≤ n → after I v ch s0 L m = after I v ch s0 L' m := by
  intro m
  induction m with
  | zero => intro _; rfl
  | succ m ih => intro hm; simp only [after, ih (by omega), h m (by omega)]
end
end Go.Pw
