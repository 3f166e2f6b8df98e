/- A part of the proof. -/
import Derived.Test.YtlnppoaghpbpoaaPkP
import Derived.Scope
set_option linter.all false
namespace Go.Pw
open Go.RowKit
set_option linter.unusedSimpArgs false
set_option linter.unusedVariables false

/-- Only these slots are known from here on. -/
def PSt.keep (s : PSt) (ks : List Nat) : PSt := ⟨fun t => if ks.contains t then s.sl t else .undef, s.V⟩
/-- An object is let go. -/
def View.drop (V : View) (o : Nat) : View := ⟨upd V.ob o none, V.cn⟩
def View.keep (V : View) (os : List Nat) : View := ⟨fun o => if os.contains o then V.ob o else none, V.cn⟩

inductive Ghost where
  | freeze (t : Nat)       -- a row of our own becomes data
  | frzP (t : Nat)         -- a box of our own becomes data
  | own (t o ety es : Nat) -- nil becomes a row of our own
  | ownC (t off o ety es : Nat) -- nil in a box becomes a row of our own
  | drop (o : Nat)
  | only (os : List Nat)

def ghost (g : Ghost) (s : PSt) (K : PSt → Prop) : Prop :=
  match g with
  | .freeze t => match s.sl t with
    | .own o g => match s.V.get o g with
      | some (.row _ _ nl l) => K ⟨upd s.sl t (.d (.list nl l)), s.V.drop o⟩
      | _ => False
    | _ => K s
  | .frzP t => match s.sl t with
    | .ptr o g 0 => match s.V.get o g with
      | some (.cells xs) => match listM AV.toD1 xs with
        | some (c :: l) => K ⟨upd s.sl t (.d (.ptr (c :: l))), s.V.drop o⟩
        | _ => False
      | _ => False
    | _ => K s
  | .own t o ety es => match s.sl t with
    | .d (.list true []) => o < lim ∧ K ⟨upd s.sl t (.own o (s.V.cn o)), s.V.app (.fresh o (.row ety es true []))⟩
    | _ => K s
  | .ownC t off o ety es => match s.sl t with
    | .ptr b g f => match s.V.get b g with
      | some (.cells xs) => match xs[f + off]? with
        | some (.d (.list true [])) => o < lim ∧ o ≠ b ∧ K ⟨s.sl, (s.V.app (.fresh o (.row ety es true []))).app (.keep b g (.cells (xs.set (f + off) (.own o (s.V.cn o)))))⟩
        | _ => K s
      | _ => K s
    | _ => K s
  | .drop o => K ⟨s.sl, s.V.drop o⟩
  | .only os => K ⟨s.sl, s.V.keep os⟩

/-- Values with the generations struck: what is out of date is unknown. -/
def AV.nrm (V : View) (os : List Nat) : AV → AV
  | .ptr o g off => if live V os o g then .ptr o 0 off else .undef
  | .rptr o g es i off => if live V os o g then .rptr o 0 es i off else .undef
  | .own o g => if live V os o g then .own o 0 else .undef
  | .map o g => if live V os o g then .map o 0 else .undef
  | .agg cs => let cs' := nrmL V os cs; if cs'.all AV.one then .agg cs' else .undef
  | .fn f cs => .fn f (nrmL V os cs)
  | .tup cs => .tup (nrmL V os cs)
  | v => v
where
  live (V : View) (os : List Nat) (o g : Nat) : Bool := os.contains o && (match V.ob o with | some (g', _) => g' == g | none => false)
  nrmL (V : View) (os : List Nat) : List AV → List AV
    | [] => []
    | x :: xs => x.nrm V os :: nrmL V os xs

def AObj.nrm (V : View) (os : List Nat) : AObj → Option AObj
  | .cells xs => let xs' := xs.map (AV.nrm V os); if xs'.all AV.one then some (.cells xs') else none
  | x => some x

def View.nrm (V : View) (os : List Nat) : View := ⟨fun o => if os.contains o then (match V.ob o with
  | some (_, x) => match x.nrm V os with | some y => some (0, y) | none => none
  | none => none) else none, fun _ => 1⟩

/-- At the head of a loop. -/
def PSt.nrm (s : PSt) (ks os : List Nat) : PSt := ⟨fun t => if ks.contains t then (s.sl t).nrm s.V os else .undef, s.V.nrm os⟩

def ghosts : List Ghost → PSt → (PSt → Prop) → Prop
  | [], s, K => K s
  | g :: gs, s, K => ghost g s fun s' => ghosts gs s' K

inductive PExit where
  | normal | exit (id : Nat) | ret

/-- All the orders in which some operations may come. -/
inductive Ord where
  | done
  | step (I : Ins) (r : Ord)
  | both (a b : Ord)
def ordP (E : Env) : Ord → PSt → (PSt → Prop) → Prop
  | .done, s, K => K s
  | .step I r, s, K => stepI E I s fun v ch => ordP E r (put s I.dst v ch) K
  | .both a b, s, K => ordP E a s K ∧ ordP E b s K
def altO (f : Nat → Option Ord) : List Nat → Option Ord
  | [] => some .done
  | [i] => f i
  | i :: j :: l => match f i, altO f (j :: l) with
    | some a, some b => some (.both a b)
    | _, _ => none
def mkOrd (ops : Array Oper) (is : List Ins) : Nat → Array Bool → Option Ord
  | 0, listed => if Region.ready .any ops listed = [] then some .done else none
  | n + 1, listed => altO (fun i => match is[i]?, mkOrd ops is n (listed.setIfInBounds i true) with
      | some I, some r => some (.step I r)
      | _, _ => none) (Region.ready .any ops listed)

inductive PC where
  | skip
  | reg (gs : List Ghost) (l : List Ins) (ks : List Nat)
  | draw (gs : List Ghost) (l : List (Ins × List Nat)) (ks : List Nat)
  | any (gs : List Ghost) (t : Ord) (ks : List Nat)
  | seq (a b : PC)
  | cond (c : Opd) (a b : PC)
  | block (id : Nat) (a : PC)
  | loop (gs : List Ghost) (ks os : List Nat) (a : PC)
  | exit (id : Nat)
  | ret
  | dead -- code that is never reached
  | scope (a : PC)
  | lab

def thenQ (A : PSt → Prop) (Q : PExit → PSt → Prop) : PExit → PSt → Prop
  | .normal, s => A s
  | e, s => Q e s
def blockQ (id : Nat) (Q : PExit → PSt → Prop) : PExit → PSt → Prop
  | .exit i, s => if i = id then Q .normal s else Q (.exit i) s
  | e, s => Q e s

def condV (v : AV) (A B : Prop) : Prop :=
  match v with
  | .d (.bool b) => condB b A B
  | _ => False

def pw (E : Env) : PC → (PExit → PSt → Prop) → PSt → Prop
  | .skip, Q, s => Q .normal s
  | .reg gs l ks, Q, s => ghosts gs s fun s' => seqI E l s' fun s' => Q .normal (s'.keep ks)
  | .draw gs l ks, Q, s => ghosts gs s fun s' => seqD E l [] s' fun s' => Q .normal (s'.keep ks)
  | .any gs t ks, Q, s => ghosts gs s fun s' => ordP E t s' fun s' => Q .normal (s'.keep ks)
  | .seq a b, Q, s => pw E a (thenQ (pw E b Q) Q) s
  | .cond c a b, Q, s => condV (c.val s.sl) (pw E a Q s) (pw E b Q s)
  | .block id a, Q, s => pw E a (blockQ id Q) s
  | .loop gs ks os a, Q, s => ∃ J : Nat → PSt → Prop, ghosts gs s (fun s1 => ∃ n, J n (s1.nrm ks os)) ∧ ∀ n s', J n s' → pw E a (thenQ (fun s'' => ghosts gs s'' fun s1 => ∃ m, m < n ∧ J m (s1.nrm ks os)) Q) s'
  | .exit id, Q, s => Q (.exit id) s
  | .ret, Q, s => Q .ret s
  | .dead, Q, s => False
  | .scope a, Q, s => pw E a Q s
  | .lab, Q, s => Q .normal s

/-- The code that a piece of ours stands for. -/
inductive Means (E : Env) (fl : List Nat) (ns : Nat) : PC → Code → Prop
  | skip : Means E fl ns .skip .skip
  | reg {id ops gs l ks} (h : listM (decI E false fl ns ops) ops = some l) : Means E fl ns (.reg gs l ks) (.region id ops.toArray false)
  | draw {id ops gs l pre ks} (h : listM (decI E true fl ns ops) ops = some (l.map (·.1))) (hok : okD ops pre l = true) : Means E fl ns (.draw gs l ks) (.region id ops.toArray true)
  | any {id ops gs t is ks} (h : listM (decI E true fl ns ops) ops = some is) (ht : mkOrd ops.toArray is ops.length (Array.replicate ops.length false) = some t) : Means E fl ns (.any gs t ks) (.region id ops.toArray true)
  | seq {a b c d} (h : Means E fl ns a c) (h' : Means E fl ns b d) : Means E fl ns (.seq a b) (.seq c d)
  | cond {x y a b c d} (hx : decO E x = some y) (h : Means E fl ns a c) (h' : Means E fl ns b d) : Means E fl ns (.cond y a b) (.cond x c d)
  | block {id a c} (h : Means E fl ns a c) : Means E fl ns (.block id a) (.block id c)
  | loop {gs ks os a c} (h : Means E fl ns a c) : Means E fl ns (.loop gs ks os a) (.loop c)
  | exit {id} : Means E fl ns (.exit id) (.exit id)
  | ret : Means E fl ns .ret .ret
  | dead {code} : Means E fl ns .dead code
  | scope {a c} (h : Means E fl ns a c) : Means E fl ns (.scope a) (.scope c)
  | lab {l} : Means E fl ns .lab (.label l)

variable {E : Env} {c : Ctx} {β : Nat → Nat → Value} {s : PSt} {a : Act} {w : World}

theorem Rel.keepS {tm : Array Value} (h : Rel E c β s tm w) (ks : List Nat) : Rel E c β (s.keep ks) tm w := by
  refine ⟨h.keep, h.low, h.glob, fun t => ?_, h.objs, h.sep, h.home, h.pin⟩
  show AVRep w _ β _ (if ks.contains t then s.sl t else .undef) _
  split
  · exact h.slots t
  · exact .undef _

theorem drop_lem {V : View} {o o' : Nat} {y : Nat × AObj} (h : (V.drop o).ob o' = some y) : V.ob o' = some y := by
  simp only [View.drop, upd] at h
  split at h
  · cases h
  · exact h
theorem keep_lem {V : View} {os : List Nat} {o' : Nat} {y : Nat × AObj} (h : (V.keep os).ob o' = some y) : V.ob o' = some y := by
  simp only [View.keep] at h
  split at h
  · exact h
  · cases h

theorem nrmL_map (V : View) (os : List Nat) (cs : List AV) : AV.nrm.nrmL V os cs = cs.map (AV.nrm V os) := by
  induction cs with
  | nil => rfl
  | cons x xs ih => simp only [AV.nrm.nrmL, List.map_cons, ih]

/-- Where the objects lie once the generations are struck. -/
def beta0 (β : Nat → Nat → Value) (V : View) : Nat → Nat → Value := fun o _ => match V.ob o with | some (g, _) => β o g | none => β o 0

theorem live_beta {β : Nat → Nat → Value} {V : View} {os : List Nat} {o g : Nat} (h : AV.nrm.live V os o g = true) : beta0 β V o 0 = β o g := by
  unfold AV.nrm.live at h
  simp only [Bool.and_eq_true] at h
  unfold beta0
  split at h
  · rename_i g' x hx; simp at h; simp [h.2]
  · simp at h

theorem AVRep.nrm {w : World} {fb fb' : Nat → Prop} {β : Nat → Nat → Value} {cn : Nat → Nat} {V : View} {os : List Nat} (hf : ∀ b, b < w.heap.size → fb' b → fb b) {a : AV} {v : Value} (h : AVRep w fb β cn a v) :
    AVRep w fb' (beta0 β V) (fun _ => 1) (a.nrm V os) v := by
  induction h with
  | d x v h => exact .d x v (h.mono (Stays.refl _ _) hf)
  | ex xs a h => exact .ex xs a (h.mono (Stays.refl _ _) hf)
  | agg cs vs hl h1 h ih =>
    simp only [AV.nrm, nrmL_map]
    split
    · rename_i hall
      refine .agg _ vs (by simp [hl]) (fun c hc => List.all_eq_true.1 hall c hc) fun i c v hc hv => ?_
      rw [List.getElem?_map] at hc
      simp only [Option.map_eq_some_iff] at hc
      obtain ⟨c0, h0, rfl⟩ := hc
      exact ih i c0 v h0 hv
    · exact .undef _
  | ptr o g off b hg h =>
    simp only [AV.nrm]
    split
    · rename_i hl; exact .ptr o 0 off b (by simp) ((live_beta hl).trans h)
    · exact .undef _
  | rptr o g es i off b b0 n cap hg h =>
    simp only [AV.nrm]
    split
    · rename_i hl; exact .rptr o 0 es i off b b0 n cap (by simp) ((live_beta hl).trans h)
    · exact .undef _
  | dptr cs off b base vs hb hne h1 hc hv =>
    cases cs with
    | nil => exact absurd rfl hne
    | cons x xs =>
      have hlt : b < w.heap.size := lt_of_cell (hc 0 x (by simp))
      exact .dptr _ off b base vs (fun hh => hb (hf b hlt hh)) hne h1 hc fun j c h1 => (hv j c h1).mono (Stays.refl _ _) hf
  | own o g hg h1 =>
    simp only [AV.nrm]
    split
    · rename_i hl; rw [← live_beta (β := β) hl] at h1 ⊢; exact .own o 0 (by simp) h1
    · exact .undef _
  | map o g hg h1 =>
    simp only [AV.nrm]
    split
    · rename_i hl; rw [← live_beta (β := β) hl] at h1 ⊢; exact .map o 0 (by simp) h1
    · exact .undef _
  | fn f cs vs hl h ih =>
    simp only [AV.nrm, nrmL_map]
    refine .fn f _ vs (by simp [hl]) fun i c v hc hv => ?_
    rw [List.getElem?_map] at hc
    simp only [Option.map_eq_some_iff] at hc
    obtain ⟨c0, h0, rfl⟩ := hc
    exact ih i c0 v h0 hv
  | tup cs vs hl h ih =>
    simp only [AV.nrm, nrmL_map]
    refine .tup _ vs (by simp [hl]) fun i c v hc hv => ?_
    rw [List.getElem?_map] at hc
    simp only [Option.map_eq_some_iff] at hc
    obtain ⟨c0, h0, rfl⟩ := hc
    exact ih i c0 v h0 hv
  | undef v => exact .undef v

theorem View.nrm_ob {V : View} {os : List Nat} {o g : Nat} {y : AObj} (h : (V.nrm os).ob o = some (g, y)) : g = 0 ∧ ∃ g' x, V.ob o = some (g', x) ∧ x.nrm V os = some y := by
  simp only [View.nrm] at h
  split at h
  · split at h
    · rename_i g' x hx
      split at h
      · rename_i y' hy
        simp at h; obtain ⟨rfl, rfl⟩ := h
        exact ⟨rfl, g', x, hx, hy⟩
      · cases h
    · cases h
  · cases h

theorem nrm_beta {β : Nat → Nat → Value} {V : View} {os : List Nat} {o g : Nat} {y : AObj} (h : (V.nrm os).ob o = some (g, y)) : ∃ g' x, V.ob o = some (g', x) ∧ x.nrm V os = some y ∧ beta0 β V o g = β o g' := by
  obtain ⟨rfl, g', x, h1, h2⟩ := View.nrm_ob h
  exact ⟨g', x, h1, h2, by simp [beta0, h1]⟩

theorem ORep.nrm {w : World} {fb fb' : Nat → Prop} {β : Nat → Nat → Value} {cn : Nat → Nat} {V : View} {os : List Nat} (hf : ∀ b, b < w.heap.size → fb' b → fb b) {x y : AObj} {v : Value} (h : ORep w fb β cn x v) (hy : x.nrm V os = some y) :
    ORep w fb' (beta0 β V) (fun _ => 1) y v := by
  cases h with
  | cells xs b cur e hb hl h1 h =>
    simp only [AObj.nrm] at hy
    split at hy
    · rename_i hall
      simp at hy; subst hy
      refine .cells _ b cur e hb (by simp [hl]) (fun z hz => List.all_eq_true.1 hall z hz) fun i z u hz hu => ?_
      rw [List.getElem?_map] at hz
      simp only [Option.map_eq_some_iff] at hz
      obtain ⟨z0, h0, rfl⟩ := hz
      exact (h i z0 u h0 hu).nrm hf
    · cases hy
  | row ety es nil xs v h =>
    simp [AObj.nrm] at hy; subst hy
    exact .row _ _ _ _ _ (h.mono (Stays.refl _ _) hf fun _ _ _ => rfl)
  | map tys kvs b es hb hl h =>
    simp [AObj.nrm] at hy; subst hy
    exact .map tys kvs b es hb hl fun i kv e hk he => by
      obtain ⟨h1, h2, h3, h4⟩ := h i kv e hk he
      exact ⟨h1, h2.mono (Stays.refl _ _) hf, h3.mono (Stays.refl _ _) hf, h4⟩

theorem Rel.nrmS {tm : Array Value} (h : Rel E c β s tm w) (ks os : List Nat) : Rel E c (beta0 β s.V) (s.nrm ks os) tm w := by
  have hbar : ∀ b, c.bar (beta0 β s.V) (s.V.nrm os) b → c.bar β s.V b := by
    intro b hh
    rcases hh with hh | ⟨o', g', x', h1, h2⟩
    · exact .inl hh
    · obtain ⟨g1, x1, h3, _, h4⟩ := nrm_beta (β := β) h1
      exact .inr ⟨o', g1, x1, h3, by rw [← h4]; exact h2⟩
  refine ⟨h.keep, h.low, fun g cs hg => (h.glob g cs hg).mono (Stays.refl _ _) fun b _ => hbar b, fun t => ?_, fun o g x hx => ?_, fun o1 o2 g1 g2 x1 x2 b h1 h2 h3 h4 => ?_, fun o g x b hx hb => ?_, fun o g x ho hx => ?_⟩
  · show AVRep w _ _ _ (if ks.contains t then (s.sl t).nrm s.V os else .undef) _
    split
    · exact (h.slots t).nrm fun b _ => hbar b
    · exact .undef _
  · obtain ⟨rfl, _⟩ := View.nrm_ob hx
    obtain ⟨g1, x1, h3, h5, h4⟩ := nrm_beta (β := β) hx
    refine ⟨by simp [PSt.nrm, View.nrm], ?_⟩
    rw [h4]
    exact (h.objs _ _ _ h3).2.nrm (fun b _ => hbar b) h5
  · obtain ⟨k1, y1, e1, _, e2⟩ := nrm_beta (β := β) h1
    obtain ⟨k2, y2, e3, _, e4⟩ := nrm_beta (β := β) h2
    exact h.sep _ _ _ _ _ _ b e1 e3 (by rw [← e2]; exact h3) (by rw [← e4]; exact h4)
  · obtain ⟨k1, y1, e1, _, e2⟩ := nrm_beta (β := β) hx
    exact h.home _ _ _ b e1 (by rw [← e2]; exact hb)
  · obtain ⟨k1, y1, e1, _, e2⟩ := nrm_beta (β := β) hx
    rw [e2]; exact h.pin _ _ _ ho e1

theorem ghost_sound {tm : Array Value} {g : Ghost} {K : PSt → Prop} (h : Rel E c β s tm w) (hg : ghost g s K) : ∃ s' β', K s' ∧ Rel E c β' s' tm w := by
  unfold ghost at hg
  split at hg
  · rename_i t
    split at hg
    · rename_i o g hs
      split at hg
      · rename_i ety es nl l hget
        refine ⟨_, β, hg, ?_⟩
        have hdrop : Rel E c β ⟨s.sl, s.V.drop o⟩ tm w := h.drop rfl rfl fun o' y hy => by
          exact drop_lem hy
        obtain ⟨_, ho⟩ := h.objs _ _ _ (View.get_some hget)
        have hsl := h.slots t
        rw [hs] at hsl
        refine ⟨hdrop.keep, hdrop.low, hdrop.glob, fun t' => ?_, hdrop.objs, hdrop.sep, hdrop.home, hdrop.pin⟩
        simp only [upd]
        split
        · rename_i e; subst e
          generalize hu : tm.getD t' undef = u at hsl ⊢
          cases hsl with
          | own _ _ hgg hone =>
            generalize hv : β o g = v at ho
            cases ho with
            | row _ _ _ _ _ ho =>
              have ho' : RowRep w (c.bar β (s.V.drop o)) ety es nl l v := ho.mono (Stays.refl _ _) (fun b _ hb => by
                rcases hb with hb | ⟨o', g', x', h2, h3⟩
                · exact .inl hb
                · simp only [View.drop, upd] at h2
                  split at h2
                  · cases h2
                  · exact .inr ⟨o', g', x', h2, h3⟩) fun _ _ _ => rfl
              refine .d _ _ (listRep_of_row ho' fun b hb hbar => ?_)
              rcases hbar with hbar | ⟨o', g', x', h2, h3⟩
              · exact (h.home o g _ b (View.get_some hget) (by rw [hv]; exact hb)).2.2 hbar
              · simp only [View.drop, upd] at h2
                split at h2
                · cases h2
                · rename_i hne
                  exact hne (h.sep o' o g' g x' _ b h2 (View.get_some hget) h3 (by rw [hv]; exact hb))
        · exact hdrop.slots t'
      · exact hg.elim
    · exact ⟨_, β, hg, h⟩
  · rename_i t
    split at hg
    · rename_i o g hs
      split at hg
      · rename_i xs hget
        split at hg
        · rename_i c0 l hl
          refine ⟨_, β, hg, ?_⟩
          have hdrop : Rel E c β ⟨s.sl, s.V.drop o⟩ tm w := h.drop rfl rfl fun o' y hy => by
            exact drop_lem hy
          have hob := View.get_some hget
          obtain ⟨_, ho⟩ := h.objs _ _ _ hob
          have hsl := h.slots t
          rw [hs] at hsl
          refine ⟨hdrop.keep, hdrop.low, hdrop.glob, fun t' => ?_, hdrop.objs, hdrop.sep, hdrop.home, hdrop.pin⟩
          simp only [upd]
          split
          · rename_i e; subst e
            generalize hu : tm.getD t' undef = u at hsl ⊢
            cases hsl with | ptr _ _ _ b hlt hβ =>
            rw [hβ] at ho
            cases ho with | cells _ _ cur e hb hlen h1 hr =>
            have weak : ∀ {d : D} {u : Value}, DRep w (c.bar β s.V) d u → DRep w (c.bar β (s.V.drop o)) d u := fun h => h.mono (Stays.refl _ _) fun b _ hb => by
              rcases hb with hb | ⟨o', g', x', h2, h3⟩
              · exact .inl hb
              · exact .inr ⟨o', g', x', drop_lem h2, h3⟩
            refine .d _ _ (.ptr (c0 :: l) b 0 (fun j => cur.getD j undef) (fun hbar => ?_) (by simp) (fun y hy => ?_) (fun j y hj => ?_) (fun j y hj => ?_))
            · rcases hbar with hbar | ⟨o', g', x', h2, h3⟩
              · exact (h.home o g _ b hob (by rw [hβ]; rfl)).2.2 hbar
              · simp only [View.drop, upd] at h2
                split at h2
                · cases h2
                · rename_i hne
                  exact hne (h.sep o' o g' g x' _ b h2 hob h3 (by rw [hβ]; rfl))
            · obtain ⟨x, hx, hxy⟩ := listM_mem hl hy
              obtain ⟨i, hi⟩ := List.getElem?_of_mem hx
              obtain ⟨v, hv⟩ : ∃ v, cur[i]? = some v := ⟨_, Array.getElem?_eq_getElem (by have := (List.getElem?_eq_some_iff.1 hi).1; omega)⟩
              exact (toD1_rep (hr i x v hi hv) hxy).2 (h1 x hx)
            · obtain ⟨x, hx, hxy⟩ := listM_get' hl hj
              have hlt : j < cur.size := by have := (List.getElem?_eq_some_iff.1 hx).1; omega
              rw [Nat.zero_add, cells_cell hb, Array.getElem?_eq_getElem hlt]; simp [Array.getD_eq_getD_getElem?, hlt]
            · obtain ⟨x, hx, hxy⟩ := listM_get' hl hj
              have hlt : j < cur.size := by have := (List.getElem?_eq_some_iff.1 hx).1; omega
              have := (toD1_rep (hr j x _ hx (Array.getElem?_eq_getElem hlt)) hxy).1
              simp only [Array.getD_eq_getD_getElem?, Array.getElem?_eq_getElem hlt, Option.getD_some]; exact weak this
          · exact hdrop.slots t'
        · exact hg.elim
      · exact hg.elim
    · exact ⟨_, β, hg, h⟩
  · rename_i t o ety es
    split at hg
    · rename_i hs
      have hu : tm.getD t undef = .slice none 0 0 := by
        have := h.slots t
        rw [hs] at this
        generalize tm.getD t undef = u at this ⊢
        cases this with | d _ _ hd => cases hd; rfl
      have hr := h.fresh (o := o) (x := .row ety es true []) hg.1 (vo := .slice none 0 0) (w' := w) (Only.of_below _ (Below.refl _ _)) (fun b hb => by simp [rowBlk] at hb)
        fun β' fb' _ _ _ => .row _ _ _ _ _ (.inl ⟨rfl, rfl, rfl⟩)
      refine ⟨_, _, hg.2, hr.keep, hr.low, hr.glob, fun t' => ?_, hr.objs, hr.sep, hr.home, hr.pin⟩
      simp only [upd]
      split
      · rename_i e; subst e
        rw [hu]
        exact AVRep.own_new rfl (by simp [View.app, upd])
      · exact hr.slots t'
    · exact ⟨_, β, hg, h⟩
  · rename_i t off o ety es
    split at hg
    · rename_i b g f hs
      split at hg
      · rename_i xs hget
        split at hg
        · rename_i hx
          obtain ⟨hol, hne, hg⟩ := hg
          have hob := View.get_some hget
          have hr := h.fresh (o := o) (x := .row ety es true []) hol (vo := .slice none 0 0) (w' := w) (Only.of_below _ (Below.refl _ _)) (fun b hb => by simp [rowBlk] at hb)
            fun β' fb' _ _ _ => .row _ _ _ _ _ (.inl ⟨rfl, rfl, rfl⟩)
          have hob2 : (s.V.app (.fresh o (.row ety es true []))).ob b = some (g, .cells xs) := by simp [View.app, upd, Ne.symm hne, hob]
          refine ⟨_, _, hg, Rel.kept hr (x := .cells (xs.set (f + off) (.own o (s.V.cn o)))) hob2 (Only.refl _ _) fun fb' hf hfe => ?_⟩
          obtain ⟨_, ho⟩ := hr.objs _ _ _ hob2
          obtain ⟨v, hv⟩ : ∃ v, upd2 β o (s.V.cn o) (.slice none 0 0) b g = v := ⟨_, rfl⟩
          rw [hv] at ho ⊢
          cases ho with
          | cells _ b' cur e hb hlen h1 hrr =>
            refine .cells _ b' cur e hb (by simpa using hlen) (fun x hxm => ?_) fun i x u hxi hu => ?_
            · rcases List.mem_or_eq_of_mem_set hxm with hxm | rfl
              · exact h1 x hxm
              · rfl
            · by_cases hi : i = f + off
              · subst hi
                have hlt : f + off < xs.length := (List.getElem?_eq_some_iff.1 hx).1
                rw [List.getElem?_set_self hlt] at hxi
                simp at hxi; subst hxi
                have hrep := hrr _ _ u hx hu
                have hu0 : u = .slice none 0 0 := by cases hrep with | d _ _ hd => cases hd; rfl
                rw [hu0]
                exact AVRep.own_new rfl (by simp [View.app, upd])
              · rw [List.getElem?_set_ne (Ne.symm hi)] at hxi
                exact (hrr i x u hxi hu).mono (Stays.refl _ _) hf (fun _ _ _ => rfl) (fun _ => Nat.le_refl _)
        · exact ⟨_, β, hg, h⟩
      · exact ⟨_, β, hg, h⟩
    · exact ⟨_, β, hg, h⟩
  · rename_i o
    exact ⟨_, β, hg, h.drop rfl rfl fun o' y hy => by exact drop_lem hy⟩
  · rename_i os
    exact ⟨_, β, hg, h.drop rfl rfl fun o' y hy => by exact keep_lem hy⟩

theorem ghosts_sound {tm : Array Value} : ∀ {gs : List Ghost} {s : PSt} {β : Nat → Nat → Value} {K : PSt → Prop}, Rel E c β s tm w → ghosts gs s K → ∃ s' β', K s' ∧ Rel E c β' s' tm w
  | [], s, β, K, h, hg => ⟨s, β, hg, h⟩
  | g :: gs, s, β, K, h, hg => by
    obtain ⟨s', β', h1, h2⟩ := ghost_sound h hg
    exact ghosts_sound h2 h1

theorem seqI_sound {draw : Bool} {fl : List Nat} {ns : Nat} {ops : List Oper} {Q : Exit → Act → World → Prop} {K : PSt → Prop} : ∀ {l : List Oper} {is : List Ins} {s : PSt} {β : Nat → Nat → Value} {a : Act} {w : World}, listM (decI E draw fl ns ops) l = some is → Rel E c β s a.tmps w → a.tmps.size = ns →
    seqI E is s K → (∀ s' β' tm' w', K s' → Rel E c β' s' tm' w' → tm'.size = ns → Q .normal ⟨tm', a.defers⟩ w') → wpList E.P ops.toArray Q l a w
  | [], is, s, β, a, w, hd, h, hn, hs, hQ => by
    simp [listM] at hd; subst hd
    exact hQ s β a.tmps w hs h hn
  | o :: l, is, s, β, a, w, hd, h, hn, hs, hQ => by
    simp only [listM] at hd
    split at hd
    · cases hd
    · rename_i I hI
      split at hd
      · cases hd
      · rename_i is' his
        simp at hd; subst hd
        simp only [seqI] at hs
        unfold wpList
        exact step_sound h hI hn hs fun v ch β' tm' w' hk hr htm => seqI_sound (a := ⟨tm', a.defers⟩) his hr htm hk hQ

theorem altO_spec {f : Nat → Option Ord} {s : PSt} {K : PSt → Prop} : ∀ {l : List Nat} {t : Ord}, altO f l = some t → ordP E t s K → (l = [] → K s) ∧ ∀ i, i ∈ l → ∃ u, f i = some u ∧ ordP E u s K
  | [], t, h, hs => by simp [altO] at h; subst h; exact ⟨fun _ => hs, fun i hi => (by cases hi)⟩
  | [i], t, h, hs => ⟨fun e => (by cases e), fun j hj => by simp at hj; subst hj; exact ⟨t, h, hs⟩⟩
  | i :: j :: l, t, h, hs => by
    simp only [altO] at h
    split at h
    · rename_i a b ha hb
      simp at h; subst h
      obtain ⟨h1, h2⟩ := hs
      obtain ⟨_, h3⟩ := altO_spec hb h2
      refine ⟨fun e => (by cases e), fun k hk => ?_⟩
      rcases List.mem_cons.1 hk with rfl | hk
      · exact ⟨a, ha, h1⟩
      · exact h3 k hk
    · cases h

theorem ord_sound {fl : List Nat} {ns : Nat} {ops : List Oper} {is : List Ins} {Q : Exit → Act → World → Prop} {K : PSt → Prop} (hd : listM (decI E true fl ns ops) ops = some is)  :
    ∀ (fuel : Nat) (listed : Array Bool) {t : Ord} {s : PSt} {β : Nat → Nat → Value} {a : Act} {w : World}, mkOrd ops.toArray is fuel listed = some t → Rel E c β s a.tmps w → a.tmps.size = ns → ordP E t s K →
    (∀ s' β' tm' w', K s' → Rel E c β' s' tm' w' → tm'.size = ns → Q .normal ⟨tm', a.defers⟩ w') → wpAny E.P .any ops.toArray Q fuel listed a w
  | 0, listed, t, s, β, a, w, ht, h, hn, hs, hQ => by
    simp only [mkOrd] at ht
    split at ht
    · rename_i hr; simp at ht; subst ht
      exact ⟨hr, hQ s β a.tmps w hs h hn⟩
    · cases ht
  | fuel + 1, listed, t, s, β, a, w, ht, h, hn, hs, hQ => by
    simp only [mkOrd] at ht
    obtain ⟨h1, h2⟩ := altO_spec ht hs
    refine ⟨fun hnil => hQ s β a.tmps w (h1 hnil) h hn, fun i hi => ?_⟩
    obtain ⟨u, hu, hsu⟩ := h2 i hi
    split at hu
    · rename_i I r hI hr
      simp at hu; subst hu
      obtain ⟨o, ho, hdo⟩ := listM_get' hd hI
      unfold wpOp
      simp only [List.getElem?_toArray, ho]
      exact step_sound h hdo hn hsu fun v ch β' tm' w' hk hr' htm => ord_sound hd fuel _ (a := ⟨tm', a.defers⟩) hr hr' htm hk hQ
    · cases hu

def exitOf : PExit → Exit
  | .normal => .normal
  | .exit id => .exit id
  | .ret => .ret

theorem pw_sound {fl : List Nat} {ns : Nat} (hm : E.P.follows .mixedOrders = true) {p : PC} {code : Code} (hp : Means E fl ns p code) : ∀ {Q : PExit → PSt → Prop} {Q' : Exit → Act → World → Prop} {s : PSt} {β : Nat → Nat → Value} {a : Act} {w : World}, Rel E c β s a.tmps w → a.tmps.size = ns → pw E p Q s →
    (∀ e s' β' tm' w', Q e s' → Rel E c β' s' tm' w' → tm'.size = ns → Q' (exitOf e) ⟨tm', a.defers⟩ w') → code.wp E.P Q' a w := by
  induction hp with
  | skip => intro Q Q' s β a w h hn hs hQ; exact wp_skip (hQ .normal s β a.tmps w hs h hn)
  | reg hd =>
    intro Q Q' s β a w h hn hs hQ
    simp only [pw] at hs
    obtain ⟨s1, β1, hs1, h1⟩ := ghosts_sound h hs
    exact wp_region_lit (seqI_sound hd h1 hn hs1 fun s' β' tm' w' hk hr htm => hQ .normal _ β' tm' w' hk (hr.keepS _) htm)
  | draw hd hok =>
    intro Q Q' s β a w h hn hs hQ
    simp only [pw] at hs
    obtain ⟨s1, β1, hs1, h1⟩ := ghosts_sound h hs
    rename_i id ops gs l pre ks
    refine wp_region_any hm ?_
    have hdr : Rel E c β1 s1 a.tmps { w with drawn := w.drawn + 1 } := h1.grow (below_drew w)
    have := draw_sound (fl := fl) (Q := Q') (fun k o I dy ho hk => ?_) (by have := listM_length hd; simpa using this) hok hdr hn hs1 fun s' β' tm' w' hk hr htm => hQ .normal _ β' tm' w' hk (hr.keepS _) htm
    · simpa using this
    · obtain ⟨y, hy1, hy2⟩ := listM_get hd ho
      rw [List.getElem?_map, hk] at hy1
      simp at hy1; subst hy1; exact hy2
  | any hd ht =>
    intro Q Q' s β a w h hn hs hQ
    simp only [pw] at hs
    obtain ⟨s1, β1, hs1, h1⟩ := ghosts_sound h hs
    rename_i id ops gs t is ks
    refine wp_region_any hm ?_
    have hdr : Rel E c β1 s1 a.tmps { w with drawn := w.drawn + 1 } := h1.grow (below_drew w)
    have := ord_sound (Q := Q') hd ops.length _ (by simpa using ht) hdr hn hs1 fun s' β' tm' w' hk hr htm => hQ .normal _ β' tm' w' hk (hr.keepS _) htm
    simpa using this
  | seq h1 h2 ih1 ih2 =>
    intro Q Q' s β a w h hn hs hQ
    simp only [pw] at hs
    refine wp_seq (ih1 h hn hs fun e s' β' tm' w' hk hr htm => ?_)
    cases e with
    | normal => exact ih2 (a := ⟨tm', a.defers⟩) hr htm hk hQ
    | exit id => exact hQ (.exit id) s' β' tm' w' hk hr htm
    | ret => exact hQ .ret s' β' tm' w' hk hr htm
  | cond hx h1 h2 ih1 ih2 =>
    intro Q Q' s β a w h hn hs hQ
    simp only [pw, condV] at hs
    split at hs
    · rename_i b hb
      have hv := decO_rep (a := a) h hx
      rw [hb] at hv
      refine wp_cond (rep_bool hv) ?_
      cases b with
      | true => simp at hs ⊢; exact ih1 h hn hs hQ
      | false => simp at hs ⊢; exact ih2 h hn hs hQ
    · exact hs.elim
  | block h1 ih =>
    intro Q Q' s β a w h hn hs hQ
    simp only [pw] at hs
    refine wp_block (ih h hn hs fun e s' β' tm' w' hk hr htm => ?_)
    cases e with
    | normal => exact hQ .normal s' β' tm' w' hk hr htm
    | ret => exact hQ .ret s' β' tm' w' hk hr htm
    | exit i =>
      simp only [blockQ] at hk
      simp only [exitOf, Exit.inBlock]
      split at hk
      · rename_i e; rw [if_pos e]; exact hQ .normal s' β' tm' w' hk hr htm
      · rename_i e; rw [if_neg e]; exact hQ (.exit i) s' β' tm' w' hk hr htm
  | loop h1 ih =>
    intro Q Q' s β a w h hn hs hQ
    rename_i gs ks os p' code'
    simp only [pw] at hs
    obtain ⟨J, hg0, hround⟩ := hs
    obtain ⟨s0, β0, ⟨n0, hJ⟩, h0⟩ := ghosts_sound h hg0
    intro b k cs
    have key : ∀ n (s : PSt) (β : Nat → Nat → Value) (a' : Act) (w : World), J n s → Rel E c β s a'.tmps w → a'.tmps.size = ns → a'.defers = a.defers →
        ∃ e a1 w', Q' e a1 w' ∧ Arrives E.P (lone (b.at a' (.code code' :: .inLoop code' :: k)) cs w) b k cs e a1 w' := by
      intro n
      induction n using Nat.strongRecOn with
      | _ n ihn =>
        intro s β a' w hJs hr htm hdef
        have := ih (Q' := Exit.then (fun a1 w1 => ∃ n1 s1 β1, J n1 s1 ∧ n1 < n ∧ Rel E c β1 s1 a1.tmps w1 ∧ a1.tmps.size = ns ∧ a1.defers = a.defers) Q') hr htm (hround n s hJs) fun e s' β' tm' w' hk hr' htm' => ?_
        · obtain ⟨e, a1, w1, hq, harr⟩ := this b (.inLoop code' :: k) cs
          cases e with
          | normal =>
            obtain ⟨n1, s1, β1, hJ1, hlt, hr1, ht1, hd1⟩ := hq
            obtain ⟨e2, a2, w2, hq2, harr2⟩ := ihn n1 hlt s1 β1 a1 w1 hJ1 hr1 ht1 hd1
            exact ⟨e2, a2, w2, hq2, .of_steps (Steps.trans harr (.one step_inLoop)) harr2⟩
          | exit id => exact ⟨_, a1, w1, hq, .pass (x := .inLoop code') rfl (fun _ _ => .inl (by simp)) harr⟩
          | goto l => exact ⟨_, a1, w1, hq, .pass (x := .inLoop code') rfl (fun _ _ => .inl (by simp)) harr⟩
          | ret => exact ⟨_, a1, w1, hq, .pass (x := .inLoop code') rfl (fun _ _ => .inl (by simp)) harr⟩
          | panic ch => exact ⟨_, a1, w1, hq, .pass (x := .inLoop code') rfl (fun _ _ => .inl (by simp)) harr⟩
          | outgrown => exact ⟨_, a1, w1, hq, .pass (x := .inLoop code') rfl (fun _ _ => .inl (by simp)) harr⟩
        · cases e with
          | normal =>
            simp only [thenQ] at hk
            obtain ⟨s3, β3, ⟨m, hm', hJm⟩, h3⟩ := ghosts_sound hr' hk
            exact ⟨m, _, _, hJm, hm', h3.nrmS _ _, htm', hdef⟩
          | exit id => rw [hdef]; exact hQ (.exit id) s' β' tm' w' hk hr' htm'
          | ret => rw [hdef]; exact hQ .ret s' β' tm' w' hk hr' htm'
    obtain ⟨e, a1, w1, hq, harr⟩ := key n0 _ _ a w hJ (h0.nrmS ks os) hn rfl
    exact ⟨e, a1, w1, hq, .of_steps (.one step_loop) harr⟩
  | exit => intro Q Q' s β a w h hn hs hQ; exact wp_exit (hQ (.exit _) s β a.tmps w hs h hn)
  | ret => intro Q Q' s β a w h hn hs hQ; exact wp_ret (hQ .ret s β a.tmps w hs h hn)
  | dead => intro Q Q' s β a w h hn hs hQ; exact hs.elim
  | scope h1 ih =>
    intro Q Q' s β a w h hn hs hQ
    refine wp_scope_straight (ih (Q' := Exit.noGoto Q') h hn hs fun e s' β' tm' w' hk hr htm => ?_)
    have h2 := hQ e s' β' tm' w' hk hr htm
    cases e <;> exact h2
  | lab => intro Q Q' s β a w h hn hs hQ; exact wp_label (hQ .normal s β a.tmps w hs h hn)
end Go.Pw
