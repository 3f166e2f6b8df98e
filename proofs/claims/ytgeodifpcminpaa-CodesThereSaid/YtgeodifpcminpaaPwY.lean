/- Decoding of code; the contract of a function out of its code. -/
import Derived.Test.YtgeodifpcminpaaPwX
set_option linter.all false
namespace Go.Pw
open Go.RowKit
set_option linter.unusedSimpArgs false
set_option linter.unusedVariables false

def insN (x : Nat) : List Nat → List Nat
  | [] => [x]
  | y :: ys => if x < y then x :: y :: ys else if x = y then y :: ys else y :: insN x ys
def uniN (xs ys : List Nat) : List Nat := xs.foldl (fun r x => insN x r) ys

def preOf (acc : List (List Nat)) (o : Oper) : List Nat :=
  o.after.toList.foldl (fun r e => if Region.binds .any e then uniN (insN e.on (match acc[e.on]? with | some p => p | none => [])) r else r) []
def pres (ops : List Oper) : List (List Nat) := ops.foldl (fun acc o => acc ++ [preOf acc o]) []

def dyOf (pre : List (List Nat)) (is : List Ins) : List (Ins × List Nat) :=
  is.zipIdx.map fun (I, k) => (I, (List.range k).filter fun j => !(match pre[k]? with | some p => p.contains j | none => false) &&
    (match is[j]? with | some J => !trivF J.op.foot I.op.foot | none => false))

def dec (E : Env) (fl : List Nat) (ns : Nat) : Code → Option PC
  | .skip => some .skip
  | .region id ops draw =>
    match listM (decI E draw fl ns ops.toList) ops.toList with
    | none => none
    | some is => if draw then
        (if okD ops.toList (pres ops.toList) (dyOf (pres ops.toList) is) = true then some (.draw [] (dyOf (pres ops.toList) is) []) else none)
      else some (.reg [] is [])
  | .seq a b => match dec E fl ns a, dec E fl ns b with
    | some x, some y => some (.seq x y)
    | _, _ => none
  | .cond c a b => match decO E c, dec E fl ns a, dec E fl ns b with
    | some z, some x, some y => some (.cond z x y)
    | _, _, _ => none
  | .block id a => (dec E fl ns a).map (.block id)
  | .loop a => (dec E fl ns a).map (.loop [] [] [])
  | .exit id => some (.exit id)
  | .ret => some .ret
  | _ => none

theorem dyOf_fst (pre : List (List Nat)) (is : List Ins) : (dyOf pre is).map (·.1) = is := by
  simp only [dyOf, List.map_map]
  apply List.ext_getElem?
  intro i
  simp only [List.getElem?_map, List.getElem?_zipIdx, Option.map_map]
  cases is[i]? <;> rfl

theorem dec_means {E : Env} {fl : List Nat} {ns : Nat} : ∀ {code : Code} {p : PC}, dec E fl ns code = some p → Means E fl ns p code
  | .skip, p, h => by simp [dec] at h; subst h; exact .skip
  | .region id ops draw, p, h => by
    obtain ⟨ops⟩ := ops
    simp only [dec] at h
    split at h
    · cases h
    · rename_i is his
      cases draw with
      | true =>
        simp only [if_true] at h
        split at h
        · rename_i hok; simp at h; subst h
          exact .draw (pre := pres ops) (by rw [dyOf_fst]; exact his) hok
        · cases h
      | false =>
        simp at h; subst h
        exact .reg his
  | .seq a b, p, h => by
    simp only [dec] at h
    split at h
    · rename_i x y hx hy; simp at h; subst h; exact .seq (dec_means hx) (dec_means hy)
    · cases h
  | .cond c a b, p, h => by
    simp only [dec] at h
    split at h
    · rename_i z x y hz hx hy; simp at h; subst h; exact .cond hz (dec_means hx) (dec_means hy)
    · cases h
  | .block id a, p, h => by
    simp only [dec, Option.map_eq_some_iff] at h
    obtain ⟨x, hx, rfl⟩ := h; exact .block (dec_means hx)
  | .loop a, p, h => by
    simp only [dec, Option.map_eq_some_iff] at h
    obtain ⟨x, hx, rfl⟩ := h; exact .loop (dec_means hx)
  | .exit id, p, h => by simp [dec] at h; subst h; exact .exit
  | .ret, p, h => by simp [dec] at h; subst h; exact .ret
  | .rangeFunc .., p, h => by simp [dec] at h
  | .scope _, p, h => by simp [dec] at h
  | .label _, p, h => by simp [dec] at h
  | .goto _, p, h => by simp [dec] at h
  | .refuse _, p, h => by simp [dec] at h

/-- The code without our own notes. -/
def PC.raw : PC → PC
  | .skip => .skip
  | .reg _ l _ => .reg [] l []
  | .draw _ l _ => .draw [] l []
  | .seq a b => .seq a.raw b.raw
  | .cond c a b => .cond c a.raw b.raw
  | .block id a => .block id a.raw
  | .loop _ _ _ a => .loop [] [] [] a.raw
  | .exit id => .exit id
  | .ret => .ret

theorem raw_means {E : Env} {fl : List Nat} {ns : Nat} : ∀ {p : PC} {code : Code}, Means E fl ns p.raw code → Means E fl ns p code
  | .skip, _, h => by cases h; exact .skip
  | .reg _ _ _, _, h => by cases h with | reg h => exact .reg h
  | .draw _ _ _, _, h => by cases h with | draw h hok => exact .draw h hok
  | .seq _ _, _, h => by cases h with | seq h h' => exact .seq (raw_means h) (raw_means h')
  | .cond _ _ _, _, h => by cases h with | cond hx h h' => exact .cond hx (raw_means h) (raw_means h')
  | .block _ _, _, h => by cases h with | block h => exact .block (raw_means h)
  | .loop _ _ _ _, _, h => by cases h with | loop h => exact .loop (raw_means h)
  | .exit _, _, h => by cases h; exact .exit
  | .ret, _, h => by cases h; exact .ret

/-- A result: a slot, or what a slot points to. -/
inductive RT where
  | t (n : Nat)
  | c (a ty : Nat) (ag : Bool) (n : Nat)
def RT.slot : RT → Nat
  | .t n => n
  | .c a _ _ _ => a

def rt1 (P : Program) : ResultVar → Option RT
  | .tmp t => some (.t t)
  | .cell a ty => match isAggT P ty, szOf P ty with
    | some ag, some n => some (.c a ty ag n)
    | _, _ => none
def resT (P : Program) (l : List ResultVar) : Option (List RT) := listM (rt1 P) l

/-- A function, decoded: its code, its results' slots, the number of its slots. -/
def decF (E : Env) (fl : List Nat) (f : FuncId) : Option (PC × List RT × Nat) :=
  match E.P.funcs[f]? with
  | none => none
  | some fn => match fn.body, resT E.P fn.results.toList with
    | some code, some rs => (dec E fl fn.ntmps code).map fun p => (p, rs, fn.ntmps)
    | _, _ => none

structure Fun (E : Env) (f : FuncId) (p : PC) (rs : List RT) (n : Nat) : Prop where
  ex : ∃ fl fn code, E.P.funcs[f]? = some fn ∧ fn.body = some code ∧ resT E.P fn.results.toList = some rs ∧ fn.ntmps = n ∧ Means E fl n p code

theorem fun_of_dec {E : Env} {fl : List Nat} {f : FuncId} {p : PC} {rs : List RT} {n : Nat} (h : decF E fl f = some (p.raw, rs, n)) : Fun E f p rs n := by
  unfold decF at h
  split at h
  · cases h
  · rename_i fn hfn
    split at h
    · rename_i code rs' hb hr
      simp only [Option.map_eq_some_iff] at h
      obtain ⟨q, hq, he⟩ := h
      simp at he; obtain ⟨rfl, rfl, rfl⟩ := he
      exact ⟨fl, fn, code, hfn, hb, hr, rfl, raw_means (dec_means hq)⟩
    · cases h

/-- The state at a function's door. -/
def PSt.enter (ds : List D) : PSt := ⟨fun t => match ds[t]? with | some d => .d d | none => .undef, ⟨fun _ => none, fun _ => 0⟩⟩

def res1 (E : Env) (s : PSt) : RT → (AV → Prop) → Prop
  | .t n, K => K (s.sl n)
  | .c a _ ag n, K => ev E none s.V (.load ag n) [s.sl a] fun v _ => K v
def resK (E : Env) (s : PSt) : List RT → (List AV → Prop) → Prop
  | [], K => K []
  | r :: l, K => res1 E s r fun v => resK E s l fun vs => K (v :: vs)

def snapR (V : View) (r : D) : List AV → Prop
  | [v] => v.snap V = some r
  | vs => (listM (AV.snap V) vs).map .tup = some r

/-- What is asked of the end of a function. -/
def retQ (E : Env) (rs : List RT) (r : D) : PExit → PSt → Prop
  | .exit _, _ => False
  | _, s => resK E s rs (snapR s.V r)

def resV : List Value → Value
  | [v] => v
  | vs => .tuple vs.toArray

def resF (tm : Array Value) : ResultVar → Sem Value
  | .tmp t => pure (tm.getD t undef)
  | .cell a t => do loadVar t (← asAddr (tm.getD a undef))

theorem run_results {E : Env} {c : Ctx} {β : Nat → Nat → Value} {s : PSt} {tm : Array Value} {w : World} (h : Rel E c β s tm w) {fn : Func} {rs : List RT} (hr : resT E.P fn.results.toList = some rs) {K : List AV → Prop} (hK : resK E s rs K) :
    ∃ vs us, K vs ∧ ValsR (AVRep w (c.bar β s.V) β s.V.cn) vs us ∧ (results fn tm).run E.P w = .ok (resV us) w := by
  have key : ∀ (f : ResultVar → Sem Value), (∀ t, f (.tmp t) = pure (tm.getD t undef)) → (∀ a t, f (.cell a t) = do loadVar t (← asAddr (tm.getD a undef))) → ∀ (l : List ResultVar) (rs : List RT) (K : List AV → Prop), listM (rt1 E.P) l = some rs → resK E s rs K →
      ∃ vs us, K vs ∧ ValsR (AVRep w (c.bar β s.V) β s.V.cn) vs us ∧ (l.mapM f).run E.P w = .ok us w := by
    intro f hf1 hf2 l
    induction l with
    | nil =>
      intro rs K hrs hK
      simp [listM] at hrs; subst hrs
      exact ⟨[], [], hK, ⟨rfl, by simp⟩, by simp⟩
    | cons x l ih =>
      intro rs K hrs hK
      simp only [listM] at hrs
      split at hrs
      · cases hrs
      · rename_i r hr1
        split at hrs
        · cases hrs
        · rename_i rs' hrs'
          simp at hrs; subst hrs
          simp only [resK] at hK
          have one : ∃ v u, resK E s rs' (fun vs => K (v :: vs)) ∧ AVRep w (c.bar β s.V) β s.V.cn v u ∧ (f x).run E.P w = .ok u w := by
            cases x with
            | tmp t =>
              simp [rt1] at hr1; subst hr1
              exact ⟨_, _, hK, h.slots t, by rw [hf1]; simp⟩
            | cell a ty =>
              simp only [rt1] at hr1
              split at hr1
              · rename_i ag n hag hn
                simp at hr1; subst hr1
                simp only [res1] at hK
                obtain ⟨u, hu, v, hv, hrep⟩ := sound_load h hag hn (h.slots a) hK
                refine ⟨v, u, hv, hrep, ?_⟩
                rw [hf2, ← hu]
                simp only [Instr.loadAt]
                have hp : ∃ ad, tm.getD a undef = .pointer (some ad) := by
                  have hs := h.slots a
                  unfold ev at hK
                  simp only at hK
                  split at hK
                  · rename_i heq; simp at heq; rw [heq] at hs
                    generalize tm.getD a undef = z at hs ⊢; cases hs; exact ⟨_, rfl⟩
                  · rename_i heq; simp at heq; rw [heq] at hs
                    generalize tm.getD a undef = z at hs ⊢; cases hs; exact ⟨_, rfl⟩
                  · rename_i heq; simp at heq; rw [heq] at hs
                    generalize tm.getD a undef = z at hs ⊢; cases hs; exact ⟨_, rfl⟩
                  · rename_i heq; simp at heq; rw [heq] at hs
                    generalize tm.getD a undef = z at hs ⊢
                    cases hs with | d _ _ hs => cases hs; exact ⟨_, rfl⟩
                  · exact hK.elim
                obtain ⟨ad, hp⟩ := hp
                rw [hp]; simp [asAddr, Instr.sureAddr]
              · cases hr1
          obtain ⟨v, u, h1, h2, h3⟩ := one
          obtain ⟨vs, us, h4, h5, h6⟩ := ih rs' _ hrs' h1
          refine ⟨v :: vs, u :: us, h4, ⟨by simp [h5.1], fun i x y hx hy => ?_⟩, by simp only [List.mapM_cons, Sem.run_bind, h3, Result.andThen_ok, h6, Sem.run_pure]⟩
          cases i with
          | zero => simp at hx hy; subst hx hy; exact h2
          | succ i => simp at hx hy; exact h5.2 i x y hx hy
  have hF : results fn tm = (do let vs ← fn.results.mapM (resF tm); pure (if h : vs.size = 1 then vs[0] else .tuple vs)) := by
    unfold results
    refine congrArg (fun g : ResultVar → Sem Value => (do let vs ← fn.results.mapM g; pure (if h : vs.size = 1 then vs[0] else .tuple vs) : Sem Value)) (funext fun x => ?_)
    cases x <;> rfl
  obtain ⟨vs, us, h1, h2, h3⟩ := key (resF tm) (fun t => rfl) (fun a t => rfl) fn.results.toList rs K hr hK
  refine ⟨vs, us, h1, h2, ?_⟩
  have hrr : fn.results = fn.results.toList.toArray := by simp
  rw [hF, hrr]
  simp only [List.mapM_toArray, Sem.run_bind, Sem.run_map]
  rw [h3]
  simp only [Result.andThen_ok, Sem.run_pure]
  cases us with
  | nil => simp [resV]
  | cons t us => cases us <;> simp [resV]

section
variable {E : Env}

theorem enter_getD (ds : List D) (vs : Array Value) (n : Nat) (hv : vs.size = ds.length) (t : Nat) : ∃ u, (vs ++ Array.replicate (n - vs.size) undef).getD t undef = u ∧ ∀ d, ds[t]? = some d → vs[t]? = some u := by
  refine ⟨_, rfl, fun d hd => ?_⟩
  have hlt : t < vs.size := by rw [hv]; exact (List.getElem?_eq_some_iff.1 hd).1
  simp [Array.getD_eq_getD_getElem?, Array.getElem?_append_left hlt, hlt]

theorem rel_enter {w : World} {fb : Nat → Prop} {ds : List D} {vs : Array Value} {n : Nat} {β : Nat → Nat → Value} (hfb : ∀ b, fb b → b < w.heap.size) (hg : GOK E w fb) (hv : vs.size = ds.length)
    (hd : ∀ (i : Nat) (d : D) (v : Value), ds[i]? = some d → vs[i]? = some v → DRep w fb d v) : Rel E ⟨w, fb, fun _ => False⟩ β (PSt.enter ds) (vs ++ Array.replicate (n - vs.size) undef) w := by
  have hbar : ∀ b, (⟨w, fb, fun _ => False⟩ : Ctx).bar β (PSt.enter ds).V b → fb b := fun b hb => by
    rcases hb with hb | ⟨o, g, x, h1, h2⟩
    · exact hb
    · cases h1
  refine ⟨⟨rfl, rfl, rfl, Nat.le_refl _, fun _ _ _ => rfl⟩, fun b hb => ⟨hfb b hb, id⟩, fun g cs hgg => (hg g cs hgg).mono (Stays.refl _ _) fun b _ hb => hbar b hb, fun t => ?_, fun o g x h => (nomatch h), ?_, fun o g x b h => (nomatch h)⟩
  case refine_2 => exact fun o o' g g' x x' b h => (nomatch h)
  obtain ⟨u, hu, hut⟩ := enter_getD ds vs n hv t
  rw [hu]
  show AVRep w _ β _ (match ds[t]? with | some d => .d d | none => .undef) u
  cases hdt : ds[t]? with
  | none => exact .undef u
  | some d => exact .d _ _ ((hd t d u hdt (hut d hdt)).mono (Stays.refl _ _) fun b _ hb => hbar b hb)

theorem below_of_keep {w w' : World} {fb : Nat → Prop} (h : Keep ⟨w, fb, fun _ => False⟩ w') : Below w.heap.size w w' :=
  ⟨h.os, h.tape, h.output, h.size, fun k hk => h.block k hk id⟩

theorem res_rep {c : Ctx} {β : Nat → Nat → Value} {s : PSt} {tm : Array Value} {w : World} (h : Rel E c β s tm w) {vs : List AV} {us : List Value} {r : D} (hv : ValsR (AVRep w (c.bar β s.V) β s.V.cn) vs us) (hr : snapR s.V r vs) : DRep w c.fb r (resV us) := by
  have many : (listM (AV.snap s.V) vs).map .tup = some r → DRep w c.fb r (.tuple us.toArray) := by
    intro hts
    simp only [Option.map_eq_some_iff] at hts
    obtain ⟨l, hl, rfl⟩ := hts
    refine .tup _ _ (by simp [listM_length hl, hv.1]) fun i d u hd hu => ?_
    obtain ⟨x, hx, hsn⟩ := listM_get' hl hd
    exact snap_rep h (hv.2 i x u hx (by simpa using hu)) hsn
  unfold snapR at hr
  split at hr
  · rename_i v
    obtain ⟨u, rfl, h1⟩ := decOne hv
    exact snap_rep h h1 hr
  · rename_i hne
    have : resV us = .tuple us.toArray := by
      unfold resV; split
      · have := hv.1
        cases vs with
        | nil => simp at this
        | cons v vs => cases vs with
          | nil => exact absurd rfl (hne _)
          | cons _ _ => simp at this
      · rfl
    rw [this]; exact many hr

theorem ret_of_pw {f : FuncId} {p : PC} {rs : List RT} {n : Nat} {ds : List D} {r : D} (hf : Fun E f p rs n) (hm : E.P.follows .mixedOrders = true) (hn : ds.length ≤ n) (h : (∀ d, d ∈ ds → d.WF) → pw E p (retQ E rs r) (PSt.enter ds)) : Ret E f ds r := by
  obtain ⟨fl, fn, code, hfn, hb, hr, hnn, hp⟩ := hf
  intro w fb vs hfb hg hv hd
  have hwf : ∀ d, d ∈ ds → d.WF := fun d hdm => by
    obtain ⟨i, hi⟩ := List.getElem?_of_mem hdm
    have hlt : i < vs.size := by rw [hv]; exact (List.getElem?_eq_some_iff.1 hi).1
    exact (hd i d _ hi (Array.getElem?_eq_getElem hlt)).wf
  refine calls_of_wp hfn hb (pw_sound hm hp (β := fun _ _ => undef) (c := ⟨w, fb, fun _ => False⟩) (rel_enter hfb hg hv hd) (by simp [hnn]; omega) (h hwf) fun e s' β' tm' w' hq hrel htm => ?_)
  have post : resK E s' rs (snapR s'.V r) → ∃ v, (results fn tm').run E.P w' = .ok v w' ∧ ∃ u, Ending.returned v = .returned u ∧ Below w.heap.size w w' ∧ DRep w' fb r u := fun hres => by
    obtain ⟨vs, us, h1, h2, h3⟩ := run_results hrel hr hres
    exact ⟨_, h3, _, rfl, below_of_keep hrel.keep, res_rep hrel h2 h1⟩
  cases e with
  | normal => obtain ⟨v, h1, h2⟩ := post hq; exact ⟨rfl, v, h1, h2⟩
  | ret => obtain ⟨v, h1, h2⟩ := post hq; exact ⟨rfl, v, h1, h2⟩
  | exit id => exact hq.elim

def rowR (V : View) (ety es : Nat) (nl : Bool) (l : List D) : List AV → Prop
  | [.own o g] => V.get o g = some (.row ety es nl l)
  | [.d (.list true [])] => nl = true ∧ l = []
  | _ => False
/-- The same for a slice of the function's own. -/
def rowQ (E : Env) (rs : List RT) (ety es : Nat) (nl : Bool) (l : List D) : PExit → PSt → Prop
  | .exit _, _ => False
  | _, s => resK E s rs (rowR s.V ety es nl l)

theorem retF_of_pw {f : FuncId} {p : PC} {rs : List RT} {n ety es : Nat} {ds : List D} {nl : Bool} {l : List D} (hf : Fun E f p rs n) (hm : E.P.follows .mixedOrders = true) (hn : ds.length ≤ n) (h : (∀ d, d ∈ ds → d.WF) → pw E p (rowQ E rs ety es nl l) (PSt.enter ds)) : RetF E f ds ety es nl l := by
  obtain ⟨fl, fn, code, hfn, hb, hr, hnn, hp⟩ := hf
  intro w fb vs hfb hg hv hd
  have hwf : ∀ d, d ∈ ds → d.WF := fun d hdm => by
    obtain ⟨i, hi⟩ := List.getElem?_of_mem hdm
    have hlt : i < vs.size := by rw [hv]; exact (List.getElem?_eq_some_iff.1 hi).1
    exact (hd i d _ hi (Array.getElem?_eq_getElem hlt)).wf
  refine calls_of_wp hfn hb (pw_sound hm hp (β := fun _ _ => undef) (c := ⟨w, fb, fun _ => False⟩) (rel_enter hfb hg hv hd) (by simp [hnn]; omega) (h hwf) fun e s' β' tm' w' hq hrel htm => ?_)
  have post : resK E s' rs (rowR s'.V ety es nl l) → ∃ v, (results fn tm').run E.P w' = .ok v w' ∧ ∃ u, Ending.returned v = .returned u ∧ Below w.heap.size w w' ∧ (∀ b, rowBlk u = some b → w.heap.size ≤ b) ∧
      RowRep w' (fun b => fb b ∨ rowBlk u = some b) ety es nl l u := fun hres => by
    obtain ⟨vs, us, h1, h2, h3⟩ := run_results hrel hr hres
    refine ⟨_, h3, _, rfl, below_of_keep hrel.keep, ?_⟩
    unfold rowR at h1
    split at h1
    · rename_i o g
      obtain ⟨u, rfl, hs⟩ := decOne h2
      show (∀ b, rowBlk u = some b → _) ∧ RowRep w' (fun b => fb b ∨ rowBlk u = some b) ety es nl l u
      cases hs with
      | own _ _ hgg hone =>
        obtain ⟨_, ho⟩ := hrel.objs _ _ _ (View.get_some h1)
        refine ⟨fun b hbb => ?_, ?_⟩
        · rcases (hrel.home o g _ b (View.get_some h1) hbb).2.1 with h5 | h5
          · exact h5
          · exact h5.elim
        · have hown : ∀ b, rowBlk (β' o g) = some b → Owns β' s'.V b := fun b hbb => ⟨o, g, _, View.get_some h1, hbb⟩
          generalize hvv : β' o g = v at ho hown
          cases ho with
          | row _ _ _ _ _ ho =>
            exact ho.mono (Stays.refl _ _) (fun b _ hb => hb.elim (fun h => .inl h) fun h => .inr (hown b h)) fun _ _ _ => rfl
    · obtain ⟨u, rfl, hs⟩ := decOne h2
      obtain ⟨rfl, rfl⟩ := h1
      cases hs with
      | d _ _ hs => cases hs; exact ⟨fun b hbb => by simp [resV, rowBlk] at hbb, .inl ⟨rfl, rfl, rfl⟩⟩
    · exact h1.elim
  cases e with
  | normal => obtain ⟨v, h1, h2⟩ := post hq; exact ⟨rfl, v, h1, h2⟩
  | ret => obtain ⟨v, h1, h2⟩ := post hq; exact ⟨rfl, v, h1, h2⟩
  | exit id => exact hq.elim
end
end Go.Pw
