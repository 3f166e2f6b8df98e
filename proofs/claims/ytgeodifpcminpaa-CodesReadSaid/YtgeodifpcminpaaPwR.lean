/- The other operations; each operation of the model does what 'ev' says. -/
import Derived.Test.YtgeodifpcminpaaPwRa
set_option linter.all false
namespace Go.Pw
open Go.RowKit
set_option linter.unusedSimpArgs false
set_option linter.unusedVariables false

def Opd.val (sl : Nat → AV) : Opd → AV
  | .t n => sl n
  | .k v => v

section
variable {E : Env} {c : Ctx} {β : Nat → Nat → Value} {s : PSt} {tm : Array Value} {w : World} {K : AV → Chg → Prop}

theorem decO_rep {a : Act} (h : Rel E c β s a.tmps w) {x : Operand} {y : Opd} (hd : decO E x = some y) : AVRep w (c.bar β s.V) β s.V.cn (y.val s.sl) (a.eval x) := by
  unfold decO at hd
  split at hd
  · simp at hd; subst hd; exact h.slots _
  · rename_i v
    cases hv : decV v with
    | none => simp [hv] at hd
    | some d => simp [hv] at hd; subst hd; exact .d _ _ (decV_rep hv)
  · rename_i g
    cases hv : E.G g with
    | none => simp [hv] at hd
    | some cs => simp [hv] at hd; subst hd; exact .d _ _ (h.glob g cs hv)
  · simp at hd; subst hd
    exact .fn _ [] #[] (by simp) (fun i c v hi => by simp at hi)

theorem decOs_rep {a : Act} (h : Rel E c β s a.tmps w) {xs : List Operand} {ys : List Opd} (hd : decOs E xs = some ys) : ValsR (AVRep w (c.bar β s.V) β s.V.cn) (ys.map (Opd.val s.sl)) (xs.map a.eval) := by
  refine ⟨by simp [listM_length hd], fun i x u hx hu => ?_⟩
  simp only [List.getElem?_map, Option.map_eq_some_iff] at hx hu
  obtain ⟨y, hy, rfl⟩ := hx
  obtain ⟨o, ho, rfl⟩ := hu
  obtain ⟨y', h1, h2⟩ := listM_get hd ho
  rw [hy] at h1; simp at h1; subst h1
  exact decO_rep h h2

/-- A call's answer. -/
def GotC (E : Env) (c : Ctx) (s : PSt) (tm : Array Value) (K : AV → Chg → Prop) (f : FuncId) (args : Array Value) (w : World) : Prop :=
  Calls E.P f args w fun e w'' => ∃ u v ch β', e = .returned u ∧ K v ch ∧ Rel E c β' ⟨s.sl, s.V.app ch⟩ tm w'' ∧ AVRep w'' (c.bar β' (s.V.app ch)) β' (s.V.app ch).cn v u

theorem up_rep {fb β' cn} {r : D} {v : Value} (h : DRep w fb r v) : AVRep w fb β' cn (up r) v := by
  unfold up
  split
  · rename_i xs
    cases h with
    | tup _ vs hl h =>
      refine .tup _ _ (by simpa using hl) fun i x u hx hu => ?_
      simp only [List.getElem?_map, Option.map_eq_some_iff] at hx
      obtain ⟨y, hy, rfl⟩ := hx
      exact .d _ _ (h i y u hy hu)
  · exact .d _ _ h

theorem sound_call (h : Rel E c β s tm w) {dst : Option Nat} {f : FuncId} {xs : List AV} {us : Array Value} (hxs : ValsR (AVRep w (c.bar β s.V) β s.V.cn) xs us.toList) (he : evCall E dst s.V f xs K) : GotC E c s tm K f us w := by
  rcases he with ⟨ds, r, hd, hret, hK⟩ | ⟨ds, r, hd, hret, hfl, hK⟩ | ⟨ds, t, ety, es, nl, l, rfl, htl, hd, hret, hK⟩ | ⟨V0, cxs, V1, r, r', ch, ρ, ρ2, hren, hcall, hhand, hnm, hr, hback, hK⟩
  · refine (hret w (c.bar β s.V) us (fun b hb => bar_lt h hb) h.glob (by have := hxs.1; rw [listM_length hd, ← this]; simp) fun i d v hi hv => ?_).mono fun e w' ⟨v, he, hb, hr⟩ => ⟨v, _, .none, β, he, hK, h.grow hb, up_rep hr⟩
    obtain ⟨x, hx, hxd⟩ := listM_get' hd hi
    exact (toD1_rep (hxs.2 i x v hx (by simpa using hv)) hxd).1
  · refine (hret w c.fb us (fun b hb => bar_lt h (.inl hb)) (fun g cs hg => (h.glob g cs hg).mono (Stays.refl _ _) fun b _ hb => .inl hb) (by have := hxs.1; rw [listM_length hd, ← this]; simp) fun i d v hi hv => ?_).mono fun e w' ⟨v, he, hb, hr⟩ => ⟨v, _, .none, β, he, hK, h.grow hb, up_rep (hr.of_flat hfl)⟩
    obtain ⟨x, hx, hxd⟩ := listM_get' hd hi
    exact snap_rep h (hxs.2 i x v hx (by simpa using hv)) hxd
  · refine (hret w (c.bar β s.V) us (fun b hb => bar_lt h hb) h.glob (by have := hxs.1; rw [listM_length hd, ← this]; simp) fun i d v hi hv => ?_).mono fun e w' ⟨v, he, hb, hbl, hr⟩ => ?_
    · obtain ⟨x, hx, hxd⟩ := listM_get' hd hi
      exact (toD1_rep (hxs.2 i x v hx (by simpa using hv)) hxd).1
    · have hlt : ∀ b, rowBlk v = some b → b < w'.heap.size := by
        intro b hbb
        rcases hr with ⟨_, _, rfl⟩ | ⟨_, b', off, cap, cur, rfl, h3, _⟩
        · simp [rowBlk] at hbb
        · simp [rowBlk] at hbb; subst hbb; exact (Array.getElem?_eq_some_iff.1 h3).1
      have h1 : v.oneCell' = true := by
        rcases hr with ⟨_, _, rfl⟩ | ⟨_, b', off, cap, cur, rfl, h3, _⟩ <;> rfl
      refine ⟨v, _, _, upd2 β t (s.V.cn t) v, he, hK, h.fresh htl (.of_below _ hb) (fun b hbb => ⟨hlt b hbb, .inl (hbl b hbb)⟩) (fun β' fb' hβ' hfe hf => .row _ _ _ _ _ (hr.mono (Stays.refl _ _) (fun b hb' hh => ?_) fun _ _ _ => rfl)), AVRep.own_new h1 (cn_fresh _ _ _)⟩
      subst hβ' hfe
      rcases hh with hh | ⟨o', g', x', h2, h3⟩
      · exact .inl (.inl hh)
      · by_cases ho : o' = t
        · subst ho
          simp [View.app, upd] at h2
          obtain ⟨rfl, _⟩ := h2
          rw [upd2_same] at h3; exact .inr h3
        · simp [View.app, upd, ho] at h2
          have := (h.objs o' g' x' h2).1
          rw [upd2_lt o' g' this] at h3
          exact .inl (.inr ⟨o', g', x', h2, h3⟩)
  · exact sound_callM h (by simpa using hxs.1) (fun i x v hx hv => hxs.2 i x v hx (by simpa using hv)) hren hcall hhand hnm hr hback hK

theorem run_callFunc {f : FuncId} (hf : hasBody E.P f = true) (args : Array Value) : (callFunc f args).run E.P w = .ok (.enter f args) w := by
  unfold hasBody at hf
  split at hf
  · rename_i fn hfn
    simp only [Bool.and_eq_true, bne_iff_ne, ne_eq] at hf
    have h2 : ¬ fn.body = none := by intro hb; simp [hb] at hf
    simp [callFunc, hfn, hf.2, h2]
  · cases hf

theorem got_of_C {f : FuncId} {args : Array Value} {r : Result Next} (hr : r = .ok (.enter f args) w) (h : GotC E c s tm K f args w) : Got E c s tm K r := .inr ⟨f, args, w, hr, h⟩

theorem got_of_V {m : Sem Value} (h : GotV E c s tm K (m.run E.P w)) : Got E c s tm K ((do let v ← m; pure (Next.value v) : Sem Next).run E.P w) := by
  obtain ⟨u, w', v, ch, β', hr, hK, h1, h2⟩ := h
  exact .inl ⟨u, w', v, ch, β', .inl (by simp [hr]), hK, h1, h2⟩

theorem got_of_U {m : Sem Unit} (h : GotU E c s tm K (m.run E.P w)) : Got E c s tm K ((do m; pure Next.skip : Sem Next).run E.P w) := by
  obtain ⟨w', ch, β', hr, hK, h1⟩ := h
  exact .inl ⟨undef, w', .undef, ch, β', .inr ⟨by simp [hr], rfl⟩, hK, h1, .undef _⟩

theorem got_of_R (h : Rel E c β s tm w) {m : Sem Value} (hh : ∃ r, m.run E.P w = .ok r w ∧ ∃ v, K v .none ∧ AVRep w (c.bar β s.V) β s.V.cn v r) : Got E c s tm K ((do let v ← m; pure (Next.value v) : Sem Next).run E.P w) := by
  obtain ⟨r, hr, v, hK, hv⟩ := hh
  exact got_same h hK (by simp [hr]) hv

theorem decOne {us : List Value} {x : AV} {R : AV → Value → Prop} (h : ValsR R [x] us) : ∃ u, us = [u] ∧ R x u := by
  obtain ⟨u, us', rfl, h1, h2⟩ := h.cons'
  have := h2.nil; subst this; exact ⟨u, rfl, h1⟩
theorem decTwo {us : List Value} {x y : AV} {R : AV → Value → Prop} (h : ValsR R [x, y] us) : ∃ u v, us = [u, v] ∧ R x u ∧ R y v := by
  obtain ⟨u, us', rfl, h1, h2⟩ := h.cons'
  obtain ⟨v, rfl, h3⟩ := decOne h2; exact ⟨u, v, rfl, h1, h3⟩
theorem decThree {us : List Value} {x y z : AV} {R : AV → Value → Prop} (h : ValsR R [x, y, z] us) : ∃ u v t, us = [u, v, t] ∧ R x u ∧ R y v ∧ R z t := by
  obtain ⟨u, us', rfl, h1, h2⟩ := h.cons'
  obtain ⟨v, t, rfl, h3, h4⟩ := decTwo h2; exact ⟨u, v, t, rfl, h1, h3, h4⟩

theorem sound_un (h : Rel E c β s tm w) {dst : Option Nat} {u : UnOp} {xs : List AV} {x : Value} (hx : ValsR (AVRep w (c.bar β s.V) β s.V.cn) xs [x]) (he : ev E dst s.V (.un u) xs K) : ∃ r, (Op.unary u x).run E.P w = .ok r w ∧ ∃ v, K v .none ∧ AVRep w (c.bar β s.V) β s.V.cn v r := by
  unfold ev at he
  simp only at he
  split at he
  · obtain ⟨u, hu, h1⟩ := decOne hx
    simp at hu; subst hu
    rw [rep_bool h1]
    exact ⟨_, by simp [Op.unary], _, he, av_bool⟩
  · obtain ⟨u, hu, h1⟩ := decOne hx
    simp at hu; subst hu
    obtain ⟨rfl, _⟩ := rep_int h1
    exact ⟨_, by simp [Op.unary, Op.intArith], _, he, av_int (wrap_in _ _)⟩
  · obtain ⟨u, hu, h1⟩ := decOne hx
    simp at hu; subst hu
    obtain ⟨rfl, _⟩ := rep_int h1
    exact ⟨_, by simp [Op.unary, Op.intBits, bitsOp], _, he, av_int (wrap_in _ _)⟩
  · exact he.elim

theorem sound_conv (h : Rel E c β s tm w) {dst : Option Nat} {src ty : TypeId} {k k' : IntKind} {x : AV} {u : Value} (hs : E.P.underlying src = some (.int k')) (ht : E.P.underlying ty = some (.int k)) (hx : AVRep w (c.bar β s.V) β s.V.cn x u) (he : ev E dst s.V (.conv k) [x] K) :
    ∃ r, (convert src ty u).run E.P w = .ok r w ∧ ∃ v, K v .none ∧ AVRep w (c.bar β s.V) β s.V.cn v r := by
  unfold ev at he
  simp only at he
  split at he
  · rename_i heq
    simp at heq; subst heq
    obtain ⟨rfl, _⟩ := rep_int hx
    exact ⟨_, by simp [convert, run_underlying hs, run_underlying ht, Conv.intToInt], _, he, av_int (wrap_in _ _)⟩
  · exact he.elim

theorem sound_extract {dst : Option Nat} {i : Nat} {x : AV} {u : Value} (hx : AVRep w (c.bar β s.V) β s.V.cn x u) (he : ev E dst s.V (.extract i) [x] K) :
    ∃ r, (Instr.extract u i).run E.P w = .ok r w ∧ ∃ v, K v .none ∧ AVRep w (c.bar β s.V) β s.V.cn v r := by
  unfold ev at he
  simp only at he
  split at he
  · rename_i heq
    simp at heq; subst heq
    split at he
    · rename_i v hv
      cases hx with
      | tup _ vs hl hh =>
        have hlt : i < vs.size := by rw [hl]; exact (List.getElem?_eq_some_iff.1 hv).1
        have hg : vs[i]? = some vs[i] := Array.getElem?_eq_getElem hlt
        exact ⟨vs[i], by simp [Instr.extract, hg], v, he, hh i v _ hv hg⟩
    · exact he.elim
  · exact he.elim

theorem sound_len (h : Rel E c β s tm w) {dst : Option Nat} {t ty : TypeId} {x : AV} {u : Value} {m : Bool} (ht : if m then (∃ k e, E.P.underlying t = some (.map k e)) else ∃ e, E.P.underlying t = some (.slice e)) (hx : AVRep w (c.bar β s.V) β s.V.cn x u) (he : ev E dst s.V (.len m) [x] K) :
    ∃ r, (Builtin.len_ #[t] ty #[u]).run E.P w = .ok r w ∧ ∃ v, K v .none ∧ AVRep w (c.bar β s.V) β s.V.cn v r := by
  have small : ∀ {n : Nat}, n ≤ maxLen → InK .i64 (n : Int) := fun {n} hn => by unfold maxLen at hn; simp [InK, IntKind.min, IntKind.max, IntKind.signed, IntKind.bits]; omega
  have listCase : ∀ {nl : Bool} {l : List D}, x.asList s.V = some (nl, l) → K (.d (.int .i64 l.length)) .none → (∃ e, E.P.underlying t = some (.slice e)) → ∃ r, (Builtin.len_ #[t] ty #[u]).run E.P w = .ok r w ∧ ∃ v, K v .none ∧ AVRep w (c.bar β s.V) β s.V.cn v r := by
    intro nl l hl hK ⟨e, hte⟩
    have hd := asList_rep h hx hl
    cases hd with
    | nil => exact ⟨.int .i64 0, by simp [Builtin.len_, run_underlying hte, goInt], _, hK, by simpa using av_int (small (n := 0) (by simp))⟩
    | empty a cap hm => exact ⟨.int .i64 0, by simp [Builtin.len_, run_underlying hte, goInt], _, hK, by simpa using av_int (small (n := 0) (by simp))⟩
    | list _ es b off cap vs hcap hm => exact ⟨.int .i64 l.length, by simp [Builtin.len_, run_underlying hte, goInt], _, hK, av_int (small (by omega))⟩
  unfold ev at he
  simp only at he
  cases m with
  | true =>
    obtain ⟨k, e, ht⟩ := ht
    simp only [if_true] at he
    split at he
    · rename_i o g
      split at he
      · rename_i kvs hg
        obtain ⟨hb, hK⟩ := he
        cases hx with
        | map _ _ hgg hone =>
          obtain ⟨_, ho⟩ := h.objs _ _ _ (View.get_some hg)
          generalize hv : β o g = v at ho ⊢
          cases ho with
          | map tys kvs b es hb' hl hh =>
            refine ⟨.int .i64 kvs.length, by simp [Builtin.len_, run_underlying ht, run_getObj_map hb', goInt, hl], _, hK, ?_⟩
            exact av_int (small (by unfold bound at hb; unfold maxLen; omega))
      · exact he.elim
    · exact he.elim
  | false =>
    simp only [Bool.false_eq_true, if_false] at he ht
    split at he
    · rename_i nl l hl
      exact listCase hl he ht
    · exact he.elim

theorem mm_in {k : IntKind} (isMax : Bool) {a b : Int} (ha : InK k a) (hb : InK k b) : InK k (if isMax then maxI a b else minI a b) := by
  cases isMax <;> simp only [if_true, if_false, Bool.false_eq_true, maxI, minI] <;> split <;> assumption

theorem foldMM_run {isMax : Bool} {k : IntKind} : ∀ {rest : List AV} {us : List Value} {a r : Int}, InK k a → ValsR (AVRep w (c.bar β s.V) β s.V.cn) rest us → foldMM isMax k a rest = some r →
    (us.foldlM (if isMax then Builtin.max2 else Builtin.min2) (.int k a)).run E.P w = .ok (.int k r) w ∧ InK k r := by
  intro rest
  induction rest with
  | nil =>
    intro us a r ha hu hf
    have := hu.nil; subst this
    simp [foldMM] at hf; subst hf
    exact ⟨by simp, ha⟩
  | cons x rest ih =>
    intro us a r ha hu hf
    obtain ⟨u, us', rfl, h1, h2⟩ := hu.cons'
    unfold foldMM at hf
    split at hf
    · rename_i heq; cases heq
    · rename_i heq
      simp at heq; obtain ⟨rfl, rfl⟩ := heq
      split at hf
      · rename_i hk; subst hk
        obtain ⟨rfl, hb⟩ := rep_int h1
        obtain ⟨h3, h4⟩ := ih (mm_in isMax ha hb) h2 hf
        refine ⟨?_, h4⟩
        rw [List.foldlM_cons]
        cases isMax <;> simp only [if_true, if_false, Bool.false_eq_true] at h3 ⊢
        · simp only [Builtin.min2, Sem.run_bind, Sem.run_pure, Result.andThen_ok]; exact h3
        · simp only [Builtin.max2, Sem.run_bind, Sem.run_pure, Result.andThen_ok]; exact h3
      · cases hf
    · cases hf

theorem run_ofValue {f : FuncId} {cap args : Array Value} : (Deferred.ofValue (.func (.func f) #[] cap) args).run E.P w = .ok { target := .fn (.func f) cap, args := args } w := by
  simp [Deferred.ofValue]

theorem sound_callF (h : Rel E c β s tm w) {dst : Option Nat} {f : FuncId} {xs : List AV} {us cap : Array Value} {cs : List AV} (hf : hasBody E.P f = true) (hxs : ValsR (AVRep w (c.bar β s.V) β s.V.cn) xs us.toList)
    (hcs : ValsR (AVRep w (c.bar β s.V) β s.V.cn) cs cap.toList) (he : evCall E dst s.V f (xs ++ cs) K) :
    Got E c s tm K ((do let d ← Deferred.ofValue (.func (.func f) #[] cap) us; invoke d.target d.args : Sem Next).run E.P w) := by
  refine got_of_C (args := us ++ cap) (by simp [run_ofValue, invoke, run_callFunc hf]) (sound_call h (dst := dst) ⟨by have h1 := hxs.1; have h2 := hcs.1; simp at *; omega, fun i x u hx hu => ?_⟩ he)
  have h1 := hxs.1
  rw [Array.toList_append] at hu
  by_cases hlt : i < xs.length
  · rw [List.getElem?_append_left hlt] at hx
    rw [List.getElem?_append_left (by omega)] at hu
    exact hxs.2 i x u hx hu
  · rw [List.getElem?_append_right (by omega)] at hx
    rw [List.getElem?_append_right (by omega), h1] at hu
    exact hcs.2 _ x u hx hu

theorem sound_callv (h : Rel E c β s tm w) {dst : Option Nat} {x : AV} {xs : List AV} {u : Value} {us : Array Value} (hx : AVRep w (c.bar β s.V) β s.V.cn x u) (hxs : ValsR (AVRep w (c.bar β s.V) β s.V.cn) xs us.toList) (he : ev E dst s.V .callv (x :: xs) K) :
    Got E c s tm K ((do let d ← Deferred.ofValue u us; invoke d.target d.args : Sem Next).run E.P w) := by
  unfold ev at he
  simp only at he
  split at he
  · rename_i f cs args heq
    simp at heq; obtain ⟨rfl, rfl⟩ := heq
    cases hx with
    | fn _ _ vs hl hh => exact sound_callF h he.1 hxs ⟨by simpa using hl, fun i x u hx hu => hh i x u hx (by simpa using hu)⟩ he.2
  · rename_i f cs args heq
    simp at heq; obtain ⟨rfl, rfl⟩ := heq
    cases hx with
    | d _ _ hx => cases hx with
      | fn _ _ vs hl hh =>
        refine sound_callF h he.1 hxs ⟨by simpa using hl, fun i x u hx hu => ?_⟩ he.2
        simp only [List.getElem?_map, Option.map_eq_some_iff] at hx
        obtain ⟨y, hy, rfl⟩ := hx
        exact .d _ _ (hh i y u hy (by simpa using hu))
  · exact he.elim

theorem sound_eqv (h : Rel E c β s tm w) {dst : Option Nat} {op : BinOp} {t : TypeId} {tys : KTy} {ox oy : Operand} {x y : AV} {u v : Value} (ht : plainT E.P t = some tys) (hag : tys.1 = true) (hop : op = .eql ∨ op = .neq)
    (hx : AVRep w (c.bar β s.V) β s.V.cn x u) (hy : AVRep w (c.bar β s.V) β s.V.cn y v) (he : ev E dst s.V (.eqv (op == .neq) tys) [x, y] K) :
    ∃ r, (do eqGuard op t ox oy u v; binOp op t u v : Sem Value).run E.P w = .ok r w ∧ ∃ v, K v .none ∧ AVRep w (c.bar β s.V) β s.V.cn v r := by
  unfold ev at he
  simp only at he
  split at he
  · rename_i a b ha hb
    obtain ⟨h1, h2, hK⟩ := he
    have hu := (toD1_rep hx ha).1
    have hv := (toD1_rep hy hb).1
    obtain ⟨us, vs, rfl, rfl, hg⟩ := eqGuard_plain ht h1 h2 hu hv hag op ox oy
    have heq := run_equal_plain ht h1 h2 hu hv
    have e1 : (BinOp.eql == BinOp.neq) = false := rfl
    have e2 : (BinOp.neq == BinOp.neq) = true := rfl
    refine ⟨.bool (if op == .neq then !keyEq a b else keyEq a b), ?_, _, hK, av_bool⟩
    rcases hop with rfl | rfl
    · simp [hg, binOp, heq, e1]
    · simp [hg, binOp, heq, e2]
  · exact he.elim

theorem sound_eqnil (h : Rel E c β s tm w) {dst : Option Nat} {op : BinOp} {t e : TypeId} {ox oy : Operand} {x : AV} {u : Value} (ht : E.P.underlying t = some (.slice e)) (hop : op = .eql ∨ op = .neq)
    (hx : AVRep w (c.bar β s.V) β s.V.cn x u) (he : ev E dst s.V (.eqnil (op == .neq)) [x, .d (.list true [])] K) :
    ∃ r, (do eqGuard op t ox oy u (.slice none 0 0); binOp op t u (.slice none 0 0) : Sem Value).run E.P w = .ok r w ∧ ∃ v, K v .none ∧ AVRep w (c.bar β s.V) β s.V.cn v r := by
  unfold ev at he
  simp only at he
  split at he
  · rename_i nl l hl
    have hd := asList_rep h hx hl
    have key : ∃ a n m, u = .slice a n m ∧ a.isNone = nl := by cases hd <;> exact ⟨_, _, _, rfl, rfl⟩
    obtain ⟨a, n, m, rfl, rfl⟩ := key
    refine ⟨.bool (if op == .neq then !a.isNone else a.isNone), ?_, _, he, av_bool⟩
    have e1 : (BinOp.eql == BinOp.neq) = false := rfl
    have e2 : (BinOp.neq == BinOp.neq) = true := rfl
    have key : (Op.equal t (.slice a n m) (.slice none 0 0)).run E.P w = .ok a.isNone w := by
      show (Op.equalIn (9999 + 1) t (.slice a n m) (.slice none 0 0)).run E.P w = _
      generalize 9999 = d
      cases a <;> simp [Op.equalIn, run_underlying ht]
    rcases hop with rfl | rfl <;> simp [eqGuard, binOp, key, e1, e2]
  · exact he.elim

theorem sound_binI (h : Rel E c β s tm w) {dst : Option Nat} {op : BinOp} {t : TypeId} {ox oy : Operand} {xs : List AV} {u v : Value}
    (hxs : ValsR (AVRep w (c.bar β s.V) β s.V.cn) xs [u, v]) (he : ev E dst s.V (.bin op) xs K) {vo : Sem Value → Sem Next} (hvo : vo = fun s => do pure (.value (← s))) :
    Got E c s tm K ((vo (do eqGuard op t ox oy u v; binOp op t u v)).run E.P w) := by
  unfold ev at he
  simp only at he
  split at he
  · obtain ⟨u', v', heq, h1, h2⟩ := decTwo hxs
    simp at heq; obtain ⟨rfl, rfl⟩ := heq
    exact sound_bin h h1 h2 he hvo
  · exact he.elim

theorem sound_beq {dst : Option Nat} {op : BinOp} {t : TypeId} {ox oy : Operand} {xs : List AV} {u v : Value} (ht : E.P.underlying t = some .bool) (hop : op = .eql ∨ op = .neq)
    (hxs : ValsR (AVRep w (c.bar β s.V) β s.V.cn) xs [u, v]) (he : ev E dst s.V (.beq (op == .neq)) xs K) :
    ∃ r, (do eqGuard op t ox oy u v; binOp op t u v : Sem Value).run E.P w = .ok r w ∧ ∃ v, K v .none ∧ AVRep w (c.bar β s.V) β s.V.cn v r := by
  unfold ev at he
  simp only at he
  split at he
  · rename_i a b
    obtain ⟨u', v', heq, h1, h2⟩ := decTwo hxs
    simp at heq; obtain ⟨rfl, rfl⟩ := heq
    rw [rep_bool h1, rep_bool h2]
    refine ⟨.bool (if op == .neq then !(a == b) else (a == b)), ?_, _, he, av_bool⟩
    have key : (Op.equal t (.bool a) (.bool b)).run E.P w = .ok (a == b) w := run_equalIn_bool w 9999 t _ _ ht
    rcases hop with rfl | rfl
    · have : (BinOp.eql == BinOp.neq) = false := rfl
      simp [eqGuard, binOp, key, this]
    · have : (BinOp.neq == BinOp.neq) = true := rfl
      simp [eqGuard, binOp, key, this]
  · exact he.elim
end
end Go.Pw
