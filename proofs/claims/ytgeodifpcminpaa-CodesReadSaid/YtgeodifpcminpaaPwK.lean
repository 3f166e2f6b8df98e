/- Maps: look-ups and stores. -/
import Derived.Test.YtgeodifpcminpaaPwJ
set_option linter.all false
namespace Go.Pw
open Go.RowKit
set_option linter.unusedSimpArgs false
set_option linter.unusedVariables false

theorem lookK_idx (k : D) : ∀ kvs : List (D × D), lookK k kvs = (idxK k kvs).bind fun j => (kvs[j]?).map (·.2)
  | [] => rfl
  | e :: es => by
    simp only [lookK, idxK]
    split
    · simp
    · rw [lookK_idx k es]
      cases idxK k es <;> simp
theorem setK_idx (k v : D) : ∀ kvs : List (D × D), setK k v kvs = match idxK k kvs with
    | some j => (match kvs[j]? with | some e => kvs.set j (e.1, v) | none => kvs)
    | none => kvs ++ [(k, v)]
  | [] => rfl
  | e :: es => by
    simp only [setK, idxK]
    split
    · simp
    · rw [setK_idx k v es]
      cases h : idxK k es with
      | none => simp
      | some j => simp only [Option.map_some, List.getElem?_cons_succ]; split <;> simp
theorem idxK_lt {k : D} : ∀ {kvs : List (D × D)} {j : Nat}, idxK k kvs = some j → j < kvs.length
  | [], j, h => by simp [idxK] at h
  | e :: es, j, h => by
    simp only [idxK] at h
    split at h
    · simp at h; subst h; simp
    · cases hi : idxK k es with
      | none => simp [hi] at h
      | some i => simp [hi] at h; subst h; have := idxK_lt hi; simp; omega

section
variable {P : Program} {w : World}

/-- Entries that read as pairs. -/
def EntR (w : World) (fb : Nat → Prop) (tys : KTy) (kvs : List (D × D)) (es : List MapEntry) : Prop :=
  es.length = kvs.length ∧ ∀ (i : Nat) (kv : D × D) (e : MapEntry), kvs[i]? = some kv → es[i]? = some e → tyM tys kv.1 = true ∧ DRep w fb kv.1 e.key ∧ DRep w fb kv.2 e.val

theorem EntR.tail {fb tys kv kvs e es} (h : EntR w fb tys (kv :: kvs) (e :: es)) : EntR w fb tys kvs es :=
  ⟨by have := h.1; simp at this; exact this, fun i a b ha hb => h.2 (i + 1) a b (by simpa using ha) (by simpa using hb)⟩

def foundAt (k : D) (kvs : List (D × D)) (es : List MapEntry) (i : Nat) : Option (Nat × Value) := (idxK k kvs).bind fun j => (es[j]?).map fun e => (i + j, e.val)

theorem foundAt_cons_ne {k : D} {kv : D × D} {kvs : List (D × D)} {e : MapEntry} {es : List MapEntry} (h : keyEq k kv.1 = false) (i : Nat) : foundAt k (kv :: kvs) (e :: es) i = foundAt k kvs es (i + 1) := by
  simp only [foundAt, idxK, h, Bool.false_eq_true, if_false]
  cases idxK k kvs with
  | none => rfl
  | some j => simp; cases es[j]? <;> simp; omega

theorem run_findAsking {kt : TypeId} {tys : KTy} (ht : plainT P kt = some tys) {k : D} {fb fb2 : Nat → Prop} {u : Value} (hk : tyM tys k = true) (hu : DRep w fb k u) :
    ∀ (kvs : List (D × D)) (es : List MapEntry) (i : Nat), EntR w fb2 tys kvs es → (Instr.findAsking kt u es i).run P w = .ok (foundAt k kvs es i) w
  | [], [], i, _ => by simp [Instr.findAsking, foundAt, idxK]
  | [], e :: es, i, h => by have := h.1; simp at this
  | kv :: kvs, [], i, h => by have := h.1; simp at this
  | kv :: kvs, e :: es, i, h => by
    obtain ⟨h1, h2, h3⟩ := h.2 0 kv e (by simp) (by simp)
    have hall : ∀ {d v}, DRep w fb2 d v → DRep w (fun _ => False) d v := fun h => h.mono (Stays.refl _ _) (fun _ _ h => h.elim)
    have hall' : ∀ {d v}, DRep w fb d v → DRep w (fun _ => False) d v := fun h => h.mono (Stays.refl _ _) (fun _ _ h => h.elim)
    simp only [Instr.findAsking, Sem.run_bind, run_equal_plain ht hk h1 (hall' hu) (hall h2), Result.andThen_ok]
    cases hq : keyEq k kv.1
    · simp only [Bool.false_eq_true, if_false]
      rw [run_findAsking ht hk hu kvs es (i + 1) h.tail, foundAt_cons_ne hq]
    · simp [foundAt, idxK, hq]

theorem findNow_scalar {kt : TypeId} {tys : KTy} (ht : plainT P kt = some tys) {d : TypeDesc} (hd : P.underlying kt = some d) {k : D} {fb fb2 : Nat → Prop} {u : Value} (hk : tyM tys k = true) (hu : DRep w fb k u) :
    ∀ (kvs : List (D × D)) (es : List MapEntry) (i : Nat), EntR w fb2 tys kvs es → Instr.findNow d u es i = some (foundAt k kvs es i) ∨ Instr.findNow d u es i = none
  | [], [], i, _ => by simp [Instr.findNow, foundAt, idxK]
  | [], e :: es, i, h => by have := h.1; simp at this
  | kv :: kvs, [], i, h => by have := h.1; simp at this
  | kv :: kvs, e :: es, i, h => by
    obtain ⟨h1, h2, h3⟩ := h.2 0 kv e (by simp) (by simp)
    have ih := findNow_scalar ht hd hk hu kvs es (i + 1) h.tail
    have hs : Instr.sameNow d u e.key = some (keyEq k kv.1) ∨ Instr.sameNow d u e.key = none := by
      have hk' := hk; have h1' := h1
      simp only [tyM, Bool.and_eq_true, beq_iff_eq] at hk' h1'
      unfold plainT at ht
      rw [hd] at ht
      cases d <;> first | (simp at ht; done) | (right; cases u <;> rfl) | skip
      · simp at ht; subst ht
        generalize e.key = v at *
        have e1 : k.cells = [k] := by cases k <;> simp_all [D.cells, D.isAgg]
        have e2 : kv.1.cells = [kv.1] := by cases hh : kv.1 <;> simp_all [D.cells, D.isAgg]
        rw [e1] at hk'; rw [e2] at h1'
        cases hu <;> simp [tyOK] at hk'
        generalize kv.1 = q at *
        cases h2 <;> simp [tyOK] at h1'
        left; simp [Instr.sameNow, keyEq, D.cells, allEq, primEq]
      · rename_i kk
        simp at ht; subst ht
        generalize e.key = v at *
        have e1 : k.cells = [k] := by cases k <;> simp_all [D.cells, D.isAgg]
        have e2 : kv.1.cells = [kv.1] := by cases hh : kv.1 <;> simp_all [D.cells, D.isAgg]
        rw [e1] at hk'; rw [e2] at h1'
        cases hu <;> simp [tyOK] at hk'
        generalize kv.1 = q at *
        cases h2 <;> simp [tyOK] at h1'
        obtain ⟨_, rfl⟩ := hk'
        obtain ⟨_, rfl⟩ := h1'
        left; simp [Instr.sameNow, keyEq, D.cells, allEq, primEq, int_beq]
    simp only [Instr.findNow]
    rcases hs with hs | hs
    · rw [hs]
      cases hq : keyEq k kv.1
      · simp only; rw [foundAt_cons_ne hq]; exact ih
      · left; simp [foundAt, idxK, hq]
    · rw [hs]; right; rfl

theorem plain_underlying {kt : TypeId} {tys : KTy} (ht : plainT P kt = some tys) : ∃ d, P.underlying kt = some d := by
  unfold plainT at ht
  cases h : P.underlying kt with
  | none => simp [h] at ht
  | some d => exact ⟨d, rfl⟩

theorem run_findKey {kt : TypeId} {tys : KTy} (ht : plainT P kt = some tys) {k : D} {fb fb2 : Nat → Prop} {u : Value} (hk : tyM tys k = true) (hu : DRep w fb k u)
    {kvs : List (D × D)} {es : List MapEntry} (he : EntR w fb2 tys kvs es) : (Instr.findKey kt u es).run P w = .ok (foundAt k kvs es 0) w := by
  obtain ⟨d, hd⟩ := plain_underlying ht
  simp only [Instr.findKey, Sem.run_bind, run_underlying hd, Result.andThen_ok]
  rcases findNow_scalar ht hd hk hu kvs es 0 he with h | h
  · rw [h]; rfl
  · rw [h]; exact run_findAsking ht hk hu kvs es 0 he
end

section
variable {E : Env} {c : Ctx} {β : Nat → Nat → Value} {s : PSt} {tm : Array Value} {w : World} {K : AV → Chg → Prop}

theorem zeroD_run {t : TypeId} {z : D} (h : zeroD E.P t = some z) {fb} : ∃ v, (zeroValue t).run E.P w = .ok v w ∧ DRep w fb z v := by
  unfold zeroD at h
  cases hi : E.P.info? t with
  | none => simp [hi] at h
  | some i =>
    simp only [hi, Option.bind_some] at h
    split at h
    · rename_i cs hz
      cases hl : listM decV cs.toList with
      | none => simp [hl] at h
      | some l =>
        simp [hl] at h; subst h
        refine ⟨.agg cs, by simp [zeroValue, typeInfo, hi, hz], .agg l cs (by rw [listM_length hl]; simp) (fun c hc => ?_) (fun i y v hy hv => ?_)⟩
        · obtain ⟨x, _, hx⟩ := listM_mem hl hc
          unfold decV at hx
          split at hx <;> (try split at hx) <;> simp at hx <;> subst hx <;> rfl
        · obtain ⟨x, hx, hxy⟩ := listM_get' hl hy
          have : x = v := by simpa [Array.getElem?_toList, hv] using hx.symm
          subst this
          exact decV_rep hxy
    · rename_i v _ hz
      exact ⟨v, by simp [zeroValue, typeInfo, hi, hz], decV_rep h⟩
    · cases h

theorem sound_lookup (h : Rel E c β s tm w) {t kt e : TypeId} {tys : KTy} {z : D} {ok : Bool} (ht : E.P.underlying t = some (.map kt e)) (hk : plainT E.P kt = some tys) (hz : zeroD E.P e = some z)
    {m key : AV} {um uk : Value} {dst : Option Nat} (hm : AVRep w (c.bar β s.V) β s.V.cn m um) (hkey : AVRep w (c.bar β s.V) β s.V.cn key uk) (he : ev E dst s.V (.lookup ok tys z) [m, key] K) :
    GotV E c s tm K ((Instr.lookup t um uk ok).run E.P w) := by
  obtain ⟨zv, hzv, hzr⟩ := zeroD_run (w := w) (fb := c.bar β s.V) hz
  have fin : ∀ (b : Bool) (d : D) (v : Value), DRep w (c.bar β s.V) d v → AVRep w (c.bar β s.V) β s.V.cn (if ok then .tup [.d d, .d (.bool b)] else .d d) (if ok then .tuple #[v, .bool b] else v) := by
    intro b d v hd
    cases ok
    · exact .d _ _ hd
    · simp only [if_true]
      refine .tup _ _ rfl fun i c v hc hv => ?_
      match i with
      | 0 => simp at hc hv; subst hc hv; exact .d _ _ hd
      | 1 => simp at hc hv; subst hc hv; exact av_bool
      | i + 2 => simp at hc
  unfold ev at he
  simp only at he
  split at he
  · rename_i o g key' heq
    simp only [List.cons.injEq, and_true] at heq; obtain ⟨rfl, rfl⟩ := heq
    split at he
    · rename_i tys' kvs k hg hd
      obtain ⟨rfl, hty, he⟩ := he
      have hob := View.get_some hg
      obtain ⟨hlt, ho⟩ := h.objs _ _ _ hob
      cases hm with | map _ _ _ _ =>
      generalize β o g = um at *
      cases ho with | map _ _ b es hb hl hent =>
      have hkr := (toD1_rep hkey hd).1
      have hE : EntR w (c.bar β s.V) tys kvs es.toList := ⟨by simpa using hl, fun i kv e h1 h2 => by
        obtain ⟨a1, a2, a3, _⟩ := hent i kv e h1 (by simpa using h2)
        exact ⟨a1, a2, a3⟩⟩
      rw [lookK_idx] at he
      have hfind := run_findKey hk hty hkr hE
      cases hi : idxK k kvs with
      | none =>
        simp [hi] at he
        refine gotV_same h he ?_ (fin false z zv hzr)
        simp only [Instr.lookup, Sem.run_bind, run_underlying ht, Result.andThen_ok, run_getObj_map hb, Sem.run_pure, checkKey_plain hk hty hkr es.isEmpty 9998, hfind, foundAt, hi, Option.bind_none, hzv]
      | some j =>
        have hj := idxK_lt hi
        have hkj : kvs[j]? = some kvs[j] := List.getElem?_eq_getElem hj
        have hej : es[j]? = some es[j] := Array.getElem?_eq_getElem (by omega)
        simp [hi, hkj] at he
        refine gotV_same h he ?_ (fin true _ es[j].val (hent j _ _ hkj hej).2.2.1)
        have hej' : es.toList[j]? = some es[j] := by simpa using hej
        simp only [Instr.lookup, Sem.run_bind, run_underlying ht, Result.andThen_ok, run_getObj_map hb, Sem.run_pure, checkKey_plain hk hty hkr es.isEmpty 9998, hfind, foundAt, hi, Option.bind_some, hej', Option.map_some]
    · exact he.elim
  · rename_i key' heq
    simp only [List.cons.injEq, and_true] at heq; obtain ⟨rfl, rfl⟩ := heq
    split at he
    · rename_i k hd
      obtain ⟨hty, he⟩ := he
      have hkr := (toD1_rep hkey hd).1
      cases hm with | d _ _ hm => cases hm with | nilmap =>
      refine gotV_same h he ?_ (fin false z zv hzr)
      have hfind := run_findKey (w := w) (fb2 := c.bar β s.V) hk hty hkr (kvs := []) (es := []) ⟨rfl, fun i kv e h1 => by simp at h1⟩
      simp only [Instr.lookup, Sem.run_bind, run_underlying ht, Result.andThen_ok, Sem.run_pure, checkKey_plain hk hty hkr _ 9998, hfind, foundAt, idxK, Option.bind_none, hzv]
    · exact he.elim
  · exact he.elim
end
end Go.Pw
