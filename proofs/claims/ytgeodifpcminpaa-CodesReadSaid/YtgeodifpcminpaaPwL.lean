/- Maps: stores. New objects, stores into cells. -/
import Derived.Test.YtgeodifpcminpaaPwK
set_option linter.all false
namespace Go.Pw
open Go.RowKit
set_option linter.unusedSimpArgs false
set_option linter.unusedVariables false
section
variable {E : Env} {c : Ctx} {β : Nat → Nat → Value} {s : PSt} {tm : Array Value} {w : World} {K : AV → Chg → Prop}

/-- What a statement on the memory came to. -/
def GotU (E : Env) (c : Ctx) (s : PSt) (tm : Array Value) (K : AV → Chg → Prop) (r : Result Unit) : Prop :=
  ∃ w' ch β', r = .ok () w' ∧ K .undef ch ∧ Rel E c β' ⟨s.sl, s.V.app ch⟩ tm w'

def World.setObjAt (w : World) (r : Nat) (o : Obj) : World := { w with heap := w.heap.setIfInBounds r o }

theorem run_setObj_map {P : Program} {b : Nat} {es : Array MapEntry} {cl : Nat} {o : Obj} (hb : w.heap[b]? = some (.map es cl)) : (setObj b o).run P w = .ok () (World.setObjAt w b o) := by
  simp [setObj, Sem.run, hb, World.setObjAt]

theorem only_setObj {b : Nat} {o : Obj} : Only (.map (some b)) w (World.setObjAt w b o) := by
  refine ⟨rfl, rfl, rfl, by simp [World.setObjAt], fun k hk hne => ?_⟩
  simp only [World.setObjAt]
  rw [Array.getElem?_setIfInBounds_ne]
  intro h; subst h; exact hne rfl

theorem setObj_at {b : Nat} {o : Obj} (hb : b < w.heap.size) : (World.setObjAt w b o).heap[b]? = some o := by
  simp [World.setObjAt, hb]

theorem primval_rep {d : D} {fb : Nat → Prop} {v : Value} (h : DRep w fb d v) : True := trivial

theorem sameBits_key {tys : KTy} {k : D} {fb : Nat → Prop} {u v : Value} (hk : tyM tys k = true) (hu : DRep w fb k u) : True := trivial

/-- A key that is there stays, as the new one. -/
theorem run_keyStays {P : Program} {tys : KTy} {a k : D} {fb fb2 : Nat → Prop} {u v : Value} (ha : tyM tys a = true) (hk : tyM tys k = true) (hu : DRep w fb a u) (hv : DRep w fb2 k v) (he : keyEq k a = true) :
    (Instr.keyThatStays u v).run P w = .ok v w := by
  have prim : ∀ {ks : Option IntKind} {x y : D} {p q : Value} (n : Nat), tyOK [ks] [x] = true → tyOK [ks] [y] = true → DRep w fb x p → DRep w fb2 y q → primEq y x = true → Instr.sameBits n p q = true := by
    intro ks x y p q n hx hy hp hq hpe
    cases ks with
    | none =>
      cases hp <;> simp [tyOK] at hx
      cases hq <;> simp [tyOK] at hy
      simp [primEq] at hpe; subst hpe
      simp [Instr.sameBits]
    | some kk =>
      cases hp <;> simp [tyOK] at hx
      cases hq <;> simp [tyOK] at hy
      subst hx hy
      simp [primEq] at hpe; subst hpe
      simp [Instr.sameBits]
  have hs : Instr.sameBits 10000 u v = true := by
    simp only [tyM, Bool.and_eq_true, beq_iff_eq] at ha hk
    by_cases hag : tys.1 = true
    · rw [hag] at ha hk
      obtain ⟨cs, rfl⟩ : ∃ cs, a = .agg cs := by cases a <;> simp_all [D.isAgg]
      obtain ⟨ds, rfl⟩ : ∃ cs, k = .agg cs := by cases k <;> simp_all [D.isAgg]
      cases hu with | agg _ us hl1 _ hr1 =>
      cases hv with | agg _ vs hl2 _ hr2 =>
      simp only [D.cells] at ha hk
      have e1 := tyOK_length ha.2
      have e2 := tyOK_length hk.2
      simp only [Instr.sameBits, Bool.and_eq_true, beq_iff_eq]
      refine ⟨by omega, ?_⟩
      have key : ∀ (ks : List (Option IntKind)) (cs ds : List D) (us vs : List Value), tyOK ks cs = true → tyOK ks ds = true → allEq ds cs = true → us.length = cs.length → vs.length = ds.length →
          (∀ (i : Nat) c v, cs[i]? = some c → us[i]? = some v → DRep w fb c v) → (∀ (i : Nat) c v, ds[i]? = some c → vs[i]? = some v → DRep w fb2 c v) → ((us.zip vs).all fun (x, y) => Instr.sameBits 9999 x y) = true := by
        intro ks
        induction ks with
        | nil => intro cs ds us vs h1 h2 h3 h4 h5 _ _
                 have := tyOK_length h1; simp at this; subst this
                 simp at h4; subst h4; simp
        | cons k ks ih =>
          intro cs ds us vs h1 h2 h3 h4 h5 h6 h7
          have l1 := tyOK_length h1; have l2 := tyOK_length h2
          match cs, ds, us, vs, l1, l2, h4, h5 with
          | x :: cs, y :: ds, p :: us, q :: vs, _, _, h4, h5 =>
            simp only [allEq, Bool.and_eq_true] at h3
            simp only [List.zip_cons_cons, List.all_cons, Bool.and_eq_true]
            exact ⟨prim 9999 (tyOK_cons h1).1 (tyOK_cons h2).1 (h6 0 x p (by simp) (by simp)) (h7 0 y q (by simp) (by simp)) h3.1,
              ih cs ds us vs (tyOK_cons h1).2 (tyOK_cons h2).2 h3.2 (by simpa using h4) (by simpa using h5) (fun i c v hc hv => h6 (i + 1) c v (by simpa using hc) (by simpa using hv)) (fun i c v hc hv => h7 (i + 1) c v (by simpa using hc) (by simpa using hv))⟩
      exact key tys.2 cs ds us.toList vs.toList ha.2 hk.2 he (by simpa using hl1) (by simpa using hl2) (fun i c v hc hv => hr1 i c v hc (by simpa using hv)) (fun i c v hc hv => hr2 i c v hc (by simpa using hv))
    · simp only [Bool.not_eq_true] at hag
      rw [hag] at ha hk
      have e1 : a.cells = [a] := by cases a <;> simp_all [D.cells, D.isAgg]
      have e2 : k.cells = [k] := by cases k <;> simp_all [D.cells, D.isAgg]
      rw [e1] at ha; rw [e2] at hk
      have := tyOK_length ha.2
      match hts : tys.2, this with
      | [kk], _ =>
        rw [hts] at ha hk
        exact prim 10000 ha.2 hk.2 hu hv (by simpa [keyEq, e1, e2, allEq] using he)
  simp [Instr.keyThatStays, hs]

theorem idxK_eq {k : D} : ∀ {kvs : List (D × D)} {j : Nat} {e : D × D}, idxK k kvs = some j → kvs[j]? = some e → keyEq k e.1 = true
  | [], j, e, h, he => by simp at he
  | e0 :: es, j, e, h, he => by
    simp only [idxK] at h
    split at h
    · rename_i hq; simp at h; subst h; simp at he; subst he; exact hq
    · cases hi : idxK k es with
      | none => simp [hi] at h
      | some i => simp [hi] at h; subst h; simp at he; exact idxK_eq hi he

theorem allEq_eq : ∀ {ks : List (Option IntKind)} {cs ds : List D}, tyOK ks cs = true → tyOK ks ds = true → allEq ds cs = true → ds = cs
  | [], cs, ds, h1, h2, _ => by have l1 := tyOK_length h1; have l2 := tyOK_length h2; simp at l1 l2; subst l1 l2; rfl
  | k :: ks, cs, ds, h1, h2, h3 => by
    have l1 := tyOK_length h1; have l2 := tyOK_length h2
    match cs, ds, l1, l2 with
    | x :: cs, y :: ds, _, _ =>
      simp only [allEq, Bool.and_eq_true] at h3
      rw [allEq_eq (tyOK_cons h1).2 (tyOK_cons h2).2 h3.2]
      have a1 := (tyOK_cons h1).1; have a2 := (tyOK_cons h2).1
      have : y = x := by
        cases k <;> cases x <;> simp [tyOK] at a1 <;> cases y <;> simp [tyOK] at a2 <;> simp_all [primEq]
      rw [this]
theorem keyEq_eq {tys : KTy} {a k : D} (ha : tyM tys a = true) (hk : tyM tys k = true) (h : keyEq k a = true) : k = a := by
  simp only [tyM, Bool.and_eq_true, beq_iff_eq] at ha hk
  have := allEq_eq ha.2 hk.2 h
  cases a <;> cases k <;> simp_all [D.cells, D.isAgg]

/-- The facts on a map that is an object. -/
theorem map_facts (h : Rel E c β s tm w) {o g : Nat} {tys : KTy} {kvs : List (D × D)} {um : Value} (hg : s.V.get o g = some (.map tys kvs)) (hm : AVRep w (c.bar β s.V) β s.V.cn (.map o g) um) :
    ∃ b es, um = .map (some b) ∧ β o g = .map (some b) ∧ s.V.ob o = some (g, .map tys kvs) ∧ w.heap[b]? = some (.map es kvs.length) ∧ es.size = kvs.length ∧
      (∀ (i : Nat) (kv : D × D) (e : MapEntry), kvs[i]? = some kv → es[i]? = some e → tyM tys kv.1 = true ∧ DRep w (c.bar β s.V) kv.1 e.key ∧ DRep w (c.bar β s.V) kv.2 e.val ∧ e.born = i) := by
  have hob := View.get_some hg
  obtain ⟨hlt, ho⟩ := h.objs _ _ _ hob
  cases hm with | map _ _ _ _ =>
  generalize hv : β o g = um at *
  cases ho with | map _ _ b es hb hl hent => exact ⟨b, es, rfl, rfl, hob, hb, hl, hent⟩

theorem map_kept (h : Rel E c β s tm w) {o g : Nat} {tys : KTy} {kvs kvs' : List (D × D)} {b : Nat} {es es' : Array MapEntry} (hβ : β o g = .map (some b)) (hob : s.V.ob o = some (g, .map tys kvs)) (hb : w.heap[b]? = some (.map es kvs.length))
    (hl' : es'.size = kvs'.length) (hent' : ∀ (i : Nat) (kv : D × D) (e : MapEntry), kvs'[i]? = some kv → es'[i]? = some e → tyM tys kv.1 = true ∧ DRep w (c.bar β s.V) kv.1 e.key ∧ DRep w (c.bar β s.V) kv.2 e.val ∧ e.born = i) :
    Rel E c β ⟨s.sl, s.V.app (.keep o g (.map tys kvs'))⟩ tm (World.setObjAt w b (.map es' kvs'.length)) := by
  have hlt : b < w.heap.size := (Array.getElem?_eq_some_iff.1 hb).1
  have hst : Stays (c.bar β s.V) w (World.setObjAt w b (.map es' kvs'.length)) := fun k hk hlt => by
    have := only_setObj (w := w) (b := b) (o := .map es' kvs'.length)
    refine this.block k hlt fun he => hk (.inr ⟨o, g, _, hob, by rw [hβ]; exact he⟩)
  refine h.kept hob (by rw [hβ]; exact only_setObj) fun fb' hf hfe => ?_
  rw [hβ]
  refine .map tys kvs' b es' (setObj_at hlt) hl' fun i kv e h1 h2 => ?_
  obtain ⟨a1, a2, a3, a4⟩ := hent' i kv e h1 h2
  exact ⟨a1, a2.mono hst hf, a3.mono hst hf, a4⟩

theorem sound_mapupd (h : Rel E c β s tm w) {t kt e : TypeId} {tys : KTy} (ht : E.P.underlying t = some (.map kt e)) (hk : plainT E.P kt = some tys)
    {m key val : AV} {um uk uv : Value} {dst : Option Nat} (hm : AVRep w (c.bar β s.V) β s.V.cn m um) (hkey : AVRep w (c.bar β s.V) β s.V.cn key uk) (hval : AVRep w (c.bar β s.V) β s.V.cn val uv) (he : ev E dst s.V (.mapupd tys) [m, key, val] K) :
    GotU E c s tm K ((Instr.mapUpdate t um uk uv).run E.P w) := by
  unfold ev at he
  simp only at he
  split at he
  · rename_i o g key' val' heq
    simp only [List.cons.injEq, and_true] at heq; obtain ⟨rfl, rfl, rfl⟩ := heq
    split at he
    · rename_i tys' kvs k v hg hd hdv
      obtain ⟨rfl, hv1, hty, he⟩ := he
      obtain ⟨b, es, rfl, hβ, hob, hb, hl, hent⟩ := map_facts h hg hm
      have hkr := (toD1_rep hkey hd).1
      have hvr := (toD1_rep hval hdv).1
      have hE : EntR w (c.bar β s.V) tys kvs es.toList := ⟨by rw [Array.length_toList]; exact hl, fun i kv e h1 h2 => by
        obtain ⟨a1, a2, a3, _⟩ := hent i kv e h1 (by simpa using h2)
        exact ⟨a1, a2, a3⟩⟩
      rw [setK_idx] at he
      have hfind := run_findKey hk hty hkr hE
      cases hi : idxK k kvs with
      | none =>
        simp only [hi] at he
        refine ⟨_, _, β, ?_, he, map_kept h hβ hob hb (es' := es.push ⟨uk, uv, kvs.length⟩) (by simp [hl]) ?_⟩
        · simp only [Instr.mapUpdate, Sem.run_bind, run_underlying ht, Result.andThen_ok, run_getObj_map hb, checkKey_plain hk hty hkr _ 9998, hfind, foundAt, hi, Option.bind_none, run_setObj_map hb, List.length_append, List.length_cons, List.length_nil]
        · intro i kv e h1 h2
          rw [Array.getElem?_push] at h2
          split at h2
          · rename_i hi'
            simp at h2; subst h2
            rw [hi', hl] at h1
            simp at h1; subst h1
            exact ⟨hty, hkr, hvr, by simp only; omega⟩
          · have hlt : i < es.size := (Array.getElem?_eq_some_iff.1 h2).1
            rw [List.getElem?_append_left (by omega)] at h1
            exact hent i kv e h1 h2
      | some j =>
        have hj := idxK_lt hi
        have hkj : kvs[j]? = some kvs[j] := List.getElem?_eq_getElem hj
        have hej : es[j]? = some es[j] := Array.getElem?_eq_getElem (by omega)
        have hej' : es.toList[j]? = some es[j] := by rw [Array.getElem?_toList]; exact hej
        simp only [hi, hkj] at he
        obtain ⟨b1, b2, b3, b4⟩ := hent j _ _ hkj hej
        have hstay := run_keyStays (P := E.P) b1 hty b2 hkr (idxK_eq hi hkj)
        have hlen : (kvs.set j (kvs[j].1, v)).length = kvs.length := by simp
        refine ⟨_, _, β, ?_, he, map_kept h hβ hob hb (es' := es.modify j fun e => { e with key := uk, val := uv }) (by simp [hl]) ?_⟩
        · rw [hlen]
          simp only [Instr.mapUpdate, Sem.run_bind, run_underlying ht, Result.andThen_ok, run_getObj_map hb, checkKey_plain hk hty hkr _ 9998, hfind, foundAt, hi, Option.bind_some, hej', Option.map_some, Nat.zero_add, hej, Option.getD_some, hstay, run_setObj_map hb]
        · intro i kv e h1 h2
          rw [Array.getElem?_modify] at h2
          by_cases hij : j = i
          · subst hij
            rw [if_pos rfl, hej] at h2
            simp at h2; subst h2
            simp [hj] at h1; subst h1
            refine ⟨b1, ?_, hvr, b4⟩
            rw [← keyEq_eq b1 hty (idxK_eq hi hkj)]; exact hkr
          · rw [if_neg hij] at h2
            rw [List.getElem?_set_ne hij] at h1
            exact hent i kv e h1 h2
    · exact he.elim
  · exact he.elim

theorem sound_mapent (h : Rel E c β s tm w) {t kt e : TypeId} {tys : KTy} {z : D} (ht : E.P.underlying t = some (.map kt e)) (hk : plainT E.P kt = some tys) (hz : zeroD E.P e = some z) (hz1 : z.one = true)
    {m key : AV} {um uk : Value} {dst : Option Nat} (hm : AVRep w (c.bar β s.V) β s.V.cn m um) (hkey : AVRep w (c.bar β s.V) β s.V.cn key uk) (he : ev E dst s.V (.mapent tys z) [m, key] K) :
    GotV E c s tm K ((Instr.mapEntry t um uk).run E.P w) := by
  obtain ⟨zv, hzv, hzr⟩ := zeroD_run (w := w) (fb := c.bar β s.V) hz
  have fin : ∀ {w' : World} {fb : Nat → Prop} {β' : Nat → Nat → Value} {cn : Nat → Nat} (v : Value) (n : Nat), n ≤ maxLen → AVRep w' fb β' cn (.tup [.undef, .d (.int .i64 n)]) (.tuple #[v, goInt n]) := by
    intro w' fb β' cn v n hn
    refine .tup _ _ rfl fun i c v' hc hv => ?_
    match i with
    | 0 => simp at hc hv; subst hc hv; exact .undef _
    | 1 => simp at hc hv; subst hc hv; exact .d _ _ (.int _ _ (by simp only [InK, maxLen] at *; simp [IntKind.min, IntKind.max, IntKind.signed, IntKind.bits]; omega))
    | i + 2 => simp at hc
  unfold ev at he
  simp only at he
  split at he
  · rename_i o g key' heq
    simp only [List.cons.injEq, and_true] at heq; obtain ⟨rfl, rfl⟩ := heq
    split at he
    · rename_i tys' kvs k hg hd
      obtain ⟨rfl, hty, hsz, he⟩ := he
      obtain ⟨b, es, rfl, hβ, hob, hb, hl, hent⟩ := map_facts h hg hm
      have hkr := (toD1_rep hkey hd).1
      have hE : EntR w (c.bar β s.V) tys kvs es.toList := ⟨by rw [Array.length_toList]; exact hl, fun i kv e h1 h2 => by
        obtain ⟨a1, a2, a3, _⟩ := hent i kv e h1 (by simpa using h2)
        exact ⟨a1, a2, a3⟩⟩
      have hfind := run_findKey hk hty hkr hE
      cases hi : idxK k kvs with
      | none =>
        simp only [hi] at he
        refine ⟨_, _, _, _, β, ?_, he, map_kept h hβ hob hb (es' := es.push ⟨uk, zv, kvs.length⟩) (by simp [hl]) ?_, fin zv kvs.length (by unfold maxLen; unfold bound at hsz; omega)⟩
        · simp only [Instr.mapEntry, Sem.run_bind, run_underlying ht, Result.andThen_ok, run_getObj_map hb, checkKey_plain hk hty hkr _ 9998, hfind, foundAt, hi, Option.bind_none, run_setObj_map hb, List.length_append, List.length_cons, List.length_nil, hzv, Sem.run_pure]
        · intro i kv e h1 h2
          rw [Array.getElem?_push] at h2
          split at h2
          · rename_i hi'
            simp at h2; subst h2
            rw [hi', hl] at h1
            simp at h1; subst h1
            exact ⟨hty, hkr, hzr, by simp only; omega⟩
          · have hlt : i < es.size := (Array.getElem?_eq_some_iff.1 h2).1
            rw [List.getElem?_append_left (by omega)] at h1
            exact hent i kv e h1 h2
      | some j =>
        have hj := idxK_lt hi
        have hkj : kvs[j]? = some kvs[j] := List.getElem?_eq_getElem hj
        have hej : es[j]? = some es[j] := Array.getElem?_eq_getElem (by omega)
        have hej' : es.toList[j]? = some es[j] := by rw [Array.getElem?_toList]; exact hej
        simp only [hi] at he
        obtain ⟨b1, b2, b3, b4⟩ := hent j _ _ hkj hej
        have hstay := run_keyStays (P := E.P) b1 hty b2 hkr (idxK_eq hi hkj)
        -- the object is laid anew, as it reads
        have hrel := map_kept h hβ hob hb (kvs' := kvs) (es' := es.modify j fun e => { e with key := uk }) (by simp [hl]) (fun i kv e h1 h2 => by
          rw [Array.getElem?_modify] at h2
          by_cases hij : j = i
          · subst hij
            rw [if_pos rfl, hej] at h2
            simp at h2; subst h2
            rw [hkj] at h1; simp at h1; subst h1
            exact ⟨b1, by rw [← keyEq_eq b1 hty (idxK_eq hi hkj)]; exact hkr, b3, b4⟩
          · rw [if_neg hij] at h2
            exact hent i kv e h1 h2)
        have hV : s.V.app (.keep o g (.map tys kvs)) = s.V := by
          simp only [View.app]
          have : upd s.V.ob o (some (g, AObj.map tys kvs)) = s.V.ob := by
            funext q; simp only [upd]; split
            · rename_i hq; rw [hq, hob]
            · rfl
          rw [this]
        rw [hV] at hrel
        refine ⟨_, _, _, .none, β, ?_, he, hrel, fin es[j].val j (by unfold maxLen; unfold bound at hsz; omega)⟩
        simp only [Instr.mapEntry, Sem.run_bind, run_underlying ht, Result.andThen_ok, run_getObj_map hb, checkKey_plain hk hty hkr _ 9998, hfind, foundAt, hi, Option.bind_some, hej', Option.map_some, Nat.zero_add, hej, Option.getD_some, hstay, run_setObj_map hb, Sem.run_pure, b4]
    · exact he.elim
  · exact he.elim

theorem sound_entst (h : Rel E c β s tm w) {t : TypeId} 
    {m st val : AV} {um us uv : Value} {dst : Option Nat} (hm : AVRep w (c.bar β s.V) β s.V.cn m um) (hst : AVRep w (c.bar β s.V) β s.V.cn st us) (hval : AVRep w (c.bar β s.V) β s.V.cn val uv) (he : ev E dst s.V .entst [m, st, val] K) :
    GotU E c s tm K ((Instr.entryStore t um us uv).run E.P w) := by
  unfold ev at he
  simp only at he
  split at he
  · rename_i o g k i val' heq
    simp only [List.cons.injEq, and_true] at heq; obtain ⟨rfl, rfl, rfl⟩ := heq
    split at he
    · rename_i tys kvs v hg hdv
      obtain ⟨h0, hv1, he⟩ := he
      split at he
      · rename_i kv hkv
        obtain ⟨rfl, _⟩ := rep_int hst
        obtain ⟨b, es, rfl, hβ, hob, hb, hl, hent⟩ := map_facts h hg hm
        have hvr := (toD1_rep hval hdv).1
        have hj : i.toNat < kvs.length := (List.getElem?_eq_some_iff.1 hkv).1
        have hfind : es.findIdx? (fun e => (e.born : Int) == i) = some i.toNat := by
          rw [Array.findIdx?_eq_some_iff_getElem]
          refine ⟨by omega, ?_, fun q hq => ?_⟩
          · have := (hent i.toNat kv _ hkv (Array.getElem?_eq_getElem (by omega))).2.2.2
            rw [this]; simp; omega
          · have := (hent q kvs[q] _ (List.getElem?_eq_getElem (by omega)) (Array.getElem?_eq_getElem (by omega))).2.2.2
            rw [this]; simp; omega
        have hlen : (kvs.set i.toNat (kv.1, v)).length = kvs.length := by simp
        refine ⟨_, _, β, ?_, he, map_kept h hβ hob hb (es' := es.modify i.toNat fun e => { e with val := uv }) (by simp [hl]) ?_⟩
        · rw [hlen]
          simp only [Instr.entryStore, Sem.run_bind, Sem.run_pure, run_getObj_map hb, asInt, asIntOf, Result.andThen_ok, hfind, run_setObj_map hb]
        · intro q kv' e h1 h2
          rw [Array.getElem?_modify] at h2
          by_cases hij : i.toNat = q
          · subst hij
            have hej : es[i.toNat]? = some es[i.toNat] := Array.getElem?_eq_getElem (by omega)
            obtain ⟨b1, b2, b3, b4⟩ := hent _ _ _ hkv hej
            rw [if_pos rfl, hej] at h2
            simp at h2; subst h2
            simp [hj] at h1; subst h1
            exact ⟨b1, b2, hvr, b4⟩
          · rw [if_neg hij] at h2
            rw [List.getElem?_set_ne hij] at h1
            exact hent q kv' e h1 h2
      · exact he.elim
    · exact he.elim
  · exact he.elim
end
end Go.Pw
