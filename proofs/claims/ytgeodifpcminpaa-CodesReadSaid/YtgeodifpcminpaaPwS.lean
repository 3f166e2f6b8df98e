/- EACH OPERATION OF THE MODEL DOES WHAT 'ev' SAYS OF THAT WHICH IT IS DECODED TO. -/
import Derived.Test.YtgeodifpcminpaaPwR
set_option linter.all false
namespace Go.Pw
open Go.RowKit
set_option linter.unusedSimpArgs false
set_option linter.unusedVariables false

section
variable {E : Env} {c : Ctx} {β : Nat → Nat → Value} {s : PSt} {a : Act} {w : World} {K : AV → Chg → Prop}

theorem got_of_mm {tm : Array Value} (h : Rel E c β s tm w) {isMax : Bool} {dst : Option Nat} {x : Operand} {as : List Operand} {xs : List AV} (hxs : ValsR (AVRep w (c.bar β s.V) β s.V.cn) xs ((x :: as).map a.eval)) (he : ev E dst s.V (.minmax isMax) xs K) {m : Sem Next}
    (hm : m.run E.P w = (do let v ← (as.map a.eval).foldlM (if isMax then Builtin.max2 else Builtin.min2) (a.eval x); pure (Next.value v) : Sem Next).run E.P w) : Got E c s tm K (m.run E.P w) := by
  rw [hm]
  unfold ev at he
  simp only at he
  split at he
  · obtain ⟨u, us', heq, h1, h2⟩ := hxs.cons'
    simp only [List.map_cons, List.cons.injEq] at heq
    obtain ⟨rfl, rfl⟩ := heq
    split at he
    · rename_i r hr
      obtain ⟨he1, he2⟩ := rep_int h1
      rw [he1]
      obtain ⟨h3, h4⟩ := foldMM_run (E := E) he2 h2 hr
      exact got_same h he (by simp only [Sem.run_bind, h3, Result.andThen_ok, Sem.run_pure]) (av_int h4)
    · exact he.elim
  · exact he.elim

theorem sound_callOp (h : Rel E c β s a.tmps w) {draw : Bool} {o : Oper} {cl : Call} {iop : IOp} {ops : List Operand} {xs : List AV} (hop : o.op = .call cl) (hd : decCall E draw cl = some (iop, ops))
    (hxs : ValsR (AVRep w (c.bar β s.V) β s.V.cn) xs (ops.map a.eval)) (he : ev E o.dst s.V iop xs K) : Got E c s a.tmps K ((execOp a.eval o).run E.P w) := by
  have hex : execOp a.eval o = (do let d ← resolve a.eval cl o.type; invoke d.target d.args) := by simp [execOp, hop]
  rw [hex]
  obtain ⟨callee, args, argTypes⟩ := cl
  have valueCase : ∀ x, callee = .value x → iop = .callv → ops = x :: args.toList → Got E c s a.tmps K (((do let d ← resolve a.eval ⟨callee, args, argTypes⟩ o.type; invoke d.target d.args : Sem Next)).run E.P w) := by
    intro x hc h1 h2
    subst hc h1 h2
    simp only [List.map_cons] at hxs
    cases xs with
    | nil => exact absurd hxs.1 (by simp)
    | cons y ys =>
      have hc := hxs.cons
      have := sound_callv (us := args.map a.eval) (dst := o.dst) h hc.1 (by simpa using hc.2) he
      simpa [resolve] using this
  have two : ∀ {x y : Operand}, ops = [x, y] → ∃ ax ay, xs = [ax, ay] ∧ AVRep w (c.bar β s.V) β s.V.cn ax (a.eval x) ∧ AVRep w (c.bar β s.V) β s.V.cn ay (a.eval y) := by
    intro x y hops
    subst hops
    cases xs with
    | nil => exact absurd hxs.1 (by simp)
    | cons ax ys =>
      cases ys with
      | nil => exact absurd hxs.1 (by simp)
      | cons ay zs =>
        cases zs with
        | cons _ _ => exact absurd hxs.1 (by simp)
        | nil =>
          obtain ⟨u, v, hu', h1, h2⟩ := decTwo hxs
          simp at hu'; obtain ⟨rfl, rfl⟩ := hu'
          exact ⟨ax, ay, rfl, h1, h2⟩
  cases callee with
  | invoke x n => cases hd
  | value f =>
    cases f with
    | func f =>
      simp only [decCall] at hd
      split at hd
      · rename_i hb
        simp at hd; obtain ⟨rfl, rfl⟩ := hd
        have := sound_callF (f := f) (us := args.map a.eval) (cap := #[]) (cs := []) (xs := xs) (dst := o.dst) h hb (by simpa using hxs) ⟨by simp, by simp⟩ (by simpa [ev] using he)
        simpa [resolve, Act.eval] using this
      · cases hd
    | tmp t => simp [decCall] at hd; exact valueCase _ rfl hd.1.symm hd.2.symm
    | const t => simp [decCall] at hd; exact valueCase _ rfl hd.1.symm hd.2.symm
    | global t => simp [decCall] at hd; exact valueCase _ rfl hd.1.symm hd.2.symm
  | builtin b =>
    obtain ⟨args⟩ := args
    simp only [decCall] at hd
    cases b <;> simp only [decBuiltin] at hd <;> try (cases hd; done)
    case len =>
      split at hd <;> try (cases hd; done)
      rename_i x
      have hred : ∀ (t : TypeId), argTypes[0]? = some t → (do let d ← resolve a.eval ⟨.builtin .len, #[x], argTypes⟩ o.type; invoke d.target d.args : Sem Next) = (do let v ← Builtin.len_ #[t] o.type #[a.eval x]; pure (Next.value v)) := by
        intro t ht
        simp [resolve, invoke, builtin, Builtin.len_, ht]
      have one : ops = [x] → ∃ ax, xs = [ax] ∧ AVRep w (c.bar β s.V) β s.V.cn ax (a.eval x) := by
        intro hops
        subst hops
        cases xs with
        | nil => exact absurd hxs.1 (by simp)
        | cons y ys =>
          cases ys with
          | cons _ _ => exact absurd hxs.1 (by simp)
          | nil =>
            obtain ⟨u, hu', h1⟩ := decOne hxs
            simp at hu'; subst hu'
            exact ⟨y, rfl, h1⟩
      split at hd
      · rename_i e hu
        simp at hd; obtain ⟨rfl, rfl⟩ := hd
        simp only [Option.bind_eq_some_iff] at hu; obtain ⟨t, ht, hu⟩ := hu
        obtain ⟨ax, rfl, h1⟩ := one rfl
        rw [hred t ht]
        exact got_of_R h (sound_len h (dst := o.dst) (m := false) ⟨_, hu⟩ h1 he)
      · rename_i k e hu
        simp at hd; obtain ⟨rfl, rfl⟩ := hd
        simp only [Option.bind_eq_some_iff] at hu; obtain ⟨t, ht, hu⟩ := hu
        obtain ⟨ax, rfl, h1⟩ := one rfl
        rw [hred t ht]
        exact got_of_R h (sound_len h (dst := o.dst) (m := true) ⟨_, _, hu⟩ h1 he)
      · cases hd
    case min =>
      split at hd <;> try (cases hd; done)
      rename_i x as
      simp at hd; obtain ⟨rfl, rfl⟩ := hd
      refine got_of_mm h (isMax := false) (dst := o.dst) hxs he ?_
      simp [resolve, invoke, builtin, Builtin.min_]
    case max =>
      split at hd <;> try (cases hd; done)
      rename_i x as
      simp at hd; obtain ⟨rfl, rfl⟩ := hd
      refine got_of_mm h (isMax := true) (dst := o.dst) hxs he ?_
      simp [resolve, invoke, builtin, Builtin.max_]
    case append =>
      split at hd <;> try (cases hd; done)
      rename_i x y
      split at hd <;> try (cases hd; done)
      rename_i e ty hu hv
      simp only [Option.bind_eq_some_iff] at hu hv
      obtain ⟨t, ht, hu⟩ := hu
      obtain ⟨tx, htx, hv⟩ := hv
      split at hd <;> try (cases hd; done)
      rename_i i z hi hz
      split at hd <;> try (cases hd; done)
      rename_i hcond
      obtain ⟨hpos, hby, hzz⟩ := hcond
      simp only [Option.map_eq_some_iff] at hzz
      obtain ⟨zv, hzv, hzs⟩ := hzz
      have hred : (do let d ← resolve a.eval ⟨.builtin .append, #[x, y], argTypes⟩ o.type; invoke d.target d.args : Sem Next) = (do let v ← Builtin.append_ #[t, tx] o.type #[a.eval x, a.eval y]; pure (Next.value v)) := by
        have : Builtin.append_ argTypes o.type #[a.eval x, a.eval y] = Builtin.append_ #[t, tx] o.type #[a.eval x, a.eval y] := by
          simp only [Builtin.append_, ht, htx, List.getElem?_toArray, List.getElem?_cons_zero, List.getElem?_cons_succ]
        simp [resolve, invoke, builtin, this]
      split at hd <;> try (cases hd; done)
      · split at hd <;> try (cases hd; done)
        rename_i e' he'
        subst he'
        simp at hd; obtain ⟨rfl, rfl⟩ := hd
        obtain ⟨ax, ay, rfl, h1, h2⟩ := two rfl
        rw [hred]
        exact got_of_V (sound_app h hu hi hzv hpos hby hzs (.inl ⟨rfl, _, hv⟩) h1 h2 he)
      · split at hd <;> try (cases hd; done)
        rename_i hzl
        simp at hd; obtain ⟨rfl, rfl⟩ := hd
        obtain ⟨ax, ay, rfl, h1, h2⟩ := two rfl
        rw [hred]
        exact got_of_V (sound_app h hu hi hzv hpos hby hzs (.inr ⟨z, rfl, hv, hz, hi, hzv, hzl, hby⟩) h1 h2 he)

theorem listM_map {α γ δ : Type} (f : α → δ) (g : δ → Option γ) : ∀ l : List α, listM g (l.map f) = listM (fun x => g (f x)) l
  | [] => rfl
  | x :: l => by simp only [List.map_cons, listM, listM_map f g l]

theorem plainT_agg {P : Program} {t : TypeId} {tys : KTy} (h : plainT P t = some tys) (hu : (∃ fs, P.underlying t = some (.struct fs)) ∨ ∃ n e, P.underlying t = some (.array n e)) : tys.1 = true := by
  unfold plainT at h
  rcases hu with ⟨fs, hu⟩ | ⟨n, e, hu⟩
  · simp only [hu] at h
    split at h
    · simp only [Option.map_eq_some_iff] at h
      obtain ⟨l, _, rfl⟩ := h; rfl
    · cases h
  · simp only [hu] at h
    split at h
    · simp only [Option.map_eq_some_iff] at h
      obtain ⟨l, _, rfl⟩ := h; rfl
    · cases h

theorem nilck_run (h : Rel E c β s a.tmps w) {dst : Option Nat} {x : AV} {u : Value} (hx : AVRep w (c.bar β s.V) β s.V.cn x u) (he : ev E dst s.V .nilck [x] K) {m : Sem Next}
    (hm : ∀ ad, u = .pointer (some ad) → m = pure (.value u)) : Got E c s a.tmps K (m.run E.P w) := by
  unfold ev at he
  simp only at he
  have key : ∀ ad, u = .pointer (some ad) → K x .none → Got E c s a.tmps K (m.run E.P w) := fun ad hu hK => got_same h hK (by rw [hm ad hu]; simp) hx
  split at he
  · rename_i heq; simp at heq; subst heq
    cases hx with | ptr _ _ _ b _ _ => exact key _ rfl he
  · rename_i heq; simp at heq; subst heq
    cases hx with | rptr => exact key _ rfl he
  · rename_i heq; simp at heq; subst heq
    cases hx with | dptr => exact key _ rfl he
  · rename_i heq; simp at heq; subst heq
    cases hx with | d _ _ hx => cases hx with | ptr => exact key _ rfl (by assumption)
  · exact he.elim

theorem op_sound (h : Rel E c β s a.tmps w) {draw used : Bool} {o : Oper} {iop : IOp} {ops : List Operand} {xs : List AV} (hd : decOp E draw used o.op = some (iop, ops))
    (hxs : ValsR (AVRep w (c.bar β s.V) β s.V.cn) xs (ops.map a.eval)) (he : ev E o.dst s.V iop xs K) : Got E c s a.tmps K ((execOp a.eval o).run E.P w) := by
  have one : ∀ {x : Operand}, ops = [x] → ∃ ax, xs = [ax] ∧ AVRep w (c.bar β s.V) β s.V.cn ax (a.eval x) := by
    intro x hops
    subst hops
    cases xs with
    | nil => exact absurd hxs.1 (by simp)
    | cons y ys =>
      cases ys with
      | cons _ _ => exact absurd hxs.1 (by simp)
      | nil =>
        obtain ⟨u, hu', h1⟩ := decOne hxs
        simp at hu'; subst hu'
        exact ⟨y, rfl, h1⟩
  have two : ∀ {x y : Operand}, ops = [x, y] → ∃ ax ay, xs = [ax, ay] ∧ AVRep w (c.bar β s.V) β s.V.cn ax (a.eval x) ∧ AVRep w (c.bar β s.V) β s.V.cn ay (a.eval y) := by
    intro x y hops
    subst hops
    cases xs with
    | nil => exact absurd hxs.1 (by simp)
    | cons ax ys =>
      cases ys with
      | nil => exact absurd hxs.1 (by simp)
      | cons ay zs =>
        cases zs with
        | cons _ _ => exact absurd hxs.1 (by simp)
        | nil =>
          obtain ⟨u, v, hu', h1, h2⟩ := decTwo hxs
          simp at hu'; obtain ⟨rfl, rfl⟩ := hu'
          exact ⟨ax, ay, rfl, h1, h2⟩
  have three : ∀ {x y z : Operand}, ops = [x, y, z] → ∃ ax ay az, xs = [ax, ay, az] ∧ AVRep w (c.bar β s.V) β s.V.cn ax (a.eval x) ∧ AVRep w (c.bar β s.V) β s.V.cn ay (a.eval y) ∧ AVRep w (c.bar β s.V) β s.V.cn az (a.eval z) := by
    intro x y z hops
    subst hops
    cases xs with
    | nil => exact absurd hxs.1 (by simp)
    | cons ax ys =>
      cases ys with
      | nil => exact absurd hxs.1 (by simp)
      | cons ay zs =>
        cases zs with
        | nil => exact absurd hxs.1 (by simp)
        | cons az zs' =>
          cases zs' with
          | cons _ _ => exact absurd hxs.1 (by simp)
          | nil =>
            obtain ⟨u, v, t, hu', h1, h2, h3⟩ := decThree hxs
            simp at hu'; obtain ⟨rfl, rfl, rfl⟩ := hu'
            exact ⟨ax, ay, az, rfl, h1, h2, h3⟩
  obtain ⟨dst, op, ty, pos, after, guard⟩ := o
  simp only at he hd
  cases op <;> (try unfold decOp at hd) <;> (try simp only at hd) <;> (try (cases hd; done))
  case move x =>
    simp at hd; obtain ⟨rfl, rfl⟩ := hd
    obtain ⟨ax, rfl, h1⟩ := one rfl
    exact got_same h (by simpa [ev] using he) (by simp [execOp]) h1
  case assign x =>
    simp at hd; obtain ⟨rfl, rfl⟩ := hd
    obtain ⟨ax, rfl, h1⟩ := one rfl
    exact got_same h (by simpa [ev] using he) (by simp [execOp]) h1
  case pick x y z =>
    simp at hd; obtain ⟨rfl, rfl⟩ := hd
    obtain ⟨ax, ay, az, rfl, h1, h2, h3⟩ := three rfl
    obtain ⟨b, hb, r, hK, hr⟩ := sound_pick h1 h2 h3 he
    exact got_same h hK (by simp [execOp, hb, asBool]) hr
  case box t x =>
    simp at hd; obtain ⟨rfl, rfl⟩ := hd
    obtain ⟨ax, rfl, h1⟩ := one rfl
    cases dst with
    | none => simp [ev] at he
    | some t => exact got_of_V (sound_box h h1 he)
  case alloc e =>
    cases hz : zeroCs E.P e with
    | none => simp [hz] at hd
    | some z =>
      simp [hz] at hd; obtain ⟨rfl, rfl⟩ := hd
      have : xs = [] := List.eq_nil_of_length_eq_zero (by have := hxs.1; simpa using this.symm)
      subst this
      cases dst with
      | none => simp [ev] at he
      | some t => exact got_of_V (sound_zero h hz he)
  case build t parts =>
    split at hd <;> try (cases hd; done)
    · rename_i z fs hz hu
      split at hd <;> try (cases hd; done)
      rename_i places hp
      split at hd <;> try (cases hd; done)
      rename_i pl hpl
      simp at hd; obtain ⟨rfl, rfl⟩ := hd
      refine got_of_V (sound_build h (ix := parts.toList.map (·.1)) hz (.inl ⟨fs, places, hu, hp, ?_⟩) hxs he (by simpa using zip_parts))
      rw [listM_map]; exact hpl
    · rename_i z n e hz hu
      split at hd <;> try (cases hd; done)
      rename_i sz hsz
      simp at hd; obtain ⟨rfl, rfl⟩ := hd
      exact got_of_V (sound_build h (ix := parts.toList.map (·.1)) hz (.inr ⟨n, e, sz, hu, hsz, by simp⟩) hxs he (by simpa using zip_parts))
  case buildSlice t len parts =>
    split at hd <;> try (cases hd; done)
    rename_i e hu
    split at hd <;> try (cases hd; done)
    rename_i z sz hz hsz
    split at hd <;> try (cases hd; done)
    rename_i hcond
    obtain ⟨hpos, hzl, hsmall⟩ := hcond
    simp at hd; obtain ⟨rfl, rfl⟩ := hd
    unfold szOf at hsz
    simp only [Option.map_eq_some_iff] at hsz
    obtain ⟨ie, hie, rfl⟩ := hsz
    split at he
    · cases dst with
      | none => simp [ev] at he
      | some t => exact got_of_V (sound_mkrowO h hu hie hz hpos hzl.symm hsmall hxs (by simpa using zip_parts) he)
    · exact got_of_V (sound_mkrow h hu hie hz hpos hzl.symm hsmall hxs (by simpa using zip_parts) he)
  case load t x =>
    split at hd <;> try (cases hd; done)
    rename_i ag n hag hn
    split at hd <;> try (cases hd; done)
    simp at hd; obtain ⟨rfl, rfl⟩ := hd
    obtain ⟨ax, rfl, h1⟩ := one rfl
    exact got_of_R h (sound_load h hag hn h1 he)
  case store t x y =>
    split at hd <;> try (cases hd; done)
    rename_i n hn
    split at hd <;> try (cases hd; done)
    rename_i hpos
    simp at hd; obtain ⟨rfl, rfl⟩ := hd
    obtain ⟨ax, ay, rfl, h1, h2⟩ := two rfl
    exact got_of_U (sound_store h hn hpos h1 h2 he)
  case nilCheck x =>
    simp at hd; obtain ⟨rfl, rfl⟩ := hd
    obtain ⟨ax, rfl, h1⟩ := one rfl
    exact nilck_run h h1 he fun ad hu => by simp [execOp, hu]
  case binOp b t x y _ =>
    unfold decBin at hd
    have hop : ∀ {n}, eqOp b = some n → (b = .eql ∨ b = .neq) ∧ n = (b == .neq) := by
      intro n hn
      cases b <;> simp [eqOp] at hn <;> subst hn <;> simp <;> rfl
    split at hd <;> try (cases hd; done)
    · rename_i k hu
      simp at hd; obtain ⟨rfl, rfl⟩ := hd
      exact sound_binI h (by simpa using hxs) he rfl
    · rename_i hu
      simp only [Option.map_eq_some_iff] at hd
      obtain ⟨n, hn, hd⟩ := hd
      obtain ⟨hb, rfl⟩ := hop hn
      simp at hd; obtain ⟨rfl, rfl⟩ := hd
      exact got_of_R h (sound_beq (dst := dst) hu hb (by simpa using hxs) he)
    · rename_i fs hu
      simp only [Option.map_eq_some_iff, Option.bind_eq_some_iff] at hd
      obtain ⟨n, hn, tys, ht, hd⟩ := hd
      obtain ⟨hb, rfl⟩ := hop hn
      simp at hd; obtain ⟨rfl, rfl⟩ := hd
      obtain ⟨ax, ay, rfl, h1, h2⟩ := two rfl
      exact got_of_R h (sound_eqv h (dst := dst) ht (plainT_agg ht (.inl ⟨_, hu⟩)) hb h1 h2 he)
    · rename_i n' e hu
      simp only [Option.map_eq_some_iff, Option.bind_eq_some_iff] at hd
      obtain ⟨n, hn, tys, ht, hd⟩ := hd
      obtain ⟨hb, rfl⟩ := hop hn
      simp at hd; obtain ⟨rfl, rfl⟩ := hd
      obtain ⟨ax, ay, rfl, h1, h2⟩ := two rfl
      exact got_of_R h (sound_eqv h (dst := dst) ht (plainT_agg ht (.inr ⟨_, _, hu⟩)) hb h1 h2 he)
    · rename_i e hu
      simp only [Option.map_eq_some_iff] at hd
      obtain ⟨n, hn, hd⟩ := hd
      obtain ⟨hb, rfl⟩ := hop hn
      simp at hd; obtain ⟨rfl, rfl⟩ := hd
      obtain ⟨ax, ay, rfl, h1, h2⟩ := two rfl
      have hay : ay = .d (.list true []) := by
        unfold ev at he
        simp only at he
        split at he
        · rename_i heq; simp at heq; exact heq.2
        · exact he.elim
      subst hay
      have hv : a.eval y = .slice none 0 0 := by
        generalize a.eval y = v at h2
        cases h2 with | d _ _ h2 => cases h2; rfl
      rw [show execOp a.eval ⟨dst, .binOp b t x y _, ty, pos, after, guard⟩ = (do let v ← (do eqGuard b t x y (a.eval x) (a.eval y); binOp b t (a.eval x) (a.eval y)); pure (Next.value v)) from rfl, hv]
      exact got_of_R h (sound_eqnil h (dst := dst) hu hb h1 he)
  case unOp u t x =>
    simp at hd; obtain ⟨rfl, rfl⟩ := hd
    exact got_of_R h (sound_un h (dst := dst) (by simpa using hxs) he)
  case convert st t x =>
    split at hd <;> try (cases hd; done)
    rename_i k' k hs ht
    simp at hd; obtain ⟨rfl, rfl⟩ := hd
    obtain ⟨ax, rfl, h1⟩ := one rfl
    exact got_of_R h (sound_conv h (dst := dst) hs ht h1 he)
  case makeFunc fn first captured =>
    cases fn <;> (try simp only at hd) <;> (try (cases hd; done))
    rename_i f
    split at hd <;> try (cases hd; done)
    rename_i hcond
    simp at hd; obtain ⟨rfl, rfl⟩ := hd
    have hfirst : first = #[] := by apply Array.eq_empty_of_size_eq_zero; exact hcond.1
    subst hfirst
    exact got_same h (by simpa [ev] using he) (by simp [execOp, Instr.makeFunc]) (.fn f _ (captured.map a.eval) (by have := hxs.1; simpa using this) fun i x u hx hu => hxs.2 i x u hx (by simpa using hu))
  case makeMap t r =>
    cases r with
    | some r => simp only at hd; cases hd
    | none =>
      simp only at hd
      split at hd <;> try (cases hd; done)
      rename_i kt e hu
      cases hk : plainT E.P kt with
      | none => simp [hk] at hd
      | some tys =>
        simp [hk] at hd; obtain ⟨rfl, rfl⟩ := hd
        have : xs = [] := List.eq_nil_of_length_eq_zero (by have := hxs.1; simpa using this.symm)
        subst this
        cases dst with
        | none => simp [ev] at he
        | some t => exact got_of_V (sound_mkmap h he)
  case makeSlice t x y =>
    split at hd <;> try (cases hd; done)
    rename_i e hu
    split at hd <;> try (cases hd; done)
    rename_i i z hi hz
    split at hd <;> try (cases hd; done)
    rename_i hcond
    simp at hd; obtain ⟨rfl, rfl⟩ := hd
    obtain ⟨ax, ay, rfl, h1, h2⟩ := two rfl
    cases dst with
    | none => simp [ev] at he
    | some t => exact got_of_V (sound_mksl h hu hi hz hcond.1 hcond.2.1 hcond.2.2 h1 h2 he)
  case slice t x lo hi mx =>
    split at hd <;> try (cases hd; done)
    rename_i e hu
    split at hd <;> try (cases hd; done)
    rename_i sz hsz
    split at hd <;> try (cases hd; done)
    rename_i hpos
    simp at hd; obtain ⟨rfl, rfl⟩ := hd
    simp only [List.map_cons] at hxs
    obtain ⟨ax, ys, rfl⟩ : ∃ ax ys, xs = ax :: ys := by cases xs with
      | nil => exact absurd hxs.1 (by simp)
      | cons y ys => exact ⟨y, ys, rfl⟩
    have hc := hxs.cons
    cases mx with
    | none =>
      refine got_of_V (sound_slice h (lov := lo.map a.eval) (hiv := hi.map a.eval) hu hsz hpos hc.1 ⟨_, rfl, ?_, ?_⟩ (by simpa using he))
      · have := hc.2.1; cases lo <;> cases hi <;> simpa using this
      · have := hc.2.2; cases lo <;> cases hi <;> simpa using this
    | some m =>
      refine got_of_V (sound_slice3 h (lov := lo.map a.eval) (hiv := hi.map a.eval) (mv := a.eval m) hu hsz hpos hc.1 ⟨_, rfl, ?_, ?_⟩ (by simpa using he))
      · have := hc.2.1; cases lo <;> cases hi <;> simpa using this
      · have := hc.2.2; cases lo <;> cases hi <;> simpa using this
  case fieldAddr t x f =>
    split at hd <;> try (cases hd; done)
    rename_i fs hu
    simp only [Option.bind_eq_some_iff] at hd
    obtain ⟨fd, hf, hd⟩ := hd
    split at hd <;> try (cases hd; done)
    rename_i n hn
    split at hd <;> try (cases hd; done)
    rename_i hpos
    simp at hd; obtain ⟨rfl, rfl⟩ := hd
    obtain ⟨ax, rfl, h1⟩ := one rfl
    exact got_of_R h (sound_faddr hu hf hn hpos h1 he)
  case field t x f =>
    split at hd <;> try (cases hd; done)
    rename_i fs hu
    simp only [Option.bind_eq_some_iff] at hd
    obtain ⟨fd, hf, hd⟩ := hd
    split at hd <;> try (cases hd; done)
    rename_i ag n hag hn
    split at hd <;> try (cases hd; done)
    simp at hd; obtain ⟨rfl, rfl⟩ := hd
    obtain ⟨ax, rfl, h1⟩ := one rfl
    exact got_of_R h (sound_field h hu hf hag hn h1 he)
  case indexAddr t x i =>
    split at hd <;> try (cases hd; done)
    · rename_i e hu
      split at hd <;> try (cases hd; done)
      rename_i sz hsz
      split at hd <;> try (cases hd; done)
      simp at hd; obtain ⟨rfl, rfl⟩ := hd
      obtain ⟨ax, ay, rfl, h1, h2⟩ := two rfl
      exact got_of_R h (sound_iaddrS hu hsz h h1 h2 he)
    · rename_i n e hu
      split at hd <;> try (cases hd; done)
      rename_i sz hsz
      split at hd <;> try (cases hd; done)
      simp at hd; obtain ⟨rfl, rfl⟩ := hd
      obtain ⟨ax, ay, rfl, h1, h2⟩ := two rfl
      exact got_of_R h (sound_iaddrA hu hsz h1 h2 he)
  case index t x i =>
    split at hd <;> try (cases hd; done)
    rename_i n e hu
    split at hd <;> try (cases hd; done)
    rename_i ag sz hag hsz
    split at hd <;> try (cases hd; done)
    simp at hd; obtain ⟨rfl, rfl⟩ := hd
    obtain ⟨ax, ay, rfl, h1, h2⟩ := two rfl
    exact got_of_R h (sound_index h hu hag hsz h1 h2 he)
  case lookup t x k ok =>
    split at hd <;> try (cases hd; done)
    rename_i kt e hu
    split at hd <;> try (cases hd; done)
    rename_i tys z ht hz
    simp at hd; obtain ⟨rfl, rfl⟩ := hd
    obtain ⟨ax, ay, rfl, h1, h2⟩ := two rfl
    exact got_of_V (sound_lookup h hu ht hz h1 h2 he)
  case mapUpdate t m k v =>
    split at hd <;> try (cases hd; done)
    rename_i kt e hu
    cases hk : plainT E.P kt with
    | none => simp [hk] at hd
    | some tys =>
      simp [hk] at hd; obtain ⟨rfl, rfl⟩ := hd
      obtain ⟨ax, ay, az, rfl, h1, h2, h3⟩ := three rfl
      exact got_of_U (sound_mapupd h hu hk h1 h2 h3 he)
  case mapEntry t m k =>
    split at hd <;> try (cases hd; done)
    rename_i kt e hu
    split at hd <;> try (cases hd; done)
    rename_i tys z ht hz
    split at hd <;> try (cases hd; done)
    rename_i hz1
    simp at hd; obtain ⟨rfl, rfl⟩ := hd
    obtain ⟨ax, ay, rfl, h1, h2⟩ := two rfl
    exact got_of_V (sound_mapent h hu ht hz hz1 h1 h2 he)
  case entryStore t m k v =>
    simp at hd; obtain ⟨rfl, rfl⟩ := hd
    obtain ⟨ax, ay, az, rfl, h1, h2, h3⟩ := three rfl
    exact got_of_U (sound_entst h h1 h2 h3 he)
  case extract x i =>
    simp at hd; obtain ⟨rfl, rfl⟩ := hd
    obtain ⟨ax, rfl, h1⟩ := one rfl
    exact got_of_R h (sound_extract h1 he)
  case call cl => exact sound_callOp h rfl hd hxs he
end
end Go.Pw
