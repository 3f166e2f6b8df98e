/- One operation of a region on abstract states. -/
import Derived.Test.YtgeodifpcminpaaPwS
set_option linter.all false
namespace Go.Pw
open Go.RowKit
set_option linter.unusedSimpArgs false
set_option linter.unusedVariables false

def put (s : PSt) (dst : Option Nat) (v : AV) (ch : Chg) : PSt :=
  ⟨match dst with | some t => upd s.sl t v | none => s.sl, s.V.app ch⟩

def stepI (E : Env) (I : Ins) (s : PSt) (K : AV → Chg → Prop) : Prop :=
  match I.g with
  | none => ev E I.dst s.V I.op (I.xs.map (Opd.val s.sl)) K
  | some (t, b) => match s.sl t with
    | .d (.bool b') => condB (b == b') (ev E I.dst s.V I.op (I.xs.map (Opd.val s.sl)) K) (K (.tup []) .none)
    | .tup [] => K (.tup []) .none
    | _ => False

section
variable {E : Env} {c : Ctx} {β : Nat → Nat → Value} {s : PSt} {a : Act} {w : World} {K : AV → Chg → Prop}

theorem Act.put_size (a : Act) (dst : Option Nat) (v : Value) : (a.put dst v).tmps.size = a.tmps.size := by
  cases dst <;> simp [Act.put]

theorem rel_put {tm : Array Value} {β' : Nat → Nat → Value} {v : AV} {u : Value} {ch : Chg} {dst : Option Nat} {w' : World} (hr : Rel E c β' ⟨s.sl, s.V.app ch⟩ a.tmps w') (hv : AVRep w' (c.bar β' (s.V.app ch)) β' (s.V.app ch).cn v u)
    (hd : ∀ t, dst = some t → t < a.tmps.size) : Rel E c β' (put s dst v ch) (a.put dst u).tmps w' := by
  cases dst with
  | none => exact hr
  | some t => exact hr.set (hd t rfl) hv

theorem decI_spec {draw : Bool} {fl : List Nat} {n : Nat} {ops : List Oper} {o : Oper} {I : Ins} (h : decI E draw fl n ops o = some I) :
    ∃ draw' used' xs, decOp E draw' used' o.op = some (I.op, xs) ∧ decOs E xs = some I.xs ∧ I.dst = o.dst ∧ (∀ t, o.dst = some t → t < n) ∧
      ((o.guard = none ∧ I.g = none) ∨ ∃ j b t, o.guard = some (j, b) ∧ (ops[j]?).bind (·.dst) = some t ∧ t < n ∧ I.g = some (t, b)) := by
  unfold decI at h
  split at h
  · cases h
  · rename_i op xs hop
    split at h
    · cases h
    · rename_i ys hys
      split at h
      · rename_i g hdst hg
        simp at h; subst h
        refine ⟨_, _, xs, hop, hys, rfl, fun t ht => ?_, ?_⟩
        · rw [ht] at hdst; simpa [dstOK] using hdst
        · unfold decG at hg
          split at hg
          · rename_i hgd; simp at hg; subst hg; exact .inl ⟨hgd, rfl⟩
          · rename_i j b hgd
            split at hg
            · rename_i t ht
              split at hg
              · rename_i hlt; simp at hg; subst hg; exact .inr ⟨j, b, t, hgd, ht, hlt, rfl⟩
              · cases hg
            · cases hg
      · cases h

theorem undef_rep {fb β' cn} : AVRep w fb β' cn (.tup []) undef := .tup [] #[] rfl (fun i c v hi => by simp at hi)

/-- ONE OPERATION, as the kit's rules for regions want it. -/
theorem step_sound (h : Rel E c β s a.tmps w) {draw : Bool} {fl : List Nat} {n : Nat} {ops : List Oper} {o : Oper} {I : Ins} (hd : decI E draw fl n ops o = some I) (hn : a.tmps.size = n) (he : stepI E I s K) {Kc : Act → World → Prop} {Q : Exit → Act → World → Prop}
    (hK : ∀ v ch β' tm' w', K v ch → Rel E c β' (put s I.dst v ch) tm' w' → tm'.size = n → Kc ⟨tm', a.defers⟩ w') :
    if Region.wanted o (yielded ops.toArray a.tmps) then o.wp E.P a w Kc Q ∨ (o.asks E.P a w ∧ LetsOut Q) else Kc (a.put o.dst undef) w := by
  obtain ⟨draw', used', xs, hop, hos, hdst, hlt, hg⟩ := decI_spec hd
  have hput : ∀ u, a.put o.dst u = ⟨(a.put o.dst u).tmps, a.defers⟩ := fun u => by cases o.dst <;> rfl
  have hlt' : ∀ t, o.dst = some t → t < a.tmps.size := fun t ht => by rw [hn]; exact hlt t ht
  have run : ev E o.dst s.V I.op (I.xs.map (Opd.val s.sl)) K → o.wp E.P a w Kc Q := by
    intro he
    have hgot := op_sound (o := o) h hop (decOs_rep h hos) he
    unfold Oper.wp
    rcases hgot with ⟨u, w', v, ch, β', hr, hk, hrel, hv⟩ | ⟨f, args, w', hr, hc⟩
    · rcases hr with hr | ⟨hr, rfl⟩
      · rw [hr, Oper.upon_value, hput]
        exact hK v ch β' _ w' hk (by rw [hdst]; exact rel_put (tm := a.tmps) hrel hv hlt') (by rw [Act.put_size]; exact hn)
      · rw [hr, Oper.upon_skip, hput]
        exact hK .undef ch β' _ w' hk (by rw [hdst]; exact rel_put (tm := a.tmps) hrel (.undef _) hlt') (by rw [Act.put_size]; exact hn)
    · rw [hr, Oper.upon_enter]
      refine hc.mono fun e w'' ⟨u, v, ch, β', he, hk, hrel, hv⟩ => ?_
      subst he
      simp only
      rw [hput]
      exact hK v ch β' _ w'' hk (by rw [hdst]; exact rel_put (tm := a.tmps) hrel hv hlt') (by rw [Act.put_size]; exact hn)
  have skip : K (.tup []) .none → Kc (a.put o.dst undef) w := by
    intro hk
    rw [hput]
    exact hK _ .none β _ w hk (by rw [hdst]; exact rel_put (tm := a.tmps) (ch := .none) h undef_rep hlt') (by rw [Act.put_size]; exact hn)
  unfold stepI at he
  rcases hg with ⟨hg, hI⟩ | ⟨j, b, t, hg, ht, htn, hI⟩
  · rw [hI] at he
    simp only [hdst] at he
    have : Region.wanted o (yielded ops.toArray a.tmps) = true := by simp [Region.wanted, hg]
    rw [if_pos this]
    exact .inl (run he)
  · rw [hI] at he
    simp only [hdst] at he
    have hs := h.slots t
    have hget : a.tmps[t]? = some (a.tmps.getD t undef) := by
      have : t < a.tmps.size := by rw [hn]; exact htn
      simp [Array.getD_eq_getD_getElem?, this]
    have hy : yielded ops.toArray a.tmps j = match a.tmps.getD t undef with | .bool b => some b | _ => none := by
      unfold yielded
      simp only [List.getElem?_toArray, ht, Option.bind_some, hget]
      generalize a.tmps.getD t undef = x
      cases x <;> rfl
    have hw : Region.wanted o (yielded ops.toArray a.tmps) = (yielded ops.toArray a.tmps j == some b) := by simp [Region.wanted, hg]
    split at he
    · rename_i b' hsl
      rw [hsl] at hs
      rw [hw, hy, rep_bool hs]
      cases b <;> cases b' <;> simp at he ⊢
      all_goals first | exact .inl (run he) | exact skip he
    · rename_i hsl
      rw [hsl] at hs
      have hu : a.tmps.getD t undef = .tuple #[] := by
        generalize a.tmps.getD t undef = x at hs
        cases hs with
        | tup _ vs hl _ => simp at hl; rw [hl]
      rw [hw, hy, hu]
      simp
      exact skip he
    · exact he.elim
end
end Go.Pw
