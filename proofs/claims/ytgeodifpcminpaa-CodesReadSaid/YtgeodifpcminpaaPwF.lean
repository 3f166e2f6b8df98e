/- Each operation does what 'ev' says: the operations that leave the memory alone, continued. -/
import Derived.Test.YtgeodifpcminpaaPwE
set_option linter.all false
namespace Go.Pw
open Go.RowKit
set_option linter.unusedSimpArgs false
set_option linter.unusedVariables false
section
variable {E : Env} {c : Ctx} {β : Nat → Nat → Value} {s : PSt} {tm : Array Value} {w : World} {K : AV → Chg → Prop}

theorem sound_pick {dst : Option Nat} {x y z : AV} {u v t : Value} (hx : AVRep w (c.bar β s.V) β s.V.cn x u) (hy : AVRep w (c.bar β s.V) β s.V.cn y v)
    (hz : AVRep w (c.bar β s.V) β s.V.cn z t) (he : ev E dst s.V .pick [x, y, z] K) :
    ∃ b, u = .bool b ∧ ∃ r, K r .none ∧ AVRep w (c.bar β s.V) β s.V.cn r (if b then v else t) := by
  unfold ev at he
  simp only at he
  split at he
  · rename_i b y' z' heq
    simp only [List.cons.injEq, and_true] at heq
    obtain ⟨rfl, rfl, rfl⟩ := heq
    obtain rfl := rep_bool hx
    refine ⟨b, rfl, ?_⟩
    cases b
    · exact ⟨_, he.2 rfl, by simpa using hz⟩
    · exact ⟨_, he.1 rfl, by simpa using hy⟩
  · exact he.elim

theorem sound_faddr {t : TypeId} {f : Nat} {fs : Array Field} {fd : Field} {n : Nat} (ht : E.P.underlying t = some (.struct fs)) (hf : fs[f]? = some fd) (hn : szOf E.P fd.type = some n) (hpos : 0 < n)
    {dst : Option Nat} {p : AV} {u : Value} (hp : AVRep w (c.bar β s.V) β s.V.cn p u) (he : ev E dst s.V (.faddr fd.offset) [p] K) :
    ∃ r, (Instr.fieldAt t u f).run E.P w = .ok r w ∧ ∃ v, K v .none ∧ AVRep w (c.bar β s.V) β s.V.cn v r := by
  have key : ∀ b off, (Instr.fieldAt t (.pointer (some ⟨b, off, none⟩)) f).run E.P w = .ok (.pointer (some ⟨b, off + fd.offset, none⟩)) w := by
    intro b off
    have : n ≠ 0 := by omega
    simp [Instr.fieldAt, run_underlying ht, hf, Instr.sureAddr, fieldPlace, run_sizeOf hn, this, Addr.add_lit]
  unfold ev at he
  simp only at he
  split at he
  · rename_i o g a heq
    simp only [List.cons.injEq, and_true] at heq; subst heq
    cases hp with | ptr _ _ _ b hlt hβ => exact ⟨_, key _ _, _, he, .ptr _ _ _ b hlt hβ⟩
  · rename_i o g es i a heq
    simp only [List.cons.injEq, and_true] at heq; subst heq
    cases hp with | rptr _ _ _ _ _ b b0 n cap hlt hβ => exact ⟨_, key _ _, _, he, by rw [Nat.add_assoc]; exact .rptr _ _ _ _ _ b b0 n cap hlt hβ⟩
  · rename_i cs a heq
    simp only [List.cons.injEq, and_true] at heq; subst heq
    cases hp with | dptr _ _ b base vs hb hne h1 hc hv => exact ⟨_, key _ _, _, he, by rw [Nat.add_assoc]; exact .dptr _ _ b base vs hb hne h1 hc hv⟩
  · rename_i cs heq
    simp only [List.cons.injEq, and_true] at heq; subst heq
    cases hp with | d _ _ hp => cases hp with | ptr _ b base vs hb hne h1 hc hv => exact ⟨_, key _ _, _, he, .dptr _ _ b base vs hb hne h1 hc hv⟩
  · exact he.elim

/-- The cells of an element of a list. -/
theorem elem_ptr {fb β' cn} {nil : Bool} {l : List D} {a : Addr} {len cap : Nat} (h : DRep w fb (.list nil l) (.slice (some a) len cap)) {i es : Nat} {x : D} (hx : l[i]? = some x) (hes : x.cells.length = es) :
    len = l.length ∧ AVRep w fb β' cn (.dptr x.cells 0) (.pointer (some (a.add (i * es)))) := by
  cases h with
  | empty => simp at hx
  | list _ es' b off _ vs hcap hm hb hpos hs h1 hc hv =>
    have hm' := List.mem_of_getElem? hx
    have : es = es' := hes.symm.trans (hs x hm')
    subst this
    refine ⟨rfl, ?_⟩
    rw [Addr.add_lit]
    exact .dptr x.cells 0 b (off + i * es) (vs i) hb (fun h0 => by rw [h0] at hes; simp at hes; omega) (fun c hc => h1 x c hm' hc) (fun j c hj => hc i x j c hx hj) (fun j c hj => hv i x j c hx hj)

theorem sound_iaddrS {t e : TypeId} {es : Nat} (ht : E.P.underlying t = some (.slice e)) (hsz : szOf E.P e = some es) (h : Rel E c β s tm w)
    {dst : Option Nat} {p q : AV} {u v : Value} (hp : AVRep w (c.bar β s.V) β s.V.cn p u) (hq : AVRep w (c.bar β s.V) β s.V.cn q v) (he : ev E dst s.V (.iaddrS es) [p, q] K) :
    ∃ r, (Instr.indexAt t u v).run E.P w = .ok r w ∧ ∃ x, K x .none ∧ AVRep w (c.bar β s.V) β s.V.cn x r := by
  have hel : E.P.elem t = e := by simp [Program.elem, ht]
  have key : ∀ (a : Addr) (len cap : Nat) (k : IntKind) (i : Int), 0 ≤ i → i < len → (Instr.indexAt t (.slice (some a) len cap) (.int k i)).run E.P w = .ok (.pointer (some (a.add (i.toNat * es)))) w := by
    intro a len cap k i h0 h1
    rw [run_indexAt_slice w t a len cap k i (by rw [hel]; exact ht), if_pos ⟨h0, h1⟩, hel, run_sizeOf hsz]
    rfl
  unfold ev at he
  simp only at he
  split at he
  · rename_i o g k i heq
    simp only [List.cons.injEq, and_true] at heq; obtain ⟨rfl, rfl⟩ := heq
    split at he
    · rename_i ety es' nl l hg
      obtain ⟨rfl, h0, h1, hK⟩ := he
      obtain ⟨rfl, _⟩ := rep_int hq
      have hob := View.get_some hg
      obtain ⟨hlt, ho⟩ := h.objs _ _ _ hob
      cases ho with | row _ _ _ _ _ ho =>
      cases hp with | own _ _ _ _ =>
      rcases ho with ⟨_, h2, h3⟩ | ⟨_, b, off, cap, cur, h2, _⟩
      · subst h2; simp at h1; omega
      · rw [h2]
        refine ⟨_, key _ _ _ _ _ h0 h1, _, hK, ?_⟩
        rw [Addr.add_lit]
        exact .rptr _ _ _ _ 0 _ _ _ _ hlt h2
    · exact he.elim
  · rename_i nl l k i heq
    simp only [List.cons.injEq, and_true] at heq; obtain ⟨rfl, rfl⟩ := heq
    obtain ⟨h0, h1, he⟩ := he
    split at he
    · rename_i x hx
      obtain ⟨hes, hK⟩ := he
      obtain ⟨rfl, _⟩ := rep_int hq
      cases hp with | d _ _ hp =>
      have hl : ∃ a cap, u = .slice (some a) l.length cap := by cases hp <;> first | exact ⟨_, _, rfl⟩ | simp at hx
      obtain ⟨a, cap, rfl⟩ := hl
      exact ⟨_, key _ _ _ _ _ h0 h1, _, hK, (elem_ptr hp hx hes).2⟩
    · exact he.elim
  · rename_i l k i heq
    simp only [List.cons.injEq, and_true] at heq; obtain ⟨rfl, rfl⟩ := heq
    obtain ⟨h0, h1, he⟩ := he
    split at he
    · rename_i x hx
      obtain ⟨hes, hK⟩ := he
      obtain ⟨rfl, _⟩ := rep_int hq
      cases hp with | ex _ a hp =>
      exact ⟨_, key _ _ _ _ _ h0 h1, _, hK, (elem_ptr hp hx hes).2⟩
    · exact he.elim
  · exact he.elim

theorem sound_iaddrA {t e : TypeId} {n es : Nat} (ht : E.P.underlying t = some (.array n e)) (hsz : szOf E.P e = some es)
    {dst : Option Nat} {p q : AV} {u v : Value} (hp : AVRep w (c.bar β s.V) β s.V.cn p u) (hq : AVRep w (c.bar β s.V) β s.V.cn q v) (he : ev E dst s.V (.iaddrA n es) [p, q] K) :
    ∃ r, (Instr.indexAt t u v).run E.P w = .ok r w ∧ ∃ x, K x .none ∧ AVRep w (c.bar β s.V) β s.V.cn x r := by
  have hel : E.P.elem t = e := by simp [Program.elem, ht]
  have hlen : E.P.arrayLen t = n := by simp [Program.arrayLen, ht]
  have key : ∀ (b off : Nat) (k : IntKind) (i : Int), 0 ≤ i → i < n → (Instr.indexAt t (.pointer (some ⟨b, off, none⟩)) (.int k i)).run E.P w = .ok (.pointer (some ⟨b, off + i.toNat * es, none⟩)) w := by
    intro b off k i h0 h1
    rw [run_indexAt_array w t _ k i (by rw [hel, hlen]; exact ht), if_pos ⟨h0, by rw [hlen]; exact h1⟩, hel, run_sizeOf hsz]
    simp [Addr.add_lit]
  unfold ev at he
  simp only at he
  split at he
  · rename_i o g off k i heq
    simp only [List.cons.injEq, and_true] at heq; obtain ⟨rfl, rfl⟩ := heq
    obtain ⟨h0, h1, hK⟩ := he
    obtain ⟨rfl, _⟩ := rep_int hq
    cases hp with | ptr _ _ _ b hlt hβ => exact ⟨_, key _ _ _ _ h0 h1, _, hK, .ptr _ _ _ b hlt hβ⟩
  · rename_i cs off k i heq
    simp only [List.cons.injEq, and_true] at heq; obtain ⟨rfl, rfl⟩ := heq
    obtain ⟨h0, h1, hK⟩ := he
    obtain ⟨rfl, _⟩ := rep_int hq
    cases hp with | dptr _ _ b base vs hb hne h2 hc hv => exact ⟨_, key _ _ _ _ h0 h1, _, hK, by rw [Nat.add_assoc]; exact .dptr _ _ b base vs hb hne h2 hc hv⟩
  · rename_i cs k i heq
    simp only [List.cons.injEq, and_true] at heq; obtain ⟨rfl, rfl⟩ := heq
    obtain ⟨h0, h1, hK⟩ := he
    obtain ⟨rfl, _⟩ := rep_int hq
    cases hp with | d _ _ hp => cases hp with | ptr _ b base vs hb hne h2 hc hv => exact ⟨_, key _ _ _ _ h0 h1, _, hK, .dptr _ _ b base vs hb hne h2 hc hv⟩
  · exact he.elim

theorem sound_index {t e : TypeId} {n es : Nat} {ag : Bool} (h : Rel E c β s tm w) (ht : E.P.underlying t = some (.array n e)) (hag : isAggT E.P e = some ag) (hsz : szOf E.P e = some es)
    {dst : Option Nat} {p q : AV} {u v : Value} (hp : AVRep w (c.bar β s.V) β s.V.cn p u) (hq : AVRep w (c.bar β s.V) β s.V.cn q v) (he : ev E dst s.V (.index n es ag) [p, q] K) :
    ∃ r, (Instr.index t u v).run E.P w = .ok r w ∧ ∃ x, K x .none ∧ AVRep w (c.bar β s.V) β s.V.cn x r := by
  unfold ev at he
  simp only at he
  split at he
  · rename_i cs k i heq
    simp only [List.cons.injEq, and_true] at heq; obtain ⟨rfl, rfl⟩ := heq
    obtain ⟨h0, h1, hK⟩ := he
    obtain ⟨rfl, _⟩ := rep_int hq
    obtain ⟨vs, rfl, hc, h2⟩ := agg_inv hp
    obtain ⟨r, hr, h3⟩ := sound_part (mk := .agg) (one := id) h hc hag hsz (fun l us hm hl => agg_mk hl fun x hx => h2 x (hm x hx)) (fun x u hx => hx) hK
    exact ⟨r, by simp [Instr.index, asIntOf, run_underlying ht, h0, h1, run_sizeOf hsz, hr], h3⟩
  · rename_i cs k i heq
    simp only [List.cons.injEq, and_true] at heq; obtain ⟨rfl, rfl⟩ := heq
    obtain ⟨h0, h1, hK⟩ := he
    obtain ⟨rfl, _⟩ := rep_int hq
    obtain ⟨vs, rfl, hc, h2⟩ := dagg_inv hp
    obtain ⟨r, hr, h3⟩ := sound_part (mk := fun cs => .d (.agg cs)) (one := .d) h hc hag hsz (fun l us hm hl => dagg_mk hl fun x hx => h2 x (hm x hx)) (fun x u hx => .d _ _ hx) hK
    exact ⟨r, by simp [Instr.index, asIntOf, run_underlying ht, h0, h1, run_sizeOf hsz, hr], h3⟩
  · exact he.elim

theorem sound_field {t : TypeId} {f : Nat} {fs : Array Field} {fd : Field} {n : Nat} {ag : Bool} (h : Rel E c β s tm w) (ht : E.P.underlying t = some (.struct fs)) (hf : fs[f]? = some fd)
    (hag : isAggT E.P fd.type = some ag) (hsz : szOf E.P fd.type = some n)
    {dst : Option Nat} {p : AV} {u : Value} (hp : AVRep w (c.bar β s.V) β s.V.cn p u) (he : ev E dst s.V (.field ag fd.offset n) [p] K) :
    ∃ r, (Instr.field t u f).run E.P w = .ok r w ∧ ∃ x, K x .none ∧ AVRep w (c.bar β s.V) β s.V.cn x r := by
  unfold ev at he
  simp only at he
  split at he
  · rename_i cs heq
    simp only [List.cons.injEq, and_true] at heq; subst heq
    obtain ⟨vs, rfl, hc, h2⟩ := agg_inv hp
    obtain ⟨r, hr, h3⟩ := sound_part (mk := .agg) (one := id) h hc hag hsz (fun l us hm hl => agg_mk hl fun x hx => h2 x (hm x hx)) (fun x u hx => hx) he
    exact ⟨r, by simp [Instr.field, run_underlying ht, hf, asAgg, hr], h3⟩
  · rename_i cs heq
    simp only [List.cons.injEq, and_true] at heq; subst heq
    obtain ⟨vs, rfl, hc, h2⟩ := dagg_inv hp
    obtain ⟨r, hr, h3⟩ := sound_part (mk := fun cs => .d (.agg cs)) (one := .d) h hc hag hsz (fun l us hm hl => dagg_mk hl fun x hx => h2 x (hm x hx)) (fun x u hx => .d _ _ hx) he
    exact ⟨r, by simp [Instr.field, run_underlying ht, hf, asAgg, hr], h3⟩
  · exact he.elim
end
end Go.Pw
