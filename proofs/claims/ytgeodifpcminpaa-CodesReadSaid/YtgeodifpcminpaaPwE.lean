/- Each operation does what 'ev' says: the operations that leave the memory alone. -/
import Derived.Test.YtgeodifpcminpaaPwD
set_option linter.all false
namespace Go.Pw
open Go.RowKit
set_option linter.unusedSimpArgs false
set_option linter.unusedVariables false

theorem wrap_in (k : IntKind) (n : Int) : InK k (k.wrap n) := by
  cases k <;> simp only [InK, IntKind.min, IntKind.max, IntKind.wrap, IntKind.signed, IntKind.bits] <;> simp <;> (repeat' split) <;> omega

theorem decV_rep {w fb} {v : Value} {d : D} (h : decV v = some d) : DRep w fb d v := by
  unfold decV at h
  split at h
  · split at h
    · rename_i hk; simp at h; subst h; exact .int _ _ (by simpa [inK, InK] using hk)
    · cases h
  all_goals first | (simp at h; subst h; constructor) | cases h

/-- What came of an operation. -/
def Got (E : Env) (c : Ctx) (s : PSt) (tm : Array Value) (K : AV → Chg → Prop) (r : Result Next) : Prop :=
  (∃ u w' v ch β', (r = .ok (.value u) w' ∨ (r = .ok .skip w' ∧ v = .undef)) ∧ K v ch ∧ Rel E c β' ⟨s.sl, s.V.app ch⟩ tm w' ∧
      AVRep w' (c.bar β' (s.V.app ch)) β' (s.V.app ch).cn v u) ∨
  (∃ f args w', r = .ok (.enter f args) w' ∧ Calls E.P f args w' fun e w'' => ∃ u v ch β', e = .returned u ∧ K v ch ∧ Rel E c β' ⟨s.sl, s.V.app ch⟩ tm w'' ∧
      AVRep w'' (c.bar β' (s.V.app ch)) β' (s.V.app ch).cn v u)

section
variable {E : Env} {c : Ctx} {β : Nat → Nat → Value} {s : PSt} {tm : Array Value} {w : World} {K : AV → Chg → Prop}

/-- A value, and the world as it was. -/
theorem got_same (h : Rel E c β s tm w) {v : AV} {u : Value} {r : Result Next} (hK : K v .none) (hr : r = .ok (.value u) w) (hv : AVRep w (c.bar β s.V) β s.V.cn v u) : Got E c s tm K r :=
  .inl ⟨u, w, v, .none, β, .inl hr, hK, h, hv⟩

theorem rep_int {fb β' cn k n} {u : Value} (h : AVRep w fb β' cn (.d (.int k n)) u) : u = .int k n ∧ InK k n := by
  cases h with | d _ _ h => cases h with | int _ _ h => exact ⟨rfl, h⟩
theorem rep_bool {fb β' cn b} {u : Value} (h : AVRep w fb β' cn (.d (.bool b)) u) : u = .bool b := by
  cases h with | d _ _ h => cases h; rfl
theorem av_int {fb β' cn k n} (h : InK k n) : AVRep w fb β' cn (.d (.int k n)) (.int k n) := .d _ _ (.int _ _ h)
theorem av_bool {fb β' cn b} : AVRep w fb β' cn (.d (.bool b)) (.bool b) := .d _ _ (.bool _)

theorem tmod_in {k : IntKind} {a b : Int} (ha : InK k a) (hb : InK k b) (h0 : b ≠ 0) : InK k (a.tmod b) := by
  have h1 : (a.tmod b).natAbs ≤ a.natAbs := by rw [Int.natAbs_tmod]; exact Nat.mod_le _ _
  have h2 : 0 ≤ a → 0 ≤ a.tmod b := fun h => Int.tmod_nonneg b h
  have h3 : a ≤ 0 → a.tmod b ≤ 0 := fun h => by
    have := Int.tmod_nonneg b (show 0 ≤ -a by omega)
    rw [Int.neg_tmod] at this; omega
  unfold InK at *
  have hmin : k.min ≤ 0 := by cases k <;> decide
  have hmax : 0 ≤ k.max := by cases k <;> decide
  rcases Int.le_total 0 a with h | h
  · have := h2 h; omega
  · have := h3 h; omega

theorem fdiv_in {k : IntKind} {a : Int} (ha : InK k a) (n : Nat) : InK k (a.fdiv (2 ^ n)) := by
  have hp : (0 : Int) < 2 ^ n := Int.pow_pos (by decide)
  rw [Int.fdiv_eq_ediv_of_nonneg _ (Int.le_of_lt hp)]
  unfold InK at *
  have hmin : k.min ≤ 0 := by cases k <;> decide
  have hmax : 0 ≤ k.max := by cases k <;> decide
  have h1 : 0 ≤ a → a / 2 ^ n ≤ a := fun h => Int.ediv_le_self _ h
  have h2 : 0 ≤ a → 0 ≤ a / 2 ^ n := fun h => Int.ediv_nonneg h (Int.le_of_lt hp)
  have h3 : a < 0 → a / 2 ^ n < 0 := fun h => Int.ediv_neg_of_neg_of_pos h hp
  have h4 : a < 0 → a ≤ a / 2 ^ n := fun h => by
    have : a * 2 ^ n ≤ a := by
      have : a * 2 ^ n ≤ a * 1 := Int.mul_le_mul_of_nonpos_left (by omega) (by omega)
      omega
    exact Int.le_ediv_of_mul_le hp this
  rcases Int.lt_or_le a 0 with h | h
  · have := h3 h; have := h4 h; omega
  · have := h1 h; have := h2 h; omega

theorem int_beq (a b : Int) : (a == b) = decide (a = b) := by rw [Bool.eq_iff_iff]; simp

theorem sound_bin (h : Rel E c β s tm w) {op : BinOp} {t : TypeId} {x y : Operand} {k k' : IntKind} {a b : Int} {u v : Value}
    (hu : AVRep w (c.bar β s.V) β s.V.cn (.d (.int k a)) u) (hv : AVRep w (c.bar β s.V) β s.V.cn (.d (.int k' b)) v)
    (he : evBin op k k' a b (K · .none)) {vo : Sem Value → Sem Next} (hvo : vo = fun s => do pure (.value (← s))) :
    Got E c s tm K ((vo (do eqGuard op t x y u v; binOp op t u v)).run E.P w) := by
  obtain ⟨rfl, ha⟩ := rep_int hu
  obtain ⟨rfl, hb⟩ := rep_int hv
  subst hvo
  have hg : (eqGuard op t x y (.int k a) (.int k' b)).run E.P w = .ok () w := by
    unfold eqGuard; cases op <;> simp
  cases op <;> simp only [evBin] at he
  case shl =>
    obtain ⟨h0, hK⟩ := he
    exact got_same h hK (by simp [hg, binOp, Op.shift, Int.not_lt.2 h0]) (av_int (wrap_in _ _))
  case shr =>
    obtain ⟨h0, hK⟩ := he
    exact got_same h hK (by simp [hg, binOp, Op.shift, Int.not_lt.2 h0]) (av_int (fdiv_in ha _))
  case quo =>
    obtain ⟨rfl, h0, hK⟩ := he
    exact got_same h hK (by simp [hg, binOp, Op.intDiv, h0]) (av_int (wrap_in _ _))
  case rem =>
    obtain ⟨rfl, h0, hK⟩ := he
    exact got_same h hK (by simp [hg, binOp, Op.intDiv, h0]) (av_int (tmod_in ha hb h0))
  all_goals (obtain ⟨rfl, hK⟩ := he)
  case add | sub | mul => exact got_same h hK (by simp [hg, binOp, Op.intArith]) (av_int (wrap_in _ _))
  case and | or | xor | andNot => exact got_same h hK (by simp [hg, binOp, Op.intBits, bitsOp]) (av_int (wrap_in _ _))
  case eql => exact got_same h hK (by simp [hg, binOp, Op.intCmp, int_beq]) av_bool
  case neq => exact got_same h hK (by simp [hg, binOp, Op.intCmp, bne, int_beq]) av_bool
  all_goals exact got_same h hK (by simp [hg, binOp, Op.intCmp]) av_bool

theorem run_isAgg {P : Program} {t : TypeId} {ag : Bool} (h : isAggT P t = some ag) (w : World) : (isAgg t).run P w = .ok ag w := by
  unfold isAggT at h
  split at h
  · rename_i fs hu; simp at h; subst h; simp [isAgg, run_underlying hu]
  · rename_i n e hu; simp at h; subst h; simp [isAgg, run_underlying hu]
  · rename_i d h1 h2 hu
    simp at h; subst h
    simp only [isAgg, Sem.run_bind, run_underlying hu, Result.andThen_ok]
    cases d <;> simp_all
  · cases h

theorem run_sizeOf {P : Program} {t : TypeId} {n : Nat} (h : szOf P t = some n) (w : World) : (sizeOf t).run P w = .ok n w := by
  unfold szOf at h
  cases hi : P.info? t with
  | none => simp [hi] at h
  | some i => simp [hi] at h; subst h; simp [sizeOf, typeInfo, hi]

/-- Cells that read as others. -/
def CellsR {α : Type} (R : α → Value → Prop) (cs : List α) (vs : Array Value) : Prop := vs.size = cs.length ∧ ∀ (i : Nat) (c : α) (v : Value), cs[i]? = some c → vs[i]? = some v → R c v

theorem CellsR.extract {α : Type} {R : α → Value → Prop} {cs : List α} {vs : Array Value} (h : CellsR R cs vs) {off n : Nat} (hn : off + n ≤ cs.length) :
    CellsR R ((cs.drop off).take n) (vs.extract off (off + n)) := by
  obtain ⟨h1, h2⟩ := h
  refine ⟨by simp; omega, fun i c v hc hv => ?_⟩
  rw [List.getElem?_take] at hc
  split at hc
  · rw [List.getElem?_drop] at hc
    rw [Array.getElem?_extract] at hv
    split at hv
    · exact h2 _ c v hc hv
    · cases hv
  · cases hc

theorem sound_part {α : Type} {R : α → Value → Prop} (h : Rel E c β s tm w) {cs : List α} {vs : Array Value} (hR : CellsR R cs vs) {mk : List α → AV} {one : α → AV} {t : TypeId} {ag : Bool} {n off : Nat}
    (hag : isAggT E.P t = some ag) (hsz : szOf E.P t = some n)
    (hmk : ∀ l (us : Array Value), (∀ x, x ∈ l → x ∈ cs) → CellsR R l us → AVRep w (c.bar β s.V) β s.V.cn (mk l) (.agg us))
    (hone : ∀ x u, R x u → AVRep w (c.bar β s.V) β s.V.cn (one x) u)
    (he : evPart ag n cs off mk one (K · .none)) : ∃ u, (part t vs off).run E.P w = .ok u w ∧ ∃ v, K v .none ∧ AVRep w (c.bar β s.V) β s.V.cn v u := by
  unfold evPart at he
  cases ag with
  | true =>
    simp only [if_true] at he
    obtain ⟨h1, h2⟩ := he
    refine ⟨.agg (vs.extract off (off + n)), by simp [part, run_isAgg hag, run_sizeOf hsz], _, h2, hmk _ _ (fun x hx => List.mem_of_mem_drop (List.mem_of_mem_take hx)) (hR.extract h1)⟩
  | false =>
    simp only [Bool.false_eq_true, if_false] at he
    split at he
    · rename_i x hx
      have hlt : off < cs.length := (List.getElem?_eq_some_iff.1 hx).1
      obtain ⟨u, hu⟩ : ∃ u, vs[off]? = some u := ⟨_, Array.getElem?_eq_getElem (by have := hR.1; omega)⟩
      exact ⟨u, by simp [part, run_isAgg hag, hu], _, he, hone x u (hR.2 off x u hx hu)⟩
    · exact he.elim

theorem agg_inv {fb β' cn cs} {u : Value} (h : AVRep w fb β' cn (.agg cs) u) : ∃ vs, u = .agg vs ∧ CellsR (AVRep w fb β' cn) cs vs ∧ ∀ x, x ∈ cs → x.one = true := by
  cases h with | agg _ vs hl h1 h => exact ⟨vs, rfl, ⟨hl, h⟩, h1⟩
theorem dagg_inv {fb β' cn cs} {u : Value} (h : AVRep w fb β' cn (.d (.agg cs)) u) : ∃ vs, u = .agg vs ∧ CellsR (DRep w fb) cs vs ∧ ∀ x, x ∈ cs → x.one = true := by
  cases h with | d _ _ h => cases h with | agg _ vs hl h1 h => exact ⟨vs, rfl, ⟨hl, h⟩, h1⟩
theorem agg_mk {fb β' cn cs vs} (h : CellsR (AVRep w fb β' cn) cs vs) (h1 : ∀ x, x ∈ cs → x.one = true) : AVRep w fb β' cn (.agg cs) (.agg vs) := .agg _ _ h.1 h1 h.2
theorem dagg_mk {fb β' cn cs vs} (h : CellsR (DRep w fb) cs vs) (h1 : ∀ x, x ∈ cs → x.one = true) : AVRep w fb β' cn (.d (.agg cs)) (.agg vs) := .d _ _ (.agg _ _ h.1 h1 h.2)

/-- A pointer into cells that are known: what lies there. -/
theorem run_loadVar {α : Type} {R : α → Value → Prop} (h : Rel E c β s tm w) {cs : List α} {b base off : Nat} {vs : Nat → Value}
    (hc : ∀ (j : Nat) (x : α), cs[j]? = some x → w.cell? ⟨b, base + j, none⟩ = some (vs j)) (hv : ∀ (j : Nat) (x : α), cs[j]? = some x → R x (vs j))
    {mk : List α → AV} {one : α → AV} {t : TypeId} {ag : Bool} {n : Nat}
    (hag : isAggT E.P t = some ag) (hsz : szOf E.P t = some n)
    (hmk : ∀ l (us : Array Value), (∀ x, x ∈ l → x ∈ cs) → CellsR R l us → AVRep w (c.bar β s.V) β s.V.cn (mk l) (.agg us))
    (hone : ∀ x u, R x u → AVRep w (c.bar β s.V) β s.V.cn (one x) u)
    (he : evPart ag n cs off mk one (K · .none)) : ∃ u, (loadVar t ⟨b, base + off, none⟩).run E.P w = .ok u w ∧ ∃ v, K v .none ∧ AVRep w (c.bar β s.V) β s.V.cn v u := by
  unfold evPart at he
  cases ag with
  | true =>
    simp only [if_true] at he
    obtain ⟨h1, h2⟩ := he
    have hl := run_loadCells (P := E.P) w ⟨b, base + off, none⟩ n (fun j => vs (off + j)) (fun j hj => by
      rw [Addr.add_lit, Nat.add_assoc]
      obtain ⟨x, hx⟩ : ∃ x, cs[off + j]? = some x := ⟨_, List.getElem?_eq_getElem (by omega)⟩
      exact hc _ x hx)
    refine ⟨.agg ((List.range n).map fun j => vs (off + j)).toArray, by simp [loadVar, run_isAgg hag, run_sizeOf hsz, hl], _, h2, hmk _ _ (fun x hx => List.mem_of_mem_drop (List.mem_of_mem_take hx)) ⟨by simp; omega, fun i x v hx hv' => ?_⟩⟩
    rw [List.getElem?_take] at hx
    split at hx
    · rename_i hi
      rw [List.getElem?_drop] at hx
      simp [hi] at hv'
      subst hv'
      exact hv _ x hx
    · cases hx
  | false =>
    simp only [Bool.false_eq_true, if_false] at he
    split at he
    · rename_i x hx
      exact ⟨vs off, by simp [loadVar, run_isAgg hag, run_load, hc off x hx], _, he, hone x _ (hv off x hx)⟩
    · exact he.elim

theorem cells_cell {w : World} {b : Nat} {cur : Array Value} {e : TypeId} {fr} (hb : w.heap[b]? = some (.cells cur e fr)) (j : Nat) : w.cell? ⟨b, j, none⟩ = cur[j]? := by
  simp [World.cell?, hb]

/-- THE LOAD. -/
theorem sound_load (h : Rel E c β s tm w) {t : TypeId} {ag : Bool} {n : Nat} (hag : isAggT E.P t = some ag) (hsz : szOf E.P t = some n) {dst : Option Nat} {p : AV} {u : Value}
    (hp : AVRep w (c.bar β s.V) β s.V.cn p u) (he : ev E dst s.V (.load ag n) [p] K) :
    ∃ r, (Instr.loadAt t u).run E.P w = .ok r w ∧ ∃ v, K v .none ∧ AVRep w (c.bar β s.V) β s.V.cn v r := by
  unfold ev at he
  simp only at he
  cases p with
  | ptr o g off =>
    simp only at he
    split at he
    · rename_i cs hg
      have hob := View.get_some hg
      cases hp with | ptr _ _ _ b hlt hβ => 
      have ho := (h.objs _ _ _ hob).2
      rw [hβ] at ho
      cases ho with | cells _ _ cur e hb hl h1 hx =>
      have := run_loadVar (R := AVRep w (c.bar β s.V) β s.V.cn) h (cs := cs) (b := b) (base := 0) (off := off) (vs := fun j => cur.getD j undef) (fun j x hj => by
          have hlt : j < cur.size := by rw [hl]; exact (List.getElem?_eq_some_iff.1 hj).1
          rw [Nat.zero_add, cells_cell hb, Array.getElem?_eq_getElem hlt]; simp [Array.getD_eq_getD_getElem?, hlt])
        (fun j x hj => by
          have hlt : j < cur.size := by rw [hl]; exact (List.getElem?_eq_some_iff.1 hj).1
          exact hx j x _ hj (by rw [Array.getElem?_eq_getElem hlt]; simp [Array.getD_eq_getD_getElem?, hlt]))
        hag hsz (fun l us hm hc => agg_mk hc fun x hx => h1 x (hm x hx)) (fun x u hx => hx) he
      obtain ⟨r, hr, h3⟩ := this
      exact ⟨r, by simpa [Instr.loadAt, Instr.sureAddr] using hr, h3⟩
    · exact he.elim
  | rptr o g es i off =>
    simp only at he
    split at he
    · rename_i es' nl l hg
      obtain ⟨rfl, he⟩ := he
      split at he
      · rename_i x hxi
        have hob := View.get_some hg
        cases hp with | rptr _ _ _ _ _ b b0 len cap hlt hβ =>
        have ho := (h.objs _ _ _ hob).2
        rw [hβ] at ho
        cases ho with | row _ _ _ _ _ ho =>
        rcases ho with ⟨_, _, h3⟩ | ⟨_, b', off', cap', cur, h2, h3, h4, h5, h6, h7, h8, h10, h9⟩
        · cases h3
        · simp only [Value.slice.injEq, Option.some.injEq, Addr.mk.injEq] at h2
          obtain ⟨⟨rfl, rfl, _⟩, rfl, rfl⟩ := h2
          have hone : ∀ c, c ∈ x.cells → c.one = true := fun c hc => h10 x c (List.mem_of_getElem? hxi) hc
          have := run_loadVar (R := DRep w (c.bar β s.V)) h (cs := x.cells) (b := b) (base := b0 + i * es) (off := off) (vs := fun j => cur.getD (b0 + i * es + j) undef) (fun j c hj => by
              obtain ⟨u, hu, _⟩ := h9 i x j c hxi hj
              rw [cells_cell h3, hu]; simp [Array.getD_eq_getD_getElem?, hu])
            (fun j c hj => by
              obtain ⟨u, hu, hd⟩ := h9 i x j c hxi hj
              simpa [Array.getD_eq_getD_getElem?, hu] using hd)
            hag hsz (fun l us hm hc => dagg_mk hc fun x hx => hone x (hm x hx)) (fun x u hx => .d _ _ hx) he
          obtain ⟨r, hr, h3⟩ := this
          exact ⟨r, by simpa [Instr.loadAt, Instr.sureAddr] using hr, h3⟩
      · exact he.elim
    · exact he.elim
  | dptr cs off =>
    simp only at he
    cases hp with | dptr _ _ b base vs hb hne h1 hc hv =>
    obtain ⟨r, hr, h3⟩ := run_loadVar (R := DRep w (c.bar β s.V)) h (cs := cs) (b := b) (base := base) (off := off) (vs := vs) hc hv hag hsz
      (fun l us hm hc => dagg_mk hc fun x hx => h1 x (hm x hx)) (fun x u hx => .d _ _ hx) he
    exact ⟨r, by simpa [Instr.loadAt, Instr.sureAddr] using hr, h3⟩
  | d x =>
    cases x with
    | ptr cs =>
      simp only at he
      cases hp with | d _ _ hp => cases hp with | ptr _ b base vs hb hne h1 hc hv =>
      obtain ⟨r, hr, h3⟩ := run_loadVar (R := DRep w (c.bar β s.V)) h (cs := cs) (b := b) (base := base) (off := 0) (vs := vs) hc hv hag hsz
        (fun l us hm hc => dagg_mk hc fun x hx => h1 x (hm x hx)) (fun x u hx => .d _ _ hx) he
      exact ⟨r, by simpa [Instr.loadAt, Instr.sureAddr] using hr, h3⟩
    | _ => simp at he
  | _ => simp at he
end
end Go.Pw
