/- A part of the proof. -/
import Derived.Test.YtlmkpaimjpdhiaaDoorPwOpen
import Derived.ProofKit
import Derived.Test.YtlmkpaimjpdhiaaDoorPwVC
set_option linter.all false
section
namespace Go.Pw
open Go.RowKit Go.ChangeShapes Go.WideShapes Go.ChangeAt
set_option linter.unusedSimpArgs false
set_option linter.unusedVariables false

def TypedV (T : Ty) (x : D) : Prop := TypedC T x.cells ∧ x = T.val x.cells
def TypedVs : List Ty → List D → Prop
  | [], [] => True
  | T :: Ts, x :: xs => TypedV T x ∧ TypedVs Ts xs
  | _, _ => False

variable {H : Type} {enc : TypeId × Value → H} {P : Program} {W : World}

def isAggTy (P : Program) (t : TypeId) : Bool := match P.underlying t with | some (.struct _) | some (.array _ _) => true | _ => false

theorem open_val {t : TypeId} {v : Value} {d : DataW H} {ps : List MemPlace} {T : Ty} {n : Nat} (hT : tyOf P n t = some T) (ho : Value.okWide P W .any 0 t v) (h : DataW.Trod enc P W 0 (fun _ => true) true t v d ps) :
    ∃ x, TypedV T x ∧ DRep W (fun _ => False) x v := by
  obtain ⟨fuel, h⟩ := h
  obtain ⟨ds, h1, h2⟩ := open_cells fuel n t _ _ T h hT
  cases n with
  | zero => simp [tyOf] at hT
  | succ n =>
    simp only [tyOf] at hT
    have single : ∀ {c : D}, ds = [c] → v.cells.toList.length = 1 → (∀ cs, v ≠ .agg cs) → DRep W (fun _ => False) c v := fun {c} hds hl hna => by
      have hv : v.cells = #[v] := by
        cases v <;> first | rfl | exact absurd rfl (hna _)
      subst hds
      rw [hv] at h2
      exact (h2.2 0 c v rfl rfl).1
    have hl := h2.1
    have notAgg : (∀ fs, P.underlying t ≠ some (.struct fs)) → (∀ m e, P.underlying t ≠ some (.array m e)) → ∀ cs, v ≠ .agg cs := by
      intro n1 n2 cs hv
      subst hv
      unfold Value.okWide at ho
      split at ho
      · rename_i h; exact n1 _ h
      · rename_i h; exact n2 _ _ h
      · simp [Cell.okWide, Cell.ok] at ho
    have fin : ∀ {c : D}, ds = [c] → (∀ fs, P.underlying t ≠ some (.struct fs)) → (∀ m e, P.underlying t ≠ some (.array m e)) → T.val [c] = c → c.cells = [c] → ∃ x, TypedV T x ∧ DRep W (fun _ => False) x v := by
      intro c hds n1 n2 hv hc
      refine ⟨c, ⟨?_, ?_⟩, single hds (by rw [← hl, hds]; rfl) (notAgg n1 n2)⟩
      · rw [hc, ← hds]; exact h1
      · rw [hc, hv]
    split at hT
    · rename_i k hu
      simp at hT; subst hT
      cases h1 with | int _ m hk => exact fin rfl (fun fs hh => by rw [hu] at hh; cases hh) (fun m e hh => by rw [hu] at hh; cases hh) rfl rfl
    · rename_i hu
      simp at hT; subst hT
      cases h1 with | bool b => exact fin rfl (fun fs hh => by rw [hu] at hh; cases hh) (fun m e hh => by rw [hu] at hh; cases hh) rfl rfl
    · rename_i e hu
      split at hT
      · simp only [Option.map_eq_some_iff] at hT
        obtain ⟨Te, hTe, rfl⟩ := hT
        cases h1 with | list _ nl xs h0 hx hx' => exact fin rfl (fun fs hh => by rw [hu] at hh; cases hh) (fun m e hh => by rw [hu] at hh; cases hh) rfl rfl
      · cases hT
    · rename_i fs hu
      split at hT
      · simp only [Option.map_eq_some_iff] at hT
        obtain ⟨Ts, hTs, rfl⟩ := hT
        unfold Value.okWide at ho
        rw [hu] at ho
        obtain ⟨cs, rfl, hcl, _⟩ := ho
        have hcells : (Value.agg cs).cells = cs := rfl
        rw [hcells] at h2
        refine ⟨.agg ds, ⟨h1, rfl⟩, .agg ds cs (by rw [h2.1]; simp) (fun c hc => ?_) fun i c v hc hv => (h2.2 i c v hc (by simpa using hv)).1⟩
        obtain ⟨i, hi⟩ := List.getElem?_of_mem hc
        have hil : i < cs.toList.length := by rw [← h2.1]; exact (List.getElem?_eq_some_iff.1 hi).1
        exact (h2.2 i c _ hi (List.getElem?_eq_getElem hil)).2
      · cases hT
    · cases hT

theorem open_vals : ∀ {ts : List TypeId} {vs : List Value} {ds : List (DataW H)} {ps : List MemPlace} {Ts : List Ty}, listM (tyOf P 20) ts = some Ts → (∀ (j : Nat) t v, ts[j]? = some t → vs[j]? = some v → Value.okWide P W .any 0 t v) →
    DataW.TrodAll enc P W 0 (fun _ => true) true ts vs ds ps → ∃ xs : List D, TypedVs Ts xs ∧ xs.length = vs.length ∧ ∀ (i : Nat) (d : D) (v : Value), xs[i]? = some d → vs[i]? = some v → DRep W (fun _ => False) d v
  | [], vs, ds, ps, Ts, hT, ho, h => by
    obtain ⟨rfl, rfl, rfl⟩ := trodAll_nil h
    simp [listM] at hT; subst hT
    exact ⟨[], trivial, rfl, fun i d v hd => by simp at hd⟩
  | t :: ts, vs, ds, ps, Ts, hT, ho, h => by
    obtain ⟨v, vs1, d, ds1, p, q, rfl, rfl, rfl, h1, h2⟩ := trodAll_cons h
    simp only [listM] at hT
    split at hT
    · cases hT
    · rename_i T hT1
      split at hT
      · cases hT
      · rename_i Ts' hT2
        simp at hT; subst hT
        obtain ⟨x, hx1, hx2⟩ := open_val hT1 (ho 0 t v rfl rfl) h1
        obtain ⟨xs, hxs1, hxs2, hxs3⟩ := open_vals hT2 (fun j t' v' ht hv => ho (j + 1) t' v' (by simpa using ht) (by simpa using hv)) h2
        refine ⟨x :: xs, ⟨hx1, hxs1⟩, by simp [hxs2], fun i d' v' hd hv => ?_⟩
        cases i with
        | zero => simp at hd hv; subst hd hv; exact hx2
        | succ i => exact hxs3 i d' v' (by simpa using hd) (by simpa using hv)

theorem args_stay (hl : laidOutB P = true) {W' : World} (hb : Below W.heap.size W W') {sp : Nat → Bool} : ∀ {ts : List TypeId} {vs : List Value} {ds : List (DataW H)} {ps : List MemPlace}, (∀ t, t ∈ ts → P.readableRec t = true ∧ t < P.types.size) → (∀ p, p ∈ ps → p.block < W.heap.size) → (∀ p, p ∈ ps → sp p.block = true) →
    DataW.TrodAll enc P W 0 (fun _ => true) true ts vs ds ps → DataW.TrodAll enc P W' 0 sp true ts vs ds ps
  | [], vs, ds, ps, hr, hlt, hsp, h => by
    obtain ⟨rfl, rfl, rfl⟩ := trodAll_nil h
    exact rfl
  | t :: ts, vs, ds, ps, hr, hlt, hsp, h => by
    obtain ⟨v, vs1, d, ds1, p, q, rfl, rfl, rfl, h1, h2⟩ := trodAll_cons h
    exact ⟨p, q, WideElems.Trod_stays hl (hr t (by simp)).1 (hr t (by simp)).2 h1 (fun x hx => hb.same (hlt x (by simp [hx]))) (fun x hx => hsp x (by simp [hx])),
      args_stay hl hb (fun t' ht => hr t' (by simp [ht])) (fun x hx => hlt x (by simp [hx])) (fun x hx => hsp x (by simp [hx])) h2, rfl⟩

theorem law_calls {E : Env} (hE : E.P = P) (hG : ∀ g, E.G g = none) {f : FuncId} {fn : Func} {s : ChangeSpec} {rt : TypeId} {Ts : List Ty} (hl : laidOutB P = true) (hread : ∀ t, t ∈ fn.params.toList → P.readableRec t = true ∧ t < P.types.size)
    (hTs : listM (tyOf P 20) fn.params.toList = some Ts) (hrt : fn.resultTypes = #[rt]) (hrb : P.underlying rt = some .bool) (hvars : s.vars = [])
    (hspec : ∀ ds : List (DataW H), ds.length = fn.params.size → s.fn H ds = { results := [.lit (.bool true)], args := ds })
    (hret : ∀ xs : List D, TypedVs Ts xs → Ret E f xs (.bool true))
    {args : Array Value} {ds gs : List (DataW H)} {before : List MemPlace} (hval : ∀ (j : Nat) t v, fn.params[j]? = some t → args[j]? = some v → Value.okWide P W .any 0 t v)
    (hW : DataW.Whole enc P fn.params.toList s.vars false W args.toList ds gs before) :
    Calls P f args W fun e W' => ∃ v, e = .returned v ∧ s.post enc P fn false true false false W args v W' := by
  have hW' := hW
  obtain ⟨p, q, hA, hV, rfl, hfz, hnd⟩ := hW
  rw [hvars] at hV
  obtain ⟨rfl, rfl⟩ := trodVars_none hV
  have hlt := hW'.lt
  obtain ⟨xs, h1, h2, h3⟩ := open_vals hTs (fun j t v ht hv => hval j t v (by simpa using ht) (by simpa using hv)) hA
  have hc := hret xs h1 W (fun _ => False) args (fun b h => h.elim) (fun g cs h => by rw [hG] at h; cases h) (by simpa using h2.symm) fun i d v hd hv => h3 i d v hd (by simpa using hv)
  rw [hE] at hc
  refine hc.mono fun e W' ⟨v, he, hb, hr⟩ => ⟨v, he, ?_⟩
  cases hr
  have hdl : ds.length = fn.params.size := by
    have : ∀ {ts : List TypeId} {vs : List Value} {ds : List (DataW H)} {ps : List MemPlace}, DataW.TrodAll enc P W 0 (fun _ => true) true ts vs ds ps → ds.length = ts.length := by
      intro ts
      induction ts with
      | nil => intro vs ds ps h; obtain ⟨rfl, rfl, rfl⟩ := trodAll_nil h; rfl
      | cons t ts ih => intro vs ds ps h; obtain ⟨v, vs1, d, ds1, p, q, rfl, rfl, rfl, h1, h2⟩ := trodAll_cons h; simp [ih h2]
    simpa using this hA
  have hs := hspec ds hdl
  refine ⟨ds, [], _, [], p ++ [], [], hW', ?_, ?_, ?_, ?_, fun h => by cases h⟩
  · rw [List.append_nil, hs, hrt]
    exact ⟨[], [], ⟨1, by simp [Value.cells, DataW.trod, hrb]⟩, rfl, rfl⟩
  · rw [List.append_nil, hs]
    simp only [List.append_nil] at hlt ⊢
    exact args_stay hl hb hread (fun x hx => hlt x hx) (fun x hx => by simpa using hlt x hx) hA
  · rw [hvars, List.append_nil, hs]
    exact rfl
  · exact hb.frame _
end Go.Pw
end
section
namespace Go.Pw

theorem shr_eq (a : Int) (k : Nat) : a.fdiv (2 ^ k) = a / 2 ^ k := by
  rw [Int.fdiv_eq_ediv_of_nonneg]
  exact Int.pow_nonneg (by omega)
theorem and_one (x : Int) : bitsOp .and .i64 x 1 = x % 2 := by
  have h : (BitVec.ofInt 64 x &&& BitVec.ofInt 64 1).toNat = (x % 2).toNat := by
    have h1 : (BitVec.ofInt 64 (1 : Int)).toNat = 1 := by decide
    rw [BitVec.toNat_and, h1, Nat.and_one_is_mod, BitVec.toNat_ofInt]
    omega
  show IntKind.i64.wrap (((BitVec.ofInt 64 x &&& BitVec.ofInt 64 1).toNat : Nat) : Int) = _
  rw [h, wrapI] <;> omega
theorem xor_bit {x y : Int} (hx : x = 0 ∨ x = 1) (hy : y = 0 ∨ y = 1) : bitsOp .xor .i64 x y = if x = y then 0 else 1 := by
  rcases hx with rfl | rfl <;> rcases hy with rfl | rfl <;> decide
theorem wrapU (n : Int) (h : 0 ≤ n ∧ n ≤ 18446744073709551615) : IntKind.u64.wrap n = n := by rw [IntKind.wrap_u64]; omega
theorem pow_le62 {k : Nat} (h : k ≤ 62) : (2 : Int) ^ k ≤ 4611686018427387904 := by
  have : (2 : Nat) ^ k ≤ 2 ^ 62 := Nat.pow_le_pow_right (by omega) h
  have h2 : ((2 ^ k : Nat) : Int) = (2 : Int) ^ k := by simp
  have h3 : (2 : Nat) ^ 62 = 4611686018427387904 := by decide
  omega
theorem pow_pos2 (k : Nat) : (1 : Int) ≤ (2 : Int) ^ k := by
  have : 0 < (2 : Int) ^ k := Int.pow_pos (by omega)
  omega
theorem shl1 (b : Int) (h : 0 ≤ b ∧ b ≤ 62) : IntKind.i64.wrap (1 * 2 ^ min b.toNat IntKind.i64.bits) = 2 ^ b.toNat := by
  have hm : min b.toNat IntKind.i64.bits = b.toNat := by
    have : IntKind.i64.bits = 64 := rfl
    rw [this]; omega
  rw [hm, Int.one_mul, wrapI]
  have := pow_le62 (k := b.toNat) (by omega)
  have := pow_pos2 b.toNat
  omega
theorem shrN (a b : Int) (h : 0 ≤ b ∧ b ≤ 64) : a.fdiv (2 ^ min b.toNat IntKind.i64.bits) = a / 2 ^ b.toNat := by
  have hm : min b.toNat IntKind.i64.bits = b.toNat := by
    have : IntKind.i64.bits = 64 := rfl
    rw [this]; omega
  rw [hm, shr_eq]
theorem shl1' (b : Int) (h : 0 ≤ b ∧ b ≤ 62) : IntKind.i64.wrap (1 * 2 ^ min b.toNat 64) = 2 ^ b.toNat := shl1 b h
theorem shl1'' (b : Int) (h : 0 ≤ b ∧ b ≤ 62) : IntKind.i64.wrap (2 ^ min b.toNat 64) = 2 ^ b.toNat := by
  have := shl1 b h; rwa [Int.one_mul] at this
theorem shrN' (a b : Int) (h : 0 ≤ b ∧ b ≤ 64) : a.fdiv (2 ^ min b.toNat 64) = a / 2 ^ b.toNat := shrN a b h
theorem pow_12 {b : Int} (h : 1 ≤ b ∧ b ≤ 2) : (b.toNat = 1 ∧ (2 : Int) ^ b.toNat = 2 ∧ (2 : Nat) ^ b.toNat = 2) ∨ (b.toNat = 2 ∧ (2 : Int) ^ b.toNat = 4 ∧ (2 : Nat) ^ b.toNat = 4) := by
  have : b = 1 ∨ b = 2 := by omega
  rcases this with rfl | rfl
  · exact .inl ⟨rfl, rfl, rfl⟩
  · exact .inr ⟨rfl, rfl, rfl⟩
end Go.Pw
end
section
namespace Go.Pw

theorem typed_int {k : IntKind} {cs : List D} (h : TypedC (.int k) cs) : ∃ n, cs = [.int k n] := by cases h with | int _ n _ => exact ⟨n, rfl⟩
theorem typed_cons {T : Ty} {Ts : List Ty} {cs : List D} (h : TypedC (.str (T :: Ts)) cs) : ∃ a b, cs = a ++ b ∧ TypedC T a ∧ TypedC (.str Ts) b := by
  cases h with | cons _ _ a b h1 h2 => exact ⟨a, b, rfl, h1, h2⟩
theorem typed_nil {cs : List D} (h : TypedC (.str []) cs) : cs = [] := by cases h; rfl
theorem typed_list {T : Ty} {α : Type} (f : α → D) (hf : ∀ cs, TypedC T cs → ∃ a, T.val cs = f a) {cs : List D} (h : TypedC (.list T) cs) : ∃ nl l, cs = [.list nl (List.map f l)] := by
  cases h with | list _ nl xs h0 h1 h2 =>
  have : ∃ l, xs = List.map f l := by
    clear h0
    induction xs with
    | nil => exact ⟨[], rfl⟩
    | cons x xs ih =>
      obtain ⟨l, rfl⟩ := ih (fun y hy => h1 y (by simp [hy])) fun y hy => h2 y (by simp [hy])
      obtain ⟨a, ha⟩ := hf _ (h1 x (by simp))
      have := h2 x (by simp)
      rw [ha] at this
      exact ⟨a :: l, by rw [this]; rfl⟩
  obtain ⟨l, rfl⟩ := this
  exact ⟨nl, l, rfl⟩
theorem typed_ints {cs : List D} (h : TypedC (.list (.int .i64)) cs) : ∃ nl l, cs = [.list nl (ints l)] :=
  typed_list (D.int .i64) (fun cs h => by obtain ⟨n, rfl⟩ := typed_int h; exact ⟨n, rfl⟩) h
theorem typed_intV {x : D} (h : TypedV (.int .i64) x) : ∃ n, x = .int .i64 n := by
  obtain ⟨h, hx⟩ := h
  obtain ⟨n, hn⟩ := typed_int h
  rw [hn] at hx
  exact ⟨n, hx⟩
theorem typed_intsV {x : D} (h : TypedV (.list (.int .i64)) x) : ∃ nl l, x = .list nl (ints l) := by
  obtain ⟨h, hx⟩ := h
  obtain ⟨nl, l, hn⟩ := typed_ints h
  rw [hn] at hx
  exact ⟨nl, l, hx⟩

end Go.Pw
end
