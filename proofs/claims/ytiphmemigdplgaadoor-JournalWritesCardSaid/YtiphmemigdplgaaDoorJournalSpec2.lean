/- A part of the proof. -/
import Derived.Test.YtiphmemigdplgaaDoorJournalI
set_option linter.all false
namespace Go.Pw
set_option linter.unusedVariables false
structure GWr where
  blk : Int
  val : Int
  tail : Int
instance : Inhabited GWr := ⟨⟨0, 0, 0⟩⟩
def wrC (r : GWr) : List D := [.int .i64 r.blk, .int .i64 r.val, .int .i64 r.tail]
def wrD (r : GWr) : D := .agg (wrC r)
theorem wrC_eq (r : GWr) : wrC r = [.int .i64 r.blk, .int .i64 r.val, .int .i64 r.tail] := rfl
theorem wrD_eq (r : GWr) : wrD r = .agg (wrC r) := rfl
def wrsD (l : List GWr) : List D := l.map wrD
theorem wrsD_len (l : List GWr) : (wrsD l).length = l.length := by simp [wrsD]
theorem wrsD_nil : wrsD [] = [] := rfl
theorem wrsD_unif (l : List GWr) : Unif 3 (wrsD l) = True := unif_map fun _ => rfl
theorem onSome_wrs {l : List GWr} {i : Nat} {A : D → Prop} : onSome (wrsD l)[i]? A = (i < l.length ∧ A (wrD (l[i]?.getD default))) := onSome_map

def nwS (s : List GRec) : GRec := newN s s.length
def nxS (s : List GRec) : Nat := (((nwS s).num + 1).tmod s.length).toNat
def recS (s : List GRec) (x : GWr) : GRec := ⟨(nwS s).num + 1, x.blk, x.val, x.tail, false⟩
def putS (s : List GRec) (x : GWr) : List GRec := s.set (nxS s) (recS s x)
def entOk (b : Int) (s : List GRec) (x : GWr) : Bool := inZ x.blk 0 (b - 1) && (inZ x.val 0 999 && inZ x.tail (nwS s).tail ((nwS s).num + 1))
/-- The error of an entry that is appended. -/
def appE (b : Int) (s : List GRec) (x : GWr) : Int :=
  if entOk b s x then (if (nwS s).tail + s.length ≤ (nwS s).num + 1 then 163 else if 999 < (nwS s).num + 1 then 2 else 0) else 162
/-- The slots after the first entries. -/
def putN (s : List GRec) (es : List GWr) : Nat → List GRec
  | 0 => s
  | i + 1 => putS (putN s es i) (es[i]?.getD default)
/-- The first error of the first entries. -/
def errN (b : Int) (s : List GRec) (es : List GWr) : Nat → Int
  | 0 => 0
  | i + 1 => if errN b s es i = 0 then appE b (putN s es i) (es[i]?.getD default) else errN b s es i
def GLog.setS (l : GLog) (s : List GRec) : GLog := { l with slots := s }
def tornS (s : List GRec) : List GRec := s.set (nxS s) badR

theorem newest_eq (l : GLog) : l.newest = nwS l.slots := rfl
theorem setS_newest (l : GLog) (s : List GRec) : (l.setS s).newest = nwS s := rfl
theorem putS_len (s : List GRec) (x : GWr) : (putS s x).length = s.length := by simp [putS]
theorem putN_len (s : List GRec) (es : List GWr) : ∀ i, (putN s es i).length = s.length
  | 0 => rfl
  | i + 1 => by rw [putN, putS_len, putN_len s es i]
theorem errN_mono {b : Int} {s : List GRec} {es : List GWr} {i : Nat} (h : errN b s es i ≠ 0) : ∀ j, i ≤ j → errN b s es j = errN b s es i
  | 0, hj => by rw [show i = 0 by omega]
  | j + 1, hj => by
    rcases (show i = j + 1 ∨ i ≤ j by omega) with h1 | h1
    · rw [h1]
    · have := errN_mono h j h1
      rw [errN, this, if_neg h]
theorem errN_zero {b : Int} {s : List GRec} {es : List GWr} {i j : Nat} (h : errN b s es j = 0) (hij : i ≤ j) : errN b s es i = 0 := by
  by_cases h0 : errN b s es i = 0
  · exact h0
  · rw [errN_mono h0 j hij] at h; exact absurd h h0
theorem errN_step {b : Int} {s : List GRec} {es : List GWr} {i j : Nat} (h : errN b s es j = 0) (hij : i < j) : appE b (putN s es i) (es[i]?.getD default) = 0 := by
  have := errN_zero h (show i + 1 ≤ j by omega)
  rw [errN, errN_zero h (show i ≤ j by omega), if_pos rfl] at this
  exact this
theorem appE_0 {b : Int} {s : List GRec} {x : GWr} (h : appE b s x = 0) : (0 ≤ x.blk ∧ x.blk ≤ b - 1) ∧ (0 ≤ x.val ∧ x.val ≤ 999) ∧ ((nwS s).tail ≤ x.tail ∧ x.tail ≤ (nwS s).num + 1) ∧ (nwS s).num + 1 < (nwS s).tail + s.length ∧ (nwS s).num + 1 ≤ 999 := by
  unfold appE entOk at h
  split at h
  · rename_i hc
    simp only [Bool.and_eq_true, inZ_iff] at hc
    split at h
    · cases h
    · split at h
      · cases h
      · exact ⟨hc.1, hc.2.1, hc.2.2, by omega, by omega⟩
  · cases h
theorem appE_kind (b : Int) (s : List GRec) (x : GWr) : appE b s x = 0 ∨ appE b s x = 162 ∨ appE b s x = 163 ∨ appE b s x = 2 := by
  unfold appE
  split
  · split
    · simp
    · split <;> simp
  · simp
theorem errN_kind (b : Int) (s : List GRec) (es : List GWr) : ∀ i, errN b s es i = 0 ∨ errN b s es i = 162 ∨ errN b s es i = 163 ∨ errN b s es i = 2
  | 0 => .inl rfl
  | i + 1 => by
    rw [errN]; split
    · exact appE_kind _ _ _
    · exact errN_kind b s es i

theorem getD_setR (s : List GRec) (p : Nat) (r : GRec) (i : Nat) : (s.set p r)[i]?.getD default = if i = p ∧ p < s.length then r else s[i]?.getD default := by
  rw [List.getElem?_set]
  by_cases h : p = i
  · subst h
    by_cases h2 : p < s.length
    · simp [h2]
    · simp [h2]
  · rw [if_neg h, if_neg (by omega)]
theorem tmod_range {n : Int} {m : Nat} (h0 : 0 ≤ n) (hm : 1 ≤ m) : (n.tmod m).toNat < m ∧ 0 ≤ n.tmod m ∧ ((n.tmod m).toNat : Int) = n.tmod m := by
  have h1 := Int.tmod_nonneg (m : Int) h0
  have h2 := Int.tmod_lt_of_pos n (b := (m : Int)) (by omega)
  omega
theorem mod_ne {a b : Int} {m : Nat} (h0 : 0 ≤ a) (h1 : a < b) (h2 : b - a < m) : (a.tmod m).toNat ≠ (b.tmod m).toNat := by
  intro h
  have ra := tmod_range h0 (show 1 ≤ m by omega)
  have rb := tmod_range (show 0 ≤ b by omega) (show 1 ≤ m by omega)
  have e : a.tmod m = b.tmod m := by omega
  rw [Int.tmod_eq_emod_of_nonneg h0, Int.tmod_eq_emod_of_nonneg (show 0 ≤ b by omega)] at e
  have h3 : (b - a) % (m : Int) = 0 := Int.emod_eq_emod_iff_emod_sub_eq_zero.1 e.symm
  rw [Int.emod_eq_of_lt (by omega) h2] at h3
  omega
theorem newN_max (s : List GRec) : ∀ i j, j < i → (s[j]?.getD default).bad = false → (s[j]?.getD default).num ≤ (newN s i).num
  | 0, j, h, _ => by omega
  | i + 1, j, h, hb => by
    rw [newN]
    rcases (show j < i ∨ j = i by omega) with h1 | h1
    · have := newN_max s i j h1 hb
      split
      · rename_i hc; simp at hc; omega
      · exact this
    · subst h1
      split
      · exact Int.le_refl _
      · rename_i hc; rw [hb] at hc; simp at hc; omega
theorem nwS_max (s : List GRec) (j : Nat) (h : j < s.length) (hb : (s[j]?.getD default).bad = false) : (s[j]?.getD default).num ≤ (nwS s).num := newN_max s _ j h hb
theorem nwS_uniq {l : GLog} (g : l.Good) {j : Nat} (hj : j < l.slots.length) (hb : (l.slots[j]?.getD default).bad = false) (h0 : 0 ≤ (l.slots[j]?.getD default).num) (hm : ∀ i, i < l.slots.length → (l.slots[i]?.getD default).bad = false → (l.slots[i]?.getD default).num ≤ (l.slots[j]?.getD default).num) : nwS l.slots = l.slots[j]?.getD default := by
  have h1 := nwS_max l.slots j hj hb
  rcases newN_in l.slots l.slots.length (Nat.le_refl _) with h2 | ⟨i, hi, h2, h3⟩
  · unfold nwS at h1; rw [h2] at h1; simp [emptyR] at h1; omega
  · have h4 := hm i hi h3
    unfold nwS at h1 ⊢
    rw [h2] at h1 ⊢
    have e : (l.slots[i]?.getD default).num = (l.slots[j]?.getD default).num := by omega
    have k1 := (g.s i hi h3 (by omega)).2.1
    have k2 := (g.s j hj hb (by omega)).2.1
    rw [e] at k1
    have : i = j := by omega
    rw [this]
theorem good_set {l : GLog} (g : l.Good) {p : Nat} {r : GRec} (hr : r.bad = false → r.num ≠ -1 → (0 ≤ r.num ∧ r.num ≤ 999) ∧ r.num.tmod l.slots.length = p ∧ (0 ≤ r.blk ∧ r.blk ≤ l.blocks - 1) ∧ (0 ≤ r.val ∧ r.val ≤ 999) ∧ (0 ≤ r.tail ∧ r.tail ≤ r.num)) : (l.setS (l.slots.set p r)).Good := by
  refine ⟨g.d, g.b1, g.b2, by simpa [GLog.setS] using g.m1, by simpa [GLog.setS] using g.m2, g.f1, by simpa [GLog.setS] using g.f2, fun i hi => ?_⟩
  simp only [GLog.setS, List.length_set] at hi ⊢
  rw [getD_setR]
  split
  · rename_i h; rw [h.1]; exact hr
  · exact g.s i hi
theorem allOk_iff (l : GLog) : ∀ n, l.allOk n = true ↔ ∀ i, i < n → slotOk l.blocks l.slots.length i (l.slots[i]?.getD default) = true
  | 0 => by simp [GLog.allOk]
  | n + 1 => by
    rw [GLog.allOk, Bool.and_eq_true, allOk_iff l n]
    constructor
    · intro h i hi
      rcases (show i < n ∨ i = n by omega) with h1 | h1
      · exact h.1 i h1
      · subst h1; exact h.2
    · intro h; exact ⟨fun i hi => h i (by omega), h n (by omega)⟩
theorem check_set {l : GLog} (hc : l.check = 0) {p : Nat} {r : GRec} (hr : slotOk l.blocks l.slots.length p r = true) : (l.setS (l.slots.set p r)).check = 0 := by
  rw [GLog.check_ok] at hc ⊢
  unfold GLog.ok at hc ⊢
  simp only [Bool.and_eq_true] at hc ⊢
  obtain ⟨h1, h2, h3⟩ := hc
  refine ⟨h1, ?_, ?_⟩
  · unfold GLog.head at h2 ⊢
    simpa [GLog.setS] using h2
  · rw [allOk_iff] at h3 ⊢
    intro i hi
    simp only [GLog.setS, List.length_set] at hi ⊢
    rw [getD_setR]
    split
    · rename_i h; rw [h.1]; exact hr
    · exact h3 i hi
theorem at_set {l : GLog} {p : Nat} {r : GRec} {n : Int} (h0 : 0 ≤ n) (hm : 1 ≤ l.slots.length) : (l.setS (l.slots.set p r)).at' n = if (n.tmod l.slots.length).toNat = p then r else l.at' n := by
  unfold GLog.at' GLog.setS
  simp only [List.length_set]
  rw [getD_setR]
  have := tmod_range h0 hm
  by_cases h : (n.tmod l.slots.length).toNat = p
  · rw [if_pos ⟨h, by omega⟩, if_pos h]
  · rw [if_neg (fun hh => h hh.1), if_neg h]
theorem keptN_congr {l k : GLog} {t : Int} : ∀ {n : Nat}, (∀ i : Nat, i < n → k.at' (t + i) = l.at' (t + i)) → k.keptN t n = l.keptN t n
  | 0, _ => rfl
  | n + 1, h => by rw [keptN_succ, keptN_succ, keptN_congr fun i hi => h i (by omega), h n (by omega)]
theorem whole_congr {l k : GLog} {t : Int} : ∀ {n : Nat}, (∀ i : Nat, i < n → k.at' (t + i) = l.at' (t + i)) → k.whole t n = l.whole t n
  | 0, _ => rfl
  | n + 1, h => by rw [GLog.whole, GLog.whole, whole_congr fun i hi => h i (by omega), h n (by omega)]
theorem whole_at {l : GLog} {t : Int} {n : Nat} (h : l.whole t n = true) {i : Nat} (hi : i < n) : (l.at' (t + i)).bad = false ∧ (l.at' (t + i)).num = t + i := by
  cases hc : (!(l.at' (t + i)).bad && decide ((l.at' (t + i)).num = t + i)) with
  | true =>
    rw [Bool.and_eq_true, decide_eq_true_eq] at hc
    exact ⟨by simpa using hc.1, hc.2⟩
  | false => rw [whole_bad hi hc] at h; cases h
theorem whole_of {l : GLog} {t : Int} : ∀ {n : Nat}, (∀ i : Nat, i < n → (l.at' (t + i)).bad = false ∧ (l.at' (t + i)).num = t + i) → l.whole t n = true
  | 0, _ => rfl
  | n + 1, h => by
    rw [GLog.whole, whole_of fun i hi => h i (by omega), (h n (by omega)).1, decide_eq_true (h n (by omega)).2]; rfl

/-- A slot that is not wanted may be torn. -/
theorem torn_newest {l : GLog} (g : l.Good) {p : Nat} (hne : 0 ≤ l.newest.num → (l.newest.num.tmod l.slots.length).toNat ≠ p) : nwS (l.slots.set p badR) = l.newest := by
  have g' := good_set g (p := p) (r := badR) (fun h => by cases h)
  have key : ∀ i, i < l.slots.length → ((l.slots.set p badR)[i]?.getD default).bad = false → i ≠ p ∧ (l.slots.set p badR)[i]?.getD default = l.slots[i]?.getD default := by
    intro i hi hb
    rw [getD_setR] at hb ⊢
    by_cases h : i = p ∧ p < l.slots.length
    · rw [if_pos h] at hb; cases hb
    · rw [if_neg h]; exact ⟨fun hh => h ⟨hh, by omega⟩, rfl⟩
  rcases newN_in l.slots l.slots.length (Nat.le_refl _) with h2 | ⟨j, hj, h2, h3⟩
  · have h2' : l.newest = emptyR := h2
    rw [h2']
    rcases newN_cases (l.slots.set p badR) (l.slots.set p badR).length with h4 | h4
    · exact h4
    · rcases newN_in (l.slots.set p badR) (l.slots.set p badR).length (Nat.le_refl _) with h5 | ⟨i, hi, h5, h6⟩
      · exact h5
      · rw [List.length_set] at hi
        obtain ⟨k1, k2⟩ := key i hi h6
        rw [k2] at h5 h6
        have := newN_max l.slots l.slots.length i hi h6
        rw [h2] at this
        rw [h5] at h4
        simp [emptyR] at this; omega
  · have h2' : l.newest = l.slots[j]?.getD default := h2
    by_cases h0 : l.newest.num = -1
    · rw [h2']
      have hx := newN_cases l.slots l.slots.length
      rcases hx with hx | hx
      · have hx' : l.newest = emptyR := hx
        rw [← h2', hx']
        rcases newN_cases (l.slots.set p badR) (l.slots.set p badR).length with h4 | h4
        · exact h4
        · rcases newN_in (l.slots.set p badR) (l.slots.set p badR).length (Nat.le_refl _) with h5 | ⟨i, hi, h5, h6⟩
          · exact h5
          · rw [List.length_set] at hi
            obtain ⟨k1, k2⟩ := key i hi h6
            rw [k2] at h5 h6
            have := newN_max l.slots l.slots.length i hi h6
            rw [hx] at this
            rw [h5] at h4
            simp [emptyR] at this; omega
      · have : -1 < l.newest.num := hx
        omega
    · have hn := (newest_good g).2.1
      have h7 := g.s j hj h3 (by rw [← h2']; exact h0)
      rw [← h2'] at h7
      have hjp : j ≠ p := by
        have := hne (by omega)
        rw [h7.2.1] at this
        intro e; apply this; omega
      have e1 : (l.slots.set p badR)[j]?.getD default = l.newest := by rw [getD_setR, if_neg (fun h => hjp h.1), h2']
      have := nwS_uniq g' (j := j) (by simpa [GLog.setS] using hj) (by show ((l.slots.set p badR)[j]?.getD default).bad = false; rw [e1]; exact (newest_good g).1) (by show 0 ≤ ((l.slots.set p badR)[j]?.getD default).num; rw [e1]; omega) (fun i hi hb => by
        have hi' : i < l.slots.length := by simpa [GLog.setS] using hi
        obtain ⟨k1, k2⟩ := key i hi' hb
        show ((l.slots.set p badR)[i]?.getD default).num ≤ ((l.slots.set p badR)[j]?.getD default).num
        have hb' : ((l.slots.set p badR)[i]?.getD default).bad = false := hb
        rw [e1, k2]
        rw [k2] at hb'
        exact nwS_max l.slots i hi' hb')
      have this' : nwS (l.slots.set p badR) = (l.slots.set p badR)[j]?.getD default := this
      rw [this', e1]
theorem torn_kept {l : GLog} (g : l.Good) {p : Nat} (hne : ∀ k, l.newest.tail ≤ k → k ≤ l.newest.num → (k.tmod l.slots.length).toNat ≠ p) : (l.setS (l.slots.set p badR)).newest = l.newest ∧ (l.setS (l.slots.set p badR)).kept = l.kept ∧ (l.setS (l.slots.set p badR)).full = l.full := by
  obtain ⟨n1, n2, n3⟩ := newest_good g
  have hm := g.m1
  have tl : 0 ≤ l.newest.num → l.newest.tail ≤ l.newest.num := by
    intro h0
    rcases newN_in l.slots l.slots.length (Nat.le_refl _) with h2 | ⟨j, hj, h2, h3⟩
    · have : l.newest = emptyR := h2
      rw [this] at h0; simp [emptyR] at h0
    · have h2' : l.newest = l.slots[j]?.getD default := h2
      have := g.s j hj h3 (by rw [← h2']; omega)
      rw [← h2'] at this; omega
  have hN : (l.setS (l.slots.set p badR)).newest = l.newest := torn_newest g fun h => hne _ (tl h) (Int.le_refl _)
  have ha : ∀ i : Nat, i < l.many → (l.setS (l.slots.set p badR)).at' (l.newest.tail + i) = l.at' (l.newest.tail + i) := by
    intro i hi
    unfold GLog.many at hi
    rw [at_set (by omega) (by omega), if_neg (hne _ (by omega) (by omega))]
  refine ⟨hN, ?_, ?_⟩
  · unfold GLog.kept
    have : (l.setS (l.slots.set p badR)).many = l.many := by unfold GLog.many; rw [hN]
    rw [hN, this]; exact keptN_congr ha
  · unfold GLog.full
    have : (l.setS (l.slots.set p badR)).many = l.many := by unfold GLog.many; rw [hN]
    rw [hN, this]; exact whole_congr ha
theorem filter_from {f : Nat → GRec} {t : Int} {d : Nat} : ∀ {M : Nat}, (∀ i : Nat, i < M → (f i).num = t + i) → d ≤ M → ((List.range M).map f).filter (fun r => decide (t + d ≤ r.num)) = (List.range (M - d)).map fun i => f (d + i)
  | 0, _, h => by simp
  | M + 1, hf, h => by
    rw [List.range_succ, List.map_append, List.filter_append]
    rcases (show d = M + 1 ∨ d ≤ M by omega) with h1 | h1
    · subst h1
      rw [Nat.sub_self]
      have e1 : ((List.range M).map f).filter (fun r => decide (t + ((M + 1 : Nat) : Int) ≤ r.num)) = [] := by
        rw [List.filter_eq_nil_iff]
        intro r hr
        obtain ⟨i, hi, rfl⟩ := List.mem_map.1 hr
        rw [List.mem_range] at hi
        rw [hf i (by omega)]; simp; omega
      rw [e1]
      simp [hf M (by omega)]; omega
    · rw [filter_from (fun i hi => hf i (by omega)) h1, show M + 1 - d = (M - d) + 1 by omega, List.range_succ, List.map_append]
      have : (decide (t + (d : Int) ≤ (f M).num)) = true := by rw [hf M (by omega)]; simp; omega
      simp only [List.map_cons, List.map_nil, List.filter_cons, List.filter_nil, this, if_true]
      rw [show d + (M - d) = M by omega]

theorem put_good {l : GLog} (g : l.Good) {x : GWr} (h : appE l.blocks l.slots x = 0) : (l.setS (putS l.slots x)).Good := by
  obtain ⟨h1, h2, h3, h4, h5⟩ := appE_0 h
  obtain ⟨n1, n2, n3⟩ := newest_good g
  rw [newest_eq] at n1 n2 n3
  have hm := g.m1
  refine good_set g fun _ _ => ⟨⟨?_, ?_⟩, ?_, ?_, ?_, ?_, ?_⟩
  · show 0 ≤ (nwS l.slots).num + 1; omega
  · show (nwS l.slots).num + 1 ≤ 999; omega
  · show ((nwS l.slots).num + 1).tmod l.slots.length = ((((nwS l.slots).num + 1).tmod l.slots.length).toNat : Int)
    rw [(tmod_range (show 0 ≤ (nwS l.slots).num + 1 by omega) (show 1 ≤ l.slots.length by omega)).2.2]
  · exact h1
  · exact h2
  · show 0 ≤ x.tail; omega
  · exact h3.2
theorem put_check {l : GLog} (hc : l.check = 0) (g : l.Good) {x : GWr} (h : appE l.blocks l.slots x = 0) : (l.setS (putS l.slots x)).check = 0 := by
  obtain ⟨h1, h2, h3, h4, h5⟩ := appE_0 h
  obtain ⟨n1, n2, n3⟩ := newest_good g
  rw [newest_eq] at n1 n2 n3
  have hm := g.m1
  refine check_set hc ?_
  unfold slotOk
  rw [Bool.or_eq_true, Bool.or_eq_true]
  right; right
  unfold recOk
  simp only [Bool.and_eq_true, inZ_iff, decide_eq_true_eq]
  refine ⟨rfl, ⟨?_, ?_⟩, ?_, h1, h2, ?_, h3.2⟩
  · show 0 ≤ (nwS l.slots).num + 1; omega
  · show (nwS l.slots).num + 1 ≤ 999; omega
  · show ((nwS l.slots).num + 1).tmod l.slots.length = ((((nwS l.slots).num + 1).tmod l.slots.length).toNat : Int)
    rw [(tmod_range (show 0 ≤ (nwS l.slots).num + 1 by omega) (show 1 ≤ l.slots.length by omega)).2.2]
  · show 0 ≤ x.tail; omega
theorem put_newest {l : GLog} (g : l.Good) {x : GWr} (h : appE l.blocks l.slots x = 0) : nwS (putS l.slots x) = recS l.slots x := by
  have g' := put_good g h
  obtain ⟨h1, h2, h3, h4, h5⟩ := appE_0 h
  obtain ⟨n1, n2, n3⟩ := newest_good g
  rw [newest_eq] at n1 n2 n3
  have hm := g.m1
  have hp : nxS l.slots < l.slots.length := (tmod_range (show 0 ≤ (nwS l.slots).num + 1 by omega) (show 1 ≤ l.slots.length by omega)).1
  have e1 : (putS l.slots x)[nxS l.slots]?.getD default = recS l.slots x := by unfold putS; rw [getD_setR, if_pos ⟨rfl, hp⟩]
  have := nwS_uniq g' (j := nxS l.slots) (by show _ < (putS l.slots x).length; rw [putS_len]; exact hp) (by show ((putS l.slots x)[nxS l.slots]?.getD default).bad = false; rw [e1]; rfl) (by show 0 ≤ ((putS l.slots x)[nxS l.slots]?.getD default).num; rw [e1]; show 0 ≤ (nwS l.slots).num + 1; omega) (fun i hi hb => by
    have hi' : i < l.slots.length := by have : i < (putS l.slots x).length := hi; rwa [putS_len] at this
    show ((putS l.slots x)[i]?.getD default).num ≤ ((putS l.slots x)[nxS l.slots]?.getD default).num
    have hb' : ((putS l.slots x)[i]?.getD default).bad = false := hb
    rw [e1]
    unfold putS at hb' ⊢
    rw [getD_setR] at hb' ⊢
    by_cases hh : i = nxS l.slots ∧ nxS l.slots < l.slots.length
    · rw [if_pos hh]; exact Int.le_refl _
    · rw [if_neg hh] at hb' ⊢
      have := nwS_max l.slots i hi' hb'
      show _ ≤ (nwS l.slots).num + 1
      omega)
  have this' : nwS (putS l.slots x) = (putS l.slots x)[nxS l.slots]?.getD default := this
  rw [this', e1]
theorem put_at {l : GLog} (g : l.Good) {x : GWr} (h : appE l.blocks l.slots x = 0) {k : Int} (h1 : (nwS l.slots).tail ≤ k) (h2 : k ≤ (nwS l.slots).num) : (l.setS (putS l.slots x)).at' k = l.at' k := by
  obtain ⟨_, _, h3, h4, h5⟩ := appE_0 h
  obtain ⟨n1, n2, n3⟩ := newest_good g
  rw [newest_eq] at n1 n2 n3
  have hm := g.m1
  unfold putS
  rw [at_set (by omega) (by omega), if_neg]
  exact mod_ne (by omega) (by omega) (by omega)
theorem put_at_new {l : GLog} (g : l.Good) {x : GWr} (h : appE l.blocks l.slots x = 0) : (l.setS (putS l.slots x)).at' ((nwS l.slots).num + 1) = recS l.slots x := by
  obtain ⟨n1, n2, n3⟩ := newest_good g
  rw [newest_eq] at n1 n2 n3
  have hm := g.m1
  unfold putS
  rw [at_set (by omega) (by omega)]
  exact if_pos rfl
theorem put_full {l : GLog} (g : l.Good) (hf : l.full = true) {x : GWr} (h : appE l.blocks l.slots x = 0) : (l.setS (putS l.slots x)).full = true := by
  obtain ⟨h1, h2, h3, h4, h5⟩ := appE_0 h
  obtain ⟨n1, n2, n3⟩ := newest_good g
  have hf' := hf
  unfold GLog.full at hf' ⊢
  rw [setS_newest, put_newest g h]
  rw [newest_eq] at n1 n2 n3 hf'
  refine whole_of fun i hi => ?_
  unfold GLog.many at hi
  rw [setS_newest, put_newest g h] at hi
  simp only [recS] at hi ⊢
  by_cases hk : x.tail + i = (nwS l.slots).num + 1
  · rw [hk, put_at_new g h]; exact ⟨rfl, rfl⟩
  · rw [put_at g h (by omega) (by omega)]
    have := whole_at hf' (i := (x.tail + i - (nwS l.slots).tail).toNat) (by unfold GLog.many; rw [newest_eq]; omega)
    rw [show (nwS l.slots).tail + ((x.tail + i - (nwS l.slots).tail).toNat : Int) = x.tail + i by omega] at this
    exact this
theorem put_kept {l : GLog} (g : l.Good) (hf : l.full = true) {x : GWr} (h : appE l.blocks l.slots x = 0) : (l.setS (putS l.slots x)).kept = l.kept.filter (fun r => decide (x.tail ≤ r.num)) ++ [recS l.slots x] := by
  obtain ⟨h1, h2, h3, h4, h5⟩ := appE_0 h
  obtain ⟨n1, n2, n3⟩ := newest_good g
  have hf' := hf
  unfold GLog.full at hf'
  rw [newest_eq] at n1 n2 n3 hf'
  have hM : l.many = ((nwS l.slots).num + 1 - (nwS l.slots).tail).toNat := rfl
  have hk : l.kept = (List.range l.many).map fun (i : Nat) => l.at' ((nwS l.slots).tail + (i : Int)) := rfl
  have hfl := filter_from (f := fun (i : Nat) => l.at' ((nwS l.slots).tail + (i : Int))) (t := (nwS l.slots).tail) (d := (x.tail - (nwS l.slots).tail).toNat) (M := l.many) (fun i hi => (whole_at hf' hi).2) (by omega)
  rw [show (nwS l.slots).tail + ((x.tail - (nwS l.slots).tail).toNat : Int) = x.tail by omega, ← hk] at hfl
  rw [hfl]
  unfold GLog.kept GLog.many
  rw [setS_newest, put_newest g h]
  simp only [recS]
  rw [show ((nwS l.slots).num + 1 + 1 - x.tail).toNat = (l.many - (x.tail - (nwS l.slots).tail).toNat) + 1 by omega, keptN_succ]
  congr 1
  · unfold GLog.keptN
    refine List.map_congr_left fun i hi => ?_
    rw [List.mem_range] at hi
    show (l.setS (putS l.slots x)).at' (x.tail + (i : Int)) = l.at' ((nwS l.slots).tail + (((x.tail - (nwS l.slots).tail).toNat + i : Nat) : Int))
    rw [put_at g h (by omega) (by omega)]
    congr 1
    omega
  · rw [show x.tail + ((l.many - (x.tail - (nwS l.slots).tail).toNat : Nat) : Int) = (nwS l.slots).num + 1 by omega, put_at_new g h]; rfl
end Go.Pw
