/- A part of the proof. -/
import Derived.Test.YtiphmemigdplgaaDoorZonesSpec5
set_option linter.all false
namespace Go.Pw

structure GRec where
  num : Int
  blk : Int
  val : Int
  tail : Int
  bad : Bool
instance : Inhabited GRec := ⟨⟨0, 0, 0, 0, false⟩⟩
theorem GRec.ext' {a b : GRec} (h1 : a.num = b.num) (h2 : a.blk = b.blk) (h3 : a.val = b.val) (h4 : a.tail = b.tail) (h5 : a.bad = b.bad) : a = b := by cases a; cases b; simp_all
def recC (r : GRec) : List D := [.int .i64 r.num, .int .i64 r.blk, .int .i64 r.val, .int .i64 r.tail, .bool r.bad]
def recD (r : GRec) : D := .agg (recC r)
theorem recC_eq (r : GRec) : recC r = [.int .i64 r.num, .int .i64 r.blk, .int .i64 r.val, .int .i64 r.tail, .bool r.bad] := rfl
theorem recD_eq (r : GRec) : recD r = .agg (recC r) := rfl
def recsD (l : List GRec) : List D := l.map recD
theorem recsD_len (l : List GRec) : (recsD l).length = l.length := by simp [recsD]
theorem recsD_nil : recsD [] = [] := rfl
theorem recsD_unif (l : List GRec) : Unif 5 (recsD l) = True := unif_map fun _ => rfl
theorem recsD_snoc (l : List GRec) (a b c d : Int) (e : Bool) : recsD l ++ [.agg [.int .i64 a, .int .i64 b, .int .i64 c, .int .i64 d, .bool e]] = recsD (l ++ [⟨a, b, c, d, e⟩]) := by simp [recsD, recD, recC]
theorem onSome_recs {l : List GRec} {i : Nat} {A : D → Prop} : onSome (recsD l)[i]? A = (i < l.length ∧ A (recD (l[i]?.getD default))) := onSome_map

def emptyR : GRec := ⟨-1, 0, 0, 0, false⟩
def badR : GRec := ⟨0, 0, 0, 0, true⟩

structure GLog where
  disk : GDisk
  blocks : Int
  from' : Int
  sn : Bool
  slots : List GRec
def logC (l : GLog) : List D := diskC l.disk ++ [.int .i64 l.blocks, .int .i64 l.from', .list l.sn (recsD l.slots)]
def logD (l : GLog) : D := .agg (logC l)
theorem logC_eq (l : GLog) : logC l = [.int .i64 l.disk.heads, .int .i64 l.disk.turn, .list l.disk.zn (zpsD l.disk.zones), .int .i64 l.disk.hskew, .int .i64 l.disk.cskew, .int .i64 l.disk.hlo, .int .i64 l.disk.hhi, .int .i64 l.disk.clo, .int .i64 l.disk.chi, .int .i64 l.blocks, .int .i64 l.from', .list l.sn (recsD l.slots)] := rfl
theorem logD_eq (l : GLog) : logD l = .agg (logC l) := rfl

def isEmptyR (r : GRec) : Bool := decide (r.num = -1) && decide (r.blk = 0) && decide (r.val = 0) && decide (r.tail = 0) && !r.bad
def isBadR (r : GRec) : Bool := decide (r.num = 0) && decide (r.blk = 0) && decide (r.val = 0) && decide (r.tail = 0) && r.bad
/-- A slot with a record. -/
def recOk (blocks : Int) (m : Nat) (i : Int) (r : GRec) : Bool := !r.bad && (inZ r.num 0 999 && (decide (r.num.tmod m = i) && (inZ r.blk 0 (blocks - 1) && (inZ r.val 0 999 && inZ r.tail 0 r.num))))
def slotOk (blocks : Int) (m : Nat) (i : Int) (r : GRec) : Bool := isEmptyR r || (isBadR r || recOk blocks m i r)
def GLog.head (l : GLog) : Bool := inZ l.blocks 1 8 && inZ l.slots.length 2 12 && inZ l.from' 0 (l.disk.size - l.slots.length)
def GLog.allOk (l : GLog) : Nat → Bool
  | 0 => true
  | i + 1 => l.allOk i && slotOk l.blocks l.slots.length i (l.slots[i]?.getD default)
def GLog.ok (l : GLog) : Bool := l.disk.ok && (l.head && l.allOk l.slots.length)
def GLog.check (l : GLog) : Int := if !l.disk.ok then 10 else if l.head && l.allOk l.slots.length then 0 else 160
theorem GLog.check_ok {l : GLog} : l.check = 0 ↔ l.ok = true := by
  unfold GLog.check GLog.ok
  cases l.disk.ok <;> cases (l.head && l.allOk l.slots.length) <;> simp
theorem allOk_at {l : GLog} : ∀ {n : Nat}, l.allOk n = true → ∀ i, i < n → slotOk l.blocks l.slots.length i (l.slots[i]?.getD default) = true
  | 0, _, i, hi => by omega
  | n + 1, h, i, hi => by
    rw [GLog.allOk, Bool.and_eq_true] at h
    rcases (show i < n ∨ i = n by omega) with h1 | h1
    · exact allOk_at h.1 i h1
    · subst h1; exact h.2
theorem allOk_bad {l : GLog} : ∀ {n i : Nat}, i < n → slotOk l.blocks l.slots.length i (l.slots[i]?.getD default) = false → l.allOk n = false
  | 0, i, h, _ => by omega
  | n + 1, i, h, hb => by
    rw [GLog.allOk]
    rcases (show i < n ∨ i = n by omega) with h1 | h1
    · rw [allOk_bad h1 hb, Bool.false_and]
    · subst h1; rw [hb, Bool.and_false]

/-- The newest of the first records. -/
def newN (s : List GRec) : Nat → GRec
  | 0 => emptyR
  | i + 1 => if !(s[i]?.getD default).bad && decide ((newN s i).num < (s[i]?.getD default).num) then s[i]?.getD default else newN s i
def GLog.newest (l : GLog) : GRec := newN l.slots l.slots.length
theorem newN_ge (s : List GRec) : ∀ i, -1 ≤ (newN s i).num
  | 0 => by simp [newN, emptyR]
  | i + 1 => by
    have := newN_ge s i
    rw [newN]; split
    · rename_i h; simp at h; omega
    · exact this
theorem newN_in (s : List GRec) : ∀ i, i ≤ s.length → newN s i = emptyR ∨ ∃ j, j < i ∧ newN s i = s[j]?.getD default ∧ (s[j]?.getD default).bad = false
  | 0, _ => .inl rfl
  | i + 1, h => by
    rw [newN]
    by_cases hc : (!(s[i]?.getD default).bad && decide ((newN s i).num < (s[i]?.getD default).num)) = true
    · rw [if_pos hc]
      right
      refine ⟨i, by omega, rfl, ?_⟩
      simp at hc; exact hc.1
    · rw [if_neg hc]
      rcases newN_in s i (by omega) with h1 | ⟨j, h1, h2⟩
      · exact .inl h1
      · exact .inr ⟨j, by omega, h2⟩
/-- The record in the slot of a number. -/
def GLog.at' (l : GLog) (n : Int) : GRec := l.slots[(n.tmod l.slots.length).toNat]?.getD default
/-- The records from a number on, as far as they are there. -/
def GLog.keptN (l : GLog) (t : Int) (n : Nat) : List GRec := (List.range n).map fun (i : Nat) => l.at' (t + (i : Int))
def GLog.whole (l : GLog) (t : Int) : Nat → Bool
  | 0 => true
  | n + 1 => l.whole t n && (!(l.at' (t + n)).bad && decide ((l.at' (t + n)).num = t + n))
def GLog.many (l : GLog) : Nat := (l.newest.num + 1 - l.newest.tail).toNat
def GLog.kept (l : GLog) : List GRec := l.keptN l.newest.tail l.many
def GLog.full (l : GLog) : Bool := l.whole l.newest.tail l.many
theorem keptN_len (l : GLog) (t : Int) (n : Nat) : (l.keptN t n).length = n := by simp [GLog.keptN]
theorem keptN_succ (l : GLog) (t : Int) (n : Nat) : l.keptN t (n + 1) = l.keptN t n ++ [l.at' (t + n)] := by simp [GLog.keptN, List.range_succ]
theorem whole_bad {l : GLog} {t : Int} : ∀ {n i : Nat}, i < n → (!(l.at' (t + i)).bad && decide ((l.at' (t + i)).num = t + i)) = false → l.whole t n = false
  | 0, i, h, _ => by omega
  | n + 1, i, h, hb => by
    rw [GLog.whole]
    rcases (show i < n ∨ i = n by omega) with h1 | h1
    · rw [whole_bad h1 hb, Bool.false_and]
    · subst h1; rw [hb, Bool.and_false]

/-- The facts of a valid log. -/
structure GLog.Good (l : GLog) : Prop where
  d : l.disk.ok = true
  b1 : 1 ≤ l.blocks
  b2 : l.blocks ≤ 8
  m1 : 2 ≤ l.slots.length
  m2 : l.slots.length ≤ 12
  f1 : 0 ≤ l.from'
  f2 : l.from' + l.slots.length ≤ l.disk.size
  s : ∀ i, i < l.slots.length → (l.slots[i]?.getD default).bad = false → (l.slots[i]?.getD default).num ≠ -1 → (0 ≤ (l.slots[i]?.getD default).num ∧ (l.slots[i]?.getD default).num ≤ 999) ∧ (l.slots[i]?.getD default).num.tmod l.slots.length = i ∧ (0 ≤ (l.slots[i]?.getD default).blk ∧ (l.slots[i]?.getD default).blk ≤ l.blocks - 1) ∧ (0 ≤ (l.slots[i]?.getD default).val ∧ (l.slots[i]?.getD default).val ≤ 999) ∧ (0 ≤ (l.slots[i]?.getD default).tail ∧ (l.slots[i]?.getD default).tail ≤ (l.slots[i]?.getD default).num)
theorem log_good {l : GLog} (h : l.ok = true) : l.Good := by
  unfold GLog.ok GLog.head at h
  simp only [Bool.and_eq_true, inZ_iff] at h
  obtain ⟨h1, ⟨⟨h2, h3⟩, h4⟩, h5⟩ := h
  refine ⟨h1, by omega, by omega, by omega, by omega, by omega, by omega, fun i hi hb hn => ?_⟩
  have := allOk_at h5 i hi
  unfold slotOk at this
  rw [Bool.or_eq_true, Bool.or_eq_true] at this
  rcases this with h6 | h6 | h6
  · unfold isEmptyR at h6
    simp only [Bool.and_eq_true, decide_eq_true_eq] at h6
    exact absurd h6.1.1.1.1 hn
  · unfold isBadR at h6
    rw [hb] at h6; simp at h6
  · unfold recOk at h6
    simp only [Bool.and_eq_true, inZ_iff, decide_eq_true_eq] at h6
    exact ⟨h6.2.1, h6.2.2.1, h6.2.2.2.1, h6.2.2.2.2.1, h6.2.2.2.2.2⟩
theorem newN_cases (s : List GRec) : ∀ i, newN s i = emptyR ∨ -1 < (newN s i).num
  | 0 => .inl rfl
  | i + 1 => by
    rw [newN]
    split
    · rename_i hc
      simp at hc
      have := newN_ge s i
      right; omega
    · exact newN_cases s i
theorem newest_good {l : GLog} (g : l.Good) : l.newest.bad = false ∧ (-1 ≤ l.newest.num ∧ l.newest.num ≤ 999) ∧ (0 ≤ l.newest.tail ∧ l.newest.tail ≤ l.newest.num + 1) := by
  unfold GLog.newest
  rcases newN_cases l.slots l.slots.length with h | h
  · rw [h]; simp [emptyR]
  · rcases newN_in l.slots l.slots.length (Nat.le_refl _) with h1 | ⟨j, hj, h2, h3⟩
    · rw [h1]; simp [emptyR]
    · rw [h2] at h ⊢
      have := g.s j hj h3 (by omega)
      exact ⟨h3, by omega, by omega⟩
end Go.Pw
