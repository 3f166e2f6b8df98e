/- A part of the proof. -/
import Derived.Test.YtiphmemigdplgaaDoorPkLaw
set_option linter.all false
namespace Go.Pw

abbrev Zp := Int × Int
def zpD (p : Zp) : D := .agg [.int .i64 p.1, .int .i64 p.2]
theorem zpD_eq (p : Zp) : zpD p = .agg [.int .i64 p.1, .int .i64 p.2] := rfl
def zpsD (l : List Zp) : List D := l.map zpD
theorem zpsD_len (l : List Zp) : (zpsD l).length = l.length := by simp [zpsD]
theorem zpsD_unif (l : List Zp) : Unif 2 (zpsD l) = True := unif_map fun _ => rfl
theorem zpsD_empty (l : List Zp) : (zpsD l).isEmpty = l.isEmpty := by cases l <;> rfl
theorem onSome_zps {l : List Zp} {i : Nat} {A : D → Prop} : onSome (zpsD l)[i]? A = (i < l.length ∧ A (zpD (l[i]?.getD default))) := onSome_map

structure GDisk where
  heads : Int
  turn : Int
  zn : Bool
  zones : List Zp
  hskew : Int
  cskew : Int
  hlo : Int
  hhi : Int
  clo : Int
  chi : Int
def diskC (d : GDisk) : List D := [.int .i64 d.heads, .int .i64 d.turn, .list d.zn (zpsD d.zones), .int .i64 d.hskew, .int .i64 d.cskew, .int .i64 d.hlo, .int .i64 d.hhi, .int .i64 d.clo, .int .i64 d.chi]
def diskD (d : GDisk) : D := .agg (diskC d)
theorem diskC_eq (d : GDisk) : diskC d = [.int .i64 d.heads, .int .i64 d.turn, .list d.zn (zpsD d.zones), .int .i64 d.hskew, .int .i64 d.cskew, .int .i64 d.hlo, .int .i64 d.hhi, .int .i64 d.clo, .int .i64 d.chi] := rfl
theorem diskD_eq (d : GDisk) : diskD d = .agg (diskC d) := rfl

def inZ (n lo hi : Int) : Bool := decide (lo ≤ n ∧ n ≤ hi)
theorem inZ_iff {n lo hi : Int} : inZ n lo hi = true ↔ lo ≤ n ∧ n ≤ hi := by simp [inZ]
theorem inZ_no {n lo hi : Int} : inZ n lo hi = false ↔ ¬ (lo ≤ n ∧ n ≤ hi) := by simp [inZ]
theorem getDz_mem {α : Type} [Inhabited α] {l : List α} {i : Nat} (h : i < l.length) : l[i]?.getD default ∈ l := by
  rw [List.getElem?_eq_getElem h]; exact List.getElem_mem h
theorem allZ_iff {α : Type} [Inhabited α] {l : List α} {p : α → Bool} : l.all p = true ↔ ∀ (j : Nat), j < l.length → p (l[j]?.getD default) = true := by
  rw [List.all_eq_true]
  constructor
  · intro h j hj; exact h _ (getDz_mem hj)
  · intro h x hx
    obtain ⟨j, hj, rfl⟩ := List.getElem_of_mem hx
    have := h j hj
    rwa [List.getElem?_eq_getElem hj, Option.getD_some] at this
theorem allZ_bad {α : Type} [Inhabited α] {l : List α} {p : α → Bool} {j : Nat} (hj : j < l.length) (h : p (l[j]?.getD default) = false) : l.all p = false := by
  cases ha : l.all p with
  | false => rfl
  | true => rw [allZ_iff.1 ha j hj] at h; cases h

def spanOk (l h : Int) : Bool := decide (0 ≤ l ∧ l ≤ h ∧ h ≤ 2000)
theorem spanOk_iff {l h : Int} : spanOk l h = true ↔ 0 ≤ l ∧ l ≤ h ∧ h ≤ 2000 := by simp [spanOk]
def zoneOk (t : Int) (z : Zp) : Bool := inZ z.1 1 20 && inZ z.2 1 16 && decide (t.tmod z.2 = 0)
theorem zoneOk_iff {t : Int} {z : Zp} : zoneOk t z = true ↔ (1 ≤ z.1 ∧ z.1 ≤ 20) ∧ (1 ≤ z.2 ∧ z.2 ≤ 16) ∧ t.tmod z.2 = 0 := by simp [zoneOk, inZ_iff]; omega
def GDisk.head (d : GDisk) : Bool := inZ d.heads 1 4 && (inZ d.turn 1 1000 && (inZ d.zones.length 1 4 && (inZ d.hskew 0 (d.turn - 1) && inZ d.cskew 0 (d.turn - 1))))
def GDisk.ok (d : GDisk) : Bool := d.head && (spanOk d.hlo d.hhi && spanOk d.clo d.chi) && d.zones.all (zoneOk d.turn)
def GDisk.check (d : GDisk) : Int := if d.ok then 0 else 10
theorem GDisk.head_iff {d : GDisk} : d.head = true ↔ (1 ≤ d.heads ∧ d.heads ≤ 4) ∧ (1 ≤ d.turn ∧ d.turn ≤ 1000) ∧ (1 ≤ (d.zones.length : Int) ∧ (d.zones.length : Int) ≤ 4) ∧ (0 ≤ d.hskew ∧ d.hskew ≤ d.turn - 1) ∧ (0 ≤ d.cskew ∧ d.cskew ≤ d.turn - 1) := by
  simp [GDisk.head, inZ_iff]
theorem GDisk.ok_iff {d : GDisk} : d.ok = true ↔ d.head = true ∧ (0 ≤ d.hlo ∧ d.hlo ≤ d.hhi ∧ d.hhi ≤ 2000) ∧ (0 ≤ d.clo ∧ d.clo ≤ d.chi ∧ d.chi ≤ 2000) ∧ d.zones.all (zoneOk d.turn) = true := by
  simp [GDisk.ok, spanOk_iff, and_assoc]

/-! The cylinders and the tracks. -/
/-- How many sectors the tracks of each cylinder have. -/
def GDisk.secs (d : GDisk) : List Int := d.zones.flatMap fun z => List.replicate z.1.toNat z.2
def GDisk.cyls (d : GDisk) : Nat := d.secs.length
/-- The number of the tracks. -/
def GDisk.nt (d : GDisk) : Nat := d.cyls * d.heads.toNat
def GDisk.tc (d : GDisk) (k : Nat) : Int := ((k / d.heads.toNat : Nat) : Int)
def GDisk.th (d : GDisk) (k : Nat) : Int := ((k % d.heads.toNat : Nat) : Int)
def GDisk.ts (d : GDisk) (k : Nat) : Int := d.secs[k / d.heads.toNat]?.getD 0
def GDisk.tf (d : GDisk) : Nat → Int
  | 0 => 0
  | k + 1 => d.tf k + d.ts k
def GDisk.to (d : GDisk) : Nat → Int
  | 0 => 0
  | k + 1 => (d.to k + (if d.th k = d.heads - 1 then d.cskew else d.hskew)) % d.turn
def GDisk.size (d : GDisk) : Int := d.tf d.nt
/-- Where a zone begins. -/
def GDisk.base (d : GDisk) : Nat → Nat
  | 0 => 0
  | i + 1 => d.base i + (d.zones[i]?.getD default).1.toNat

structure GTrack where
  cyl : Int
  head : Int
  sec : Int
  first : Int
  off : Int
def trackC (t : GTrack) : List D := [.int .i64 t.cyl, .int .i64 t.head, .int .i64 t.sec, .int .i64 t.first, .int .i64 t.off]
def trackD (t : GTrack) : D := .agg (trackC t)
theorem trackC_eq (t : GTrack) : trackC t = [.int .i64 t.cyl, .int .i64 t.head, .int .i64 t.sec, .int .i64 t.first, .int .i64 t.off] := rfl
theorem trackD_eq (t : GTrack) : trackD t = .agg (trackC t) := rfl
def GDisk.track (d : GDisk) (k : Nat) : GTrack := ⟨d.tc k, d.th k, d.ts k, d.tf k, d.to k⟩
def GDisk.tracks (d : GDisk) : List (List D) := (List.range d.nt).map fun k => [trackD (d.track k)]
theorem tracks_len (d : GDisk) : d.tracks.length = d.nt := by simp [GDisk.tracks]
theorem tracks_get {d : GDisk} {k : Nat} {ds : List D} (h : d.tracks[k]? = some ds) : k < d.nt ∧ ds = [trackD (d.track k)] := by
  unfold GDisk.tracks at h
  rw [List.getElem?_map] at h
  by_cases hk : k < d.nt
  · rw [List.getElem?_eq_getElem (by simpa using hk)] at h
    simp at h; exact ⟨hk, h.symm⟩
  · rw [List.getElem?_eq_none (by simpa using hk)] at h; cases h
theorem tracks_at {d : GDisk} {k : Nat} (hk : k < d.nt) : d.tracks[k]? = some [trackD (d.track k)] := by
  unfold GDisk.tracks
  rw [List.getElem?_map, List.getElem?_eq_getElem (by simpa using hk)]; simp

theorem flat_get (zs : List Zp) (i j : Nat) (hi : i < zs.length) (hj : j < (zs[i]?.getD default).1.toNat) (b : Nat) (hb : b = ((zs.take i).map fun z => z.1.toNat).sum) :
    (zs.flatMap fun z => List.replicate z.1.toNat z.2)[b + j]? = some (zs[i]?.getD default).2 := by
  induction zs generalizing i b with
  | nil => simp at hi
  | cons z zs ih =>
    cases i with
    | zero =>
      simp at hb hj; subst hb
      rw [List.flatMap_cons, List.getElem?_append_left (by simpa using hj)]
      simp [hj]
    | succ i =>
      simp at hi
      replace hj : j < (zs[i]?.getD default).1.toNat := by simpa using hj
      rw [List.take_succ_cons, List.map_cons, List.sum_cons] at hb
      subst hb
      rw [List.flatMap_cons, List.getElem?_append_right (by simp; omega)]
      simp only [List.length_replicate]
      rw [show z.1.toNat + ((zs.take i).map fun z => z.1.toNat).sum + j - z.1.toNat = ((zs.take i).map fun z => z.1.toNat).sum + j by omega]
      simpa using ih i hi hj _ rfl
theorem base_eq (d : GDisk) : ∀ i, i ≤ d.zones.length → d.base i = ((d.zones.take i).map fun z => z.1.toNat).sum
  | 0, _ => by simp [GDisk.base]
  | i + 1, h => by
    rw [GDisk.base, base_eq d i (by omega), List.take_add_one]
    have : d.zones[i]? = some (d.zones[i]?.getD default) := by rw [List.getElem?_eq_getElem (by omega)]; rfl
    rw [this]; simp
theorem secs_at (d : GDisk) (i j : Nat) (hi : i < d.zones.length) (hj : j < (d.zones[i]?.getD default).1.toNat) : d.secs[d.base i + j]? = some (d.zones[i]?.getD default).2 :=
  flat_get d.zones i j hi hj _ (base_eq d i (by omega))
theorem base_len (d : GDisk) : d.base d.zones.length = d.cyls := by
  rw [base_eq d _ (Nat.le_refl _), List.take_length, GDisk.cyls, GDisk.secs, List.length_flatMap]; simp
theorem base_le (d : GDisk) : ∀ i j, i ≤ j → d.base i ≤ d.base j
  | i, j, h => by
    induction j with
    | zero => have : i = 0 := by omega
              subst this; exact Nat.le_refl _
    | succ j ih =>
      rcases Nat.lt_or_ge i (j + 1) with h1 | h1
      · have := ih (by omega); rw [GDisk.base]; omega
      · have : i = j + 1 := by omega
        subst this; exact Nat.le_refl _
theorem getZ_some {α : Type} [Inhabited α] {l : List α} {i : Nat} (h : i < l.length) : l[i]? = some (l[i]?.getD default) := by rw [List.getElem?_eq_getElem h]; rfl

/-- The facts of a valid disk. -/
structure GDisk.Good (d : GDisk) : Prop where
  h1 : 1 ≤ d.heads
  h2 : d.heads ≤ 4
  t1 : 1 ≤ d.turn
  t2 : d.turn ≤ 1000
  z1 : 1 ≤ d.zones.length
  z2 : d.zones.length ≤ 4
  k1 : 0 ≤ d.hskew
  k2 : d.hskew < d.turn
  c1 : 0 ≤ d.cskew
  c2 : d.cskew < d.turn
  s1 : 0 ≤ d.hlo
  s2 : d.hlo ≤ d.hhi
  s3 : d.hhi ≤ 2000
  s4 : 0 ≤ d.clo
  s5 : d.clo ≤ d.chi
  s6 : d.chi ≤ 2000
  z : ∀ i, i < d.zones.length → 1 ≤ (d.zones[i]?.getD default).1 ∧ (d.zones[i]?.getD default).1 ≤ 20 ∧ 1 ≤ (d.zones[i]?.getD default).2 ∧ (d.zones[i]?.getD default).2 ≤ 16 ∧ d.turn.tmod (d.zones[i]?.getD default).2 = 0
theorem good_of {d : GDisk} (h : d.ok = true) : d.Good := by
  obtain ⟨h1, h2, h3, h4⟩ := GDisk.ok_iff.1 h
  obtain ⟨a, b, c, e, f⟩ := GDisk.head_iff.1 h1
  refine ⟨by omega, by omega, by omega, by omega, by omega, by omega, by omega, by omega, by omega, by omega, by omega, by omega, by omega, by omega, by omega, by omega, fun i hi => ?_⟩
  have := zoneOk_iff.1 (allZ_iff.1 h4 i hi)
  omega
section
variable {d : GDisk} (g : d.Good)
theorem GDisk.Good.hn (g : d.Good) : ((d.heads.toNat : Nat) : Int) = d.heads := by have := g.h1; omega
theorem GDisk.Good.hp (g : d.Good) : 0 < d.heads.toNat := by have := g.h1; omega
theorem GDisk.Good.secs (g : d.Good) {x : Int} (hx : x ∈ d.secs) : 1 ≤ x ∧ x ≤ 16 ∧ d.turn.tmod x = 0 := by
  unfold GDisk.secs at hx
  obtain ⟨z, hz, hx⟩ := List.mem_flatMap.1 hx
  have := List.eq_of_mem_replicate hx
  subst this
  obtain ⟨i, hi, rfl⟩ := List.getElem_of_mem hz
  have := g.z i hi
  rw [List.getElem?_eq_getElem hi, Option.getD_some] at this
  omega
theorem GDisk.Good.base (g : d.Good) : ∀ i, i ≤ d.zones.length → d.base i ≤ 20 * i
  | 0, _ => by simp [GDisk.base]
  | i + 1, h => by
    have := GDisk.Good.base g i (by omega)
    have := g.z i (by omega)
    rw [GDisk.base]; omega
theorem GDisk.Good.cyls (g : d.Good) : d.cyls ≤ 80 := by
  have := g.base d.zones.length (Nat.le_refl _)
  rw [base_len] at this
  have := g.z2
  omega
theorem div_lt_of (n H C : Nat) (hk : n < C * H) : n / H < C := Nat.div_lt_of_lt_mul (by rw [Nat.mul_comm]; exact hk)
theorem GDisk.Good.ts (g : d.Good) {k : Nat} (hk : k < d.nt) : 1 ≤ d.ts k ∧ d.ts k ≤ 16 ∧ d.turn.tmod (d.ts k) = 0 := by
  have h1 : k / d.heads.toNat < d.secs.length := div_lt_of _ _ _ hk
  unfold GDisk.ts
  rw [List.getElem?_eq_getElem h1]
  exact g.secs (List.getElem_mem h1)
theorem GDisk.Good.tf (g : d.Good) : ∀ k, k ≤ d.nt → (k : Int) ≤ d.tf k ∧ d.tf k ≤ 16 * k
  | 0, _ => by simp [GDisk.tf]
  | k + 1, h => by
    have h1 := GDisk.Good.tf g k (by omega)
    have h2 := g.ts (k := k) (by omega)
    rw [GDisk.tf]; omega
theorem GDisk.Good.nt (g : d.Good) : d.nt ≤ 320 := by
  have h1 := g.cyls
  have h2 := g.h2
  unfold GDisk.nt
  calc d.cyls * d.heads.toNat ≤ 80 * 4 := Nat.mul_le_mul h1 (by omega)
    _ = 320 := rfl
theorem GDisk.Good.to (g : d.Good) : ∀ k, 0 ≤ d.to k ∧ d.to k < d.turn
  | 0 => by have := g.t1; rw [GDisk.to]; omega
  | k + 1 => by
    have := g.t1
    rw [GDisk.to]
    exact ⟨Int.emod_nonneg _ (by omega), Int.emod_lt_of_pos _ (by omega)⟩
theorem tc_at (c h : Nat) (hh : h < d.heads.toNat) : d.tc (c * d.heads.toNat + h) = c := by
  unfold GDisk.tc
  rw [Nat.mul_comm, Nat.mul_add_div (by omega), Nat.div_eq_of_lt hh]; simp
theorem th_at (c h : Nat) (hh : h < d.heads.toNat) : d.th (c * d.heads.toNat + h) = h := by
  unfold GDisk.th
  rw [Nat.mul_comm, Nat.mul_add_mod, Nat.mod_eq_of_lt hh]
theorem ts_at (c h : Nat) (hh : h < d.heads.toNat) : d.ts (c * d.heads.toNat + h) = d.secs[c]?.getD 0 := by
  unfold GDisk.ts
  rw [Nat.mul_comm, Nat.mul_add_div (by omega), Nat.div_eq_of_lt hh]; simp
end

/-! Numbers and places. -/
/-- The track holds the sector with this number. -/
def GDisk.holds (d : GDisk) (n : Int) (k : Nat) : Prop := d.tf k ≤ n ∧ n < d.tf k + d.ts k
instance (d : GDisk) (n : Int) (k : Nat) : Decidable (d.holds n k) := by unfold GDisk.holds; infer_instance
def GDisk.kOf (d : GDisk) (n : Int) : Option Nat := (List.range d.nt).find? fun k => decide (d.holds n k)
/-- The track of a place. -/
def GDisk.isAt (d : GDisk) (c h s : Int) (k : Nat) : Prop := (d.tc k = c ∧ d.th k = h) ∧ 0 ≤ s ∧ s ≤ d.ts k - 1
instance (d : GDisk) (c h s : Int) (k : Nat) : Decidable (d.isAt c h s k) := by unfold GDisk.isAt; infer_instance
def GDisk.kAt (d : GDisk) (c h s : Int) : Option Nat := (List.range d.nt).find? fun k => decide (d.isAt c h s k)
theorem tf_mono {d : GDisk} (g : d.Good) {i j : Nat} (h : i < j) (hj : j ≤ d.nt) : d.tf i + d.ts i ≤ d.tf j := by
  induction j with
  | zero => omega
  | succ j ih =>
    rw [GDisk.tf]
    by_cases hi : i = j
    · subst hi; omega
    · have := ih (by omega) (by omega)
      have := g.ts (k := j) (by omega)
      omega
theorem holds_unique {d : GDisk} (g : d.Good) {n : Int} {i j : Nat} (hi : i < d.nt) (hj : j < d.nt) (h1 : d.holds n i) (h2 : d.holds n j) : i = j := by
  unfold GDisk.holds at h1 h2
  rcases Nat.lt_trichotomy i j with h | h | h
  · have := tf_mono g h (by omega); omega
  · exact h
  · have := tf_mono g h (by omega); omega
theorem range_find_some {p : Nat → Bool} {n k : Nat} (h : (List.range n).find? p = some k) : k < n ∧ p k = true :=
  ⟨by simpa using List.mem_of_find?_eq_some h, List.find?_some h⟩
theorem range_find_none {p : Nat → Bool} {n : Nat} : (List.range n).find? p = none ↔ ∀ k, k < n → p k = false := by
  rw [List.find?_eq_none]; simp
theorem kOf_none {d : GDisk} {n : Int} : d.kOf n = none ↔ ∀ k, k < d.nt → ¬ d.holds n k := by
  unfold GDisk.kOf; rw [range_find_none]; simp
theorem kOf_spec {d : GDisk} {n : Int} {k : Nat} (h : d.kOf n = some k) : k < d.nt ∧ d.holds n k := by
  obtain ⟨h1, h2⟩ := range_find_some h; exact ⟨h1, by simpa using h2⟩
theorem kOf_some {d : GDisk} (g : d.Good) {n : Int} {k : Nat} (hk : k < d.nt) (h : d.holds n k) : d.kOf n = some k := by
  cases hf : d.kOf n with
  | none => exact absurd h (kOf_none.1 hf k hk)
  | some j => rw [holds_unique g (kOf_spec hf).1 hk (kOf_spec hf).2 h]
theorem kAt_none {d : GDisk} {c h s : Int} : d.kAt c h s = none ↔ ∀ k, k < d.nt → ¬ d.isAt c h s k := by
  unfold GDisk.kAt; rw [range_find_none]; simp
theorem kAt_spec {d : GDisk} {c h s : Int} {k : Nat} (hh : d.kAt c h s = some k) : k < d.nt ∧ d.isAt c h s k := by
  obtain ⟨h1, h2⟩ := range_find_some hh; exact ⟨h1, by simpa using h2⟩
theorem tch_inj {d : GDisk} {i j : Nat} (h1 : d.tc i = d.tc j) (h2 : d.th i = d.th j) : i = j := by
  unfold GDisk.tc at h1; unfold GDisk.th at h2
  rw [← Nat.div_add_mod i d.heads.toNat, ← Nat.div_add_mod j d.heads.toNat]
  have a : i / d.heads.toNat = j / d.heads.toNat := by omega
  have b : i % d.heads.toNat = j % d.heads.toNat := by omega
  rw [a, b]
theorem kAt_some {d : GDisk} {c h s : Int} {k : Nat} (hk : k < d.nt) (hh : d.isAt c h s k) : d.kAt c h s = some k := by
  cases hf : d.kAt c h s with
  | none => exact absurd hh (kAt_none.1 hf k hk)
  | some j => rw [tch_inj ((kAt_spec hf).2.1.1.trans hh.1.1.symm) ((kAt_spec hf).2.1.2.trans hh.1.2.symm)]
/-- Each number below the size is held by a track. -/
theorem kOf_all {d : GDisk} (g : d.Good) : ∀ (m : Nat), m ≤ d.nt → ∀ n : Int, 0 ≤ n → n < d.tf m → ∃ k, k < m ∧ d.holds n k
  | 0, _, n, h0, h1 => by simp [GDisk.tf] at h1; omega
  | m + 1, hm, n, h0, h1 => by
    by_cases h : n < d.tf m
    · obtain ⟨k, hk, hh⟩ := kOf_all g m (by omega) n h0 h
      exact ⟨k, by omega, hh⟩
    · rw [GDisk.tf] at h1
      exact ⟨m, by omega, by unfold GDisk.holds; omega⟩
theorem kOf_iff {d : GDisk} (g : d.Good) (n : Int) : (d.kOf n).isSome = true ↔ 0 ≤ n ∧ n < d.size := by
  constructor
  · intro h
    obtain ⟨k, hk⟩ := Option.isSome_iff_exists.1 h
    obtain ⟨h1, h2⟩ := kOf_spec hk
    have h3 := tf_mono g h1 (Nat.le_refl _)
    have h4 := g.tf k (by omega)
    unfold GDisk.holds at h2
    unfold GDisk.size; omega
  · intro h
    obtain ⟨k, hk, hh⟩ := kOf_all g d.nt (Nat.le_refl _) n h.1 h.2
    rw [kOf_some g hk hh]; rfl
def zeroT : GTrack := ⟨0, 0, 0, 0, 0⟩
theorem zeroT_eq : zeroT = ⟨0, 0, 0, 0, 0⟩ := rfl
def GDisk.find (d : GDisk) (n : Int) : GTrack × Int := if d.ok then (match d.kOf n with | some k => (d.track k, 0) | none => (zeroT, 1)) else (zeroT, 10)
def GDisk.number (d : GDisk) (c h s : Int) : Int × Int := if d.ok then (match d.kAt c h s with | some k => (d.tf k + s, 0) | none => (0, 1)) else (0, 10)
end Go.Pw
