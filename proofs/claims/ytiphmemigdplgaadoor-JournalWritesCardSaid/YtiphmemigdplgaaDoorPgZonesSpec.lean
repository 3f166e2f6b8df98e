/- A part of the proof. -/
import Derived.Test.YtiphmemigdplgaaDoorPkLaw
set_option linter.all false
section
namespace Go.Pw

abbrev Zp := Int × Int
def zpD (p : Zp) : D := .agg [.int .i64 p.1, .int .i64 p.2]
theorem zpD_eq (p : Zp) : zpD p = .agg [.int .i64 p.1, .int .i64 p.2] := rfl
def zpsD (l : List Zp) : List D := l.map zpD
theorem zpsD_len (l : List Zp) : (zpsD l).length = l.length := by simp [zpsD]
theorem zpsD_unif (l : List Zp) : Unif 2 (zpsD l) = True := unif_map fun _ => rfl
theorem zpsD_empty (l : List Zp) : (zpsD l).isEmpty = l.isEmpty := by cases l <;> rfl
theorem onSome_zps {l : List Zp} {i : Nat} {A : D → Prop} : onSome (zpsD l)[i]? A = (i < l.length ∧ A (zpD (l[i]?.getD default))) := onSome_map

structure GDisk where
  heads : Int
  turn : Int
  zn : Bool
  zones : List Zp
  hskew : Int
  cskew : Int
  hlo : Int
  hhi : Int
  clo : Int
  chi : Int
def diskC (d : GDisk) : List D := [.int .i64 d.heads, .int .i64 d.turn, .list d.zn (zpsD d.zones), .int .i64 d.hskew, .int .i64 d.cskew, .int .i64 d.hlo, .int .i64 d.hhi, .int .i64 d.clo, .int .i64 d.chi]
def diskD (d : GDisk) : D := .agg (diskC d)
theorem diskC_eq (d : GDisk) : diskC d = [.int .i64 d.heads, .int .i64 d.turn, .list d.zn (zpsD d.zones), .int .i64 d.hskew, .int .i64 d.cskew, .int .i64 d.hlo, .int .i64 d.hhi, .int .i64 d.clo, .int .i64 d.chi] := rfl
theorem diskD_eq (d : GDisk) : diskD d = .agg (diskC d) := rfl

def inZ (n lo hi : Int) : Bool := decide (lo ≤ n ∧ n ≤ hi)
theorem inZ_iff {n lo hi : Int} : inZ n lo hi = true ↔ lo ≤ n ∧ n ≤ hi := by simp [inZ]
theorem inZ_no {n lo hi : Int} : inZ n lo hi = false ↔ ¬ (lo ≤ n ∧ n ≤ hi) := by simp [inZ]
theorem getDz_mem {α : Type} [Inhabited α] {l : List α} {i : Nat} (h : i < l.length) : l[i]?.getD default ∈ l := by
  rw [List.getElem?_eq_getElem h]; exact List.getElem_mem h
theorem allZ_iff {α : Type} [Inhabited α] {l : List α} {p : α → Bool} : l.all p = true ↔ ∀ (j : Nat), j < l.length → p (l[j]?.getD default) = true := by
  rw [List.all_eq_true]
  constructor
  · intro h j hj; exact h _ (getDz_mem hj)
  · intro h x hx
    obtain ⟨j, hj, rfl⟩ := List.getElem_of_mem hx
    have := h j hj
    rwa [List.getElem?_eq_getElem hj, Option.getD_some] at this
theorem allZ_bad {α : Type} [Inhabited α] {l : List α} {p : α → Bool} {j : Nat} (hj : j < l.length) (h : p (l[j]?.getD default) = false) : l.all p = false := by
  cases ha : l.all p with
  | false => rfl
  | true => rw [allZ_iff.1 ha j hj] at h; cases h

def spanOk (l h : Int) : Bool := decide (0 ≤ l ∧ l ≤ h ∧ h ≤ 2000)
theorem spanOk_iff {l h : Int} : spanOk l h = true ↔ 0 ≤ l ∧ l ≤ h ∧ h ≤ 2000 := by simp [spanOk]
def zoneOk (t : Int) (z : Zp) : Bool := inZ z.1 1 20 && inZ z.2 1 16 && decide (t.tmod z.2 = 0)
theorem zoneOk_iff {t : Int} {z : Zp} : zoneOk t z = true ↔ (1 ≤ z.1 ∧ z.1 ≤ 20) ∧ (1 ≤ z.2 ∧ z.2 ≤ 16) ∧ t.tmod z.2 = 0 := by simp [zoneOk, inZ_iff]; omega
def GDisk.head (d : GDisk) : Bool := inZ d.heads 1 4 && (inZ d.turn 1 1000 && (inZ d.zones.length 1 4 && (inZ d.hskew 0 (d.turn - 1) && inZ d.cskew 0 (d.turn - 1))))
def GDisk.ok (d : GDisk) : Bool := d.head && (spanOk d.hlo d.hhi && spanOk d.clo d.chi) && d.zones.all (zoneOk d.turn)
def GDisk.check (d : GDisk) : Int := if d.ok then 0 else 10
theorem GDisk.head_iff {d : GDisk} : d.head = true ↔ (1 ≤ d.heads ∧ d.heads ≤ 4) ∧ (1 ≤ d.turn ∧ d.turn ≤ 1000) ∧ (1 ≤ (d.zones.length : Int) ∧ (d.zones.length : Int) ≤ 4) ∧ (0 ≤ d.hskew ∧ d.hskew ≤ d.turn - 1) ∧ (0 ≤ d.cskew ∧ d.cskew ≤ d.turn - 1) := by
  simp [GDisk.head, inZ_iff]
theorem GDisk.ok_iff {d : GDisk} : d.ok = true ↔ d.head = true ∧ (0 ≤ d.hlo ∧ d.hlo ≤ d.hhi ∧ d.hhi ≤ 2000) ∧ (0 ≤ d.clo ∧ d.clo ≤ d.chi ∧ d.chi ≤ 2000) ∧ d.zones.all (zoneOk d.turn) = true := by
  simp [GDisk.ok, spanOk_iff, and_assoc]

/-! The cylinders and the tracks. -/
/-- How many sectors the tracks of each cylinder have. -/
def GDisk.secs (d : GDisk) : List Int := d.zones.flatMap fun z => List.replicate z.1.toNat z.2
def GDisk.cyls (d : GDisk) : Nat := d.secs.length
/-- The number of the tracks. -/
def GDisk.nt (d : GDisk) : Nat := d.cyls * d.heads.toNat
def GDisk.tc (d : GDisk) (k : Nat) : Int := ((k / d.heads.toNat : Nat) : Int)
def GDisk.th (d : GDisk) (k : Nat) : Int := ((k % d.heads.toNat : Nat) : Int)
def GDisk.ts (d : GDisk) (k : Nat) : Int := d.secs[k / d.heads.toNat]?.getD 0
def GDisk.tf (d : GDisk) : Nat → Int
  | 0 => 0
  | k + 1 => d.tf k + d.ts k
def GDisk.to (d : GDisk) : Nat → Int
  | 0 => 0
  | k + 1 => (d.to k + (if d.th k = d.heads - 1 then d.cskew else d.hskew)) % d.turn
def GDisk.size (d : GDisk) : Int := d.tf d.nt
/-- Where a zone begins. -/
def GDisk.base (d : GDisk) : Nat → Nat
  | 0 => 0
  | i + 1 => d.base i + (d.zones[i]?.getD default).1.toNat

structure GTrack where
  cyl : Int
  head : Int
  sec : Int
  first : Int
  off : Int
def trackC (t : GTrack) : List D := [.int .i64 t.cyl, .int .i64 t.head, .int .i64 t.sec, .int .i64 t.first, .int .i64 t.off]
def trackD (t : GTrack) : D := .agg (trackC t)
theorem trackC_eq (t : GTrack) : trackC t = [.int .i64 t.cyl, .int .i64 t.head, .int .i64 t.sec, .int .i64 t.first, .int .i64 t.off] := rfl
theorem trackD_eq (t : GTrack) : trackD t = .agg (trackC t) := rfl
def GDisk.track (d : GDisk) (k : Nat) : GTrack := ⟨d.tc k, d.th k, d.ts k, d.tf k, d.to k⟩
def GDisk.tracks (d : GDisk) : List (List D) := (List.range d.nt).map fun k => [trackD (d.track k)]
theorem tracks_len (d : GDisk) : d.tracks.length = d.nt := by simp [GDisk.tracks]
theorem tracks_get {d : GDisk} {k : Nat} {ds : List D} (h : d.tracks[k]? = some ds) : k < d.nt ∧ ds = [trackD (d.track k)] := by
  unfold GDisk.tracks at h
  rw [List.getElem?_map] at h
  by_cases hk : k < d.nt
  · rw [List.getElem?_eq_getElem (by simpa using hk)] at h
    simp at h; exact ⟨hk, h.symm⟩
  · rw [List.getElem?_eq_none (by simpa using hk)] at h; cases h
theorem tracks_at {d : GDisk} {k : Nat} (hk : k < d.nt) : d.tracks[k]? = some [trackD (d.track k)] := by
  unfold GDisk.tracks
  rw [List.getElem?_map, List.getElem?_eq_getElem (by simpa using hk)]; simp

theorem flat_get (zs : List Zp) (i j : Nat) (hi : i < zs.length) (hj : j < (zs[i]?.getD default).1.toNat) (b : Nat) (hb : b = ((zs.take i).map fun z => z.1.toNat).sum) :
    (zs.flatMap fun z => List.replicate z.1.toNat z.2)[b + j]? = some (zs[i]?.getD default).2 := by
  induction zs generalizing i b with
  | nil => simp at hi
  | cons z zs ih =>
    cases i with
    | zero =>
      simp at hb hj; subst hb
      rw [List.flatMap_cons, List.getElem?_append_left (by simpa using hj)]
      simp [hj]
    | succ i =>
      simp at hi
      replace hj : j < (zs[i]?.getD default).1.toNat := by simpa using hj
      rw [List.take_succ_cons, List.map_cons, List.sum_cons] at hb
      subst hb
      rw [List.flatMap_cons, List.getElem?_append_right (by simp; omega)]
      simp only [List.length_replicate]
      rw [show z.1.toNat + ((zs.take i).map fun z => z.1.toNat).sum + j - z.1.toNat = ((zs.take i).map fun z => z.1.toNat).sum + j by omega]
      simpa using ih i hi hj _ rfl
theorem base_eq (d : GDisk) : ∀ i, i ≤ d.zones.length → d.base i = ((d.zones.take i).map fun z => z.1.toNat).sum
  | 0, _ => by simp [GDisk.base]
  | i + 1, h => by
    rw [GDisk.base, base_eq d i (by omega), List.take_add_one]
    have : d.zones[i]? = some (d.zones[i]?.getD default) := by rw [List.getElem?_eq_getElem (by omega)]; rfl
    rw [this]; simp
theorem secs_at (d : GDisk) (i j : Nat) (hi : i < d.zones.length) (hj : j < (d.zones[i]?.getD default).1.toNat) : d.secs[d.base i + j]? = some (d.zones[i]?.getD default).2 :=
  flat_get d.zones i j hi hj _ (base_eq d i (by omega))
theorem base_len (d : GDisk) : d.base d.zones.length = d.cyls := by
  rw [base_eq d _ (Nat.le_refl _), List.take_length, GDisk.cyls, GDisk.secs, List.length_flatMap]; simp
theorem base_le (d : GDisk) : ∀ i j, i ≤ j → d.base i ≤ d.base j
  | i, j, h => by
    induction j with
    | zero => have : i = 0 := by omega
              subst this; exact Nat.le_refl _
    | succ j ih =>
      rcases Nat.lt_or_ge i (j + 1) with h1 | h1
      · have := ih (by omega); rw [GDisk.base]; omega
      · have : i = j + 1 := by omega
        subst this; exact Nat.le_refl _
theorem getZ_some {α : Type} [Inhabited α] {l : List α} {i : Nat} (h : i < l.length) : l[i]? = some (l[i]?.getD default) := by rw [List.getElem?_eq_getElem h]; rfl

/-- The facts of a valid disk. -/
structure GDisk.Good (d : GDisk) : Prop where
  h1 : 1 ≤ d.heads
  h2 : d.heads ≤ 4
  t1 : 1 ≤ d.turn
  t2 : d.turn ≤ 1000
  z1 : 1 ≤ d.zones.length
  z2 : d.zones.length ≤ 4
  k1 : 0 ≤ d.hskew
  k2 : d.hskew < d.turn
  c1 : 0 ≤ d.cskew
  c2 : d.cskew < d.turn
  s1 : 0 ≤ d.hlo
  s2 : d.hlo ≤ d.hhi
  s3 : d.hhi ≤ 2000
  s4 : 0 ≤ d.clo
  s5 : d.clo ≤ d.chi
  s6 : d.chi ≤ 2000
  z : ∀ i, i < d.zones.length → 1 ≤ (d.zones[i]?.getD default).1 ∧ (d.zones[i]?.getD default).1 ≤ 20 ∧ 1 ≤ (d.zones[i]?.getD default).2 ∧ (d.zones[i]?.getD default).2 ≤ 16 ∧ d.turn.tmod (d.zones[i]?.getD default).2 = 0
theorem good_of {d : GDisk} (h : d.ok = true) : d.Good := by
  obtain ⟨h1, h2, h3, h4⟩ := GDisk.ok_iff.1 h
  obtain ⟨a, b, c, e, f⟩ := GDisk.head_iff.1 h1
  refine ⟨by omega, by omega, by omega, by omega, by omega, by omega, by omega, by omega, by omega, by omega, by omega, by omega, by omega, by omega, by omega, by omega, fun i hi => ?_⟩
  have := zoneOk_iff.1 (allZ_iff.1 h4 i hi)
  omega
section
variable {d : GDisk} (g : d.Good)
theorem GDisk.Good.hn (g : d.Good) : ((d.heads.toNat : Nat) : Int) = d.heads := by have := g.h1; omega
theorem GDisk.Good.hp (g : d.Good) : 0 < d.heads.toNat := by have := g.h1; omega
theorem GDisk.Good.secs (g : d.Good) {x : Int} (hx : x ∈ d.secs) : 1 ≤ x ∧ x ≤ 16 ∧ d.turn.tmod x = 0 := by
  unfold GDisk.secs at hx
  obtain ⟨z, hz, hx⟩ := List.mem_flatMap.1 hx
  have := List.eq_of_mem_replicate hx
  subst this
  obtain ⟨i, hi, rfl⟩ := List.getElem_of_mem hz
  have := g.z i hi
  rw [List.getElem?_eq_getElem hi, Option.getD_some] at this
  omega
theorem GDisk.Good.base (g : d.Good) : ∀ i, i ≤ d.zones.length → d.base i ≤ 20 * i
  | 0, _ => by simp [GDisk.base]
  | i + 1, h => by
    have := GDisk.Good.base g i (by omega)
    have := g.z i (by omega)
    rw [GDisk.base]; omega
theorem GDisk.Good.cyls (g : d.Good) : d.cyls ≤ 80 := by
  have := g.base d.zones.length (Nat.le_refl _)
  rw [base_len] at this
  have := g.z2
  omega
theorem div_lt_of (n H C : Nat) (hk : n < C * H) : n / H < C := Nat.div_lt_of_lt_mul (by rw [Nat.mul_comm]; exact hk)
theorem GDisk.Good.ts (g : d.Good) {k : Nat} (hk : k < d.nt) : 1 ≤ d.ts k ∧ d.ts k ≤ 16 ∧ d.turn.tmod (d.ts k) = 0 := by
  have h1 : k / d.heads.toNat < d.secs.length := div_lt_of _ _ _ hk
  unfold GDisk.ts
  rw [List.getElem?_eq_getElem h1]
  exact g.secs (List.getElem_mem h1)
theorem GDisk.Good.tf (g : d.Good) : ∀ k, k ≤ d.nt → (k : Int) ≤ d.tf k ∧ d.tf k ≤ 16 * k
  | 0, _ => by simp [GDisk.tf]
  | k + 1, h => by
    have h1 := GDisk.Good.tf g k (by omega)
    have h2 := g.ts (k := k) (by omega)
    rw [GDisk.tf]; omega
theorem GDisk.Good.nt (g : d.Good) : d.nt ≤ 320 := by
  have h1 := g.cyls
  have h2 := g.h2
  unfold GDisk.nt
  calc d.cyls * d.heads.toNat ≤ 80 * 4 := Nat.mul_le_mul h1 (by omega)
    _ = 320 := rfl
theorem GDisk.Good.to (g : d.Good) : ∀ k, 0 ≤ d.to k ∧ d.to k < d.turn
  | 0 => by have := g.t1; rw [GDisk.to]; omega
  | k + 1 => by
    have := g.t1
    rw [GDisk.to]
    exact ⟨Int.emod_nonneg _ (by omega), Int.emod_lt_of_pos _ (by omega)⟩
theorem tc_at (c h : Nat) (hh : h < d.heads.toNat) : d.tc (c * d.heads.toNat + h) = c := by
  unfold GDisk.tc
  rw [Nat.mul_comm, Nat.mul_add_div (by omega), Nat.div_eq_of_lt hh]; simp
theorem th_at (c h : Nat) (hh : h < d.heads.toNat) : d.th (c * d.heads.toNat + h) = h := by
  unfold GDisk.th
  rw [Nat.mul_comm, Nat.mul_add_mod, Nat.mod_eq_of_lt hh]
theorem ts_at (c h : Nat) (hh : h < d.heads.toNat) : d.ts (c * d.heads.toNat + h) = d.secs[c]?.getD 0 := by
  unfold GDisk.ts
  rw [Nat.mul_comm, Nat.mul_add_div (by omega), Nat.div_eq_of_lt hh]; simp
end

/-! Numbers and places. -/
/-- The track holds the sector with this number. -/
def GDisk.holds (d : GDisk) (n : Int) (k : Nat) : Prop := d.tf k ≤ n ∧ n < d.tf k + d.ts k
instance (d : GDisk) (n : Int) (k : Nat) : Decidable (d.holds n k) := by unfold GDisk.holds; infer_instance
def GDisk.kOf (d : GDisk) (n : Int) : Option Nat := (List.range d.nt).find? fun k => decide (d.holds n k)
/-- The track of a place. -/
def GDisk.isAt (d : GDisk) (c h s : Int) (k : Nat) : Prop := (d.tc k = c ∧ d.th k = h) ∧ 0 ≤ s ∧ s ≤ d.ts k - 1
instance (d : GDisk) (c h s : Int) (k : Nat) : Decidable (d.isAt c h s k) := by unfold GDisk.isAt; infer_instance
def GDisk.kAt (d : GDisk) (c h s : Int) : Option Nat := (List.range d.nt).find? fun k => decide (d.isAt c h s k)
theorem tf_mono {d : GDisk} (g : d.Good) {i j : Nat} (h : i < j) (hj : j ≤ d.nt) : d.tf i + d.ts i ≤ d.tf j := by
  induction j with
  | zero => omega
  | succ j ih =>
    rw [GDisk.tf]
    by_cases hi : i = j
    · subst hi; omega
    · have := ih (by omega) (by omega)
      have := g.ts (k := j) (by omega)
      omega
theorem holds_unique {d : GDisk} (g : d.Good) {n : Int} {i j : Nat} (hi : i < d.nt) (hj : j < d.nt) (h1 : d.holds n i) (h2 : d.holds n j) : i = j := by
  unfold GDisk.holds at h1 h2
  rcases Nat.lt_trichotomy i j with h | h | h
  · have := tf_mono g h (by omega); omega
  · exact h
  · have := tf_mono g h (by omega); omega
theorem range_find_some {p : Nat → Bool} {n k : Nat} (h : (List.range n).find? p = some k) : k < n ∧ p k = true :=
  ⟨by simpa using List.mem_of_find?_eq_some h, List.find?_some h⟩
theorem range_find_none {p : Nat → Bool} {n : Nat} : (List.range n).find? p = none ↔ ∀ k, k < n → p k = false := by
  rw [List.find?_eq_none]; simp
theorem kOf_none {d : GDisk} {n : Int} : d.kOf n = none ↔ ∀ k, k < d.nt → ¬ d.holds n k := by
  unfold GDisk.kOf; rw [range_find_none]; simp
theorem kOf_spec {d : GDisk} {n : Int} {k : Nat} (h : d.kOf n = some k) : k < d.nt ∧ d.holds n k := by
  obtain ⟨h1, h2⟩ := range_find_some h; exact ⟨h1, by simpa using h2⟩
theorem kOf_some {d : GDisk} (g : d.Good) {n : Int} {k : Nat} (hk : k < d.nt) (h : d.holds n k) : d.kOf n = some k := by
  cases hf : d.kOf n with
  | none => exact absurd h (kOf_none.1 hf k hk)
  | some j => rw [holds_unique g (kOf_spec hf).1 hk (kOf_spec hf).2 h]
theorem kAt_none {d : GDisk} {c h s : Int} : d.kAt c h s = none ↔ ∀ k, k < d.nt → ¬ d.isAt c h s k := by
  unfold GDisk.kAt; rw [range_find_none]; simp
theorem kAt_spec {d : GDisk} {c h s : Int} {k : Nat} (hh : d.kAt c h s = some k) : k < d.nt ∧ d.isAt c h s k := by
  obtain ⟨h1, h2⟩ := range_find_some hh; exact ⟨h1, by simpa using h2⟩
theorem tch_inj {d : GDisk} {i j : Nat} (h1 : d.tc i = d.tc j) (h2 : d.th i = d.th j) : i = j := by
  unfold GDisk.tc at h1; unfold GDisk.th at h2
  rw [← Nat.div_add_mod i d.heads.toNat, ← Nat.div_add_mod j d.heads.toNat]
  have a : i / d.heads.toNat = j / d.heads.toNat := by omega
  have b : i % d.heads.toNat = j % d.heads.toNat := by omega
  rw [a, b]
theorem kAt_some {d : GDisk} {c h s : Int} {k : Nat} (hk : k < d.nt) (hh : d.isAt c h s k) : d.kAt c h s = some k := by
  cases hf : d.kAt c h s with
  | none => exact absurd hh (kAt_none.1 hf k hk)
  | some j => rw [tch_inj ((kAt_spec hf).2.1.1.trans hh.1.1.symm) ((kAt_spec hf).2.1.2.trans hh.1.2.symm)]
/-- Each number below the size is held by a track. -/
theorem kOf_all {d : GDisk} (g : d.Good) : ∀ (m : Nat), m ≤ d.nt → ∀ n : Int, 0 ≤ n → n < d.tf m → ∃ k, k < m ∧ d.holds n k
  | 0, _, n, h0, h1 => by simp [GDisk.tf] at h1; omega
  | m + 1, hm, n, h0, h1 => by
    by_cases h : n < d.tf m
    · obtain ⟨k, hk, hh⟩ := kOf_all g m (by omega) n h0 h
      exact ⟨k, by omega, hh⟩
    · rw [GDisk.tf] at h1
      exact ⟨m, by omega, by unfold GDisk.holds; omega⟩
theorem kOf_iff {d : GDisk} (g : d.Good) (n : Int) : (d.kOf n).isSome = true ↔ 0 ≤ n ∧ n < d.size := by
  constructor
  · intro h
    obtain ⟨k, hk⟩ := Option.isSome_iff_exists.1 h
    obtain ⟨h1, h2⟩ := kOf_spec hk
    have h3 := tf_mono g h1 (Nat.le_refl _)
    have h4 := g.tf k (by omega)
    unfold GDisk.holds at h2
    unfold GDisk.size; omega
  · intro h
    obtain ⟨k, hk, hh⟩ := kOf_all g d.nt (Nat.le_refl _) n h.1 h.2
    rw [kOf_some g hk hh]; rfl
def zeroT : GTrack := ⟨0, 0, 0, 0, 0⟩
theorem zeroT_eq : zeroT = ⟨0, 0, 0, 0, 0⟩ := rfl
def GDisk.find (d : GDisk) (n : Int) : GTrack × Int := if d.ok then (match d.kOf n with | some k => (d.track k, 0) | none => (zeroT, 1)) else (zeroT, 10)
def GDisk.number (d : GDisk) (c h s : Int) : Int × Int := if d.ok then (match d.kAt c h s with | some k => (d.tf k + s, 0) | none => (0, 1)) else (0, 10)
end Go.Pw
end
section
namespace Go.Pw

def GDisk.own (d : GDisk) (k : Nat) : Int := d.turn / d.ts k
def GDisk.place (d : GDisk) (n : Int) : (Int × Int × Int) × Int := if d.ok then (match d.kOf n with | some k => ((d.tc k, d.th k, n - d.tf k), 0) | none => ((0, 0, 0), 1)) else ((0, 0, 0), 10)
def GDisk.angle (d : GDisk) (n : Int) : Int × Int × Int := if d.ok then (match d.kOf n with | some k => ((d.to k + (n - d.tf k) * d.own k) % d.turn, d.own k, 0) | none => (0, 0, 1)) else (0, 0, 10)
def GDisk.wait (d : GDisk) (n time : Int) : Int × Int := if (d.angle n).2.2 ≠ 0 then (0, (d.angle n).2.2) else if inZ time 0 1000000 then (((d.angle n).1 - time) % d.turn, 0) else (0, 1)
theorem GDisk.Good.own {d : GDisk} (g : d.Good) {k : Nat} (hk : k < d.nt) : 1 ≤ d.own k ∧ d.own k ≤ d.turn ∧ d.own k * d.ts k = d.turn ∧ d.turn.tdiv (d.ts k) = d.own k := by
  have h1 := g.ts hk
  have h2 := g.t1
  have h3 : d.turn % d.ts k = 0 := by rw [← Int.tmod_eq_emod_of_nonneg (by omega)]; exact h1.2.2
  have h4 : d.own k * d.ts k = d.turn := Int.ediv_mul_cancel (Int.dvd_of_emod_eq_zero h3)
  have h5 : 0 ≤ d.own k := Int.ediv_nonneg (by omega) (by omega)
  have h6 : d.own k ≠ 0 := fun h => by rw [h] at h4; simp at h4; omega
  refine ⟨by omega, ?_, h4, Int.tdiv_eq_ediv_of_nonneg (by omega)⟩
  exact Int.ediv_le_self _ (by omega)
theorem angle_in {d : GDisk} (g : d.Good) {k : Nat} (hk : k < d.nt) {n : Int} (hh : d.holds n k) : 0 ≤ (n - d.tf k) * d.own k ∧ (n - d.tf k) * d.own k ≤ 16000 := by
  have h1 := g.own hk
  have h2 := g.ts hk
  have h3 := g.t2
  unfold GDisk.holds at hh
  refine ⟨Int.mul_nonneg (by omega) (by omega), ?_⟩
  calc (n - d.tf k) * d.own k ≤ 16 * 1000 := Int.mul_le_mul (by omega) (by omega) (by omega) (by omega)
    _ = 16000 := rfl
theorem angle_at {d : GDisk} (g : d.Good) (n : Int) (h : (d.angle n).2.2 = 0) : 0 ≤ (d.angle n).1 ∧ (d.angle n).1 < d.turn := by
  unfold GDisk.angle at h ⊢
  have := g.t1
  split at h
  · rename_i ho
    rw [if_pos ho]
    split at h
    · exact ⟨Int.emod_nonneg _ (by omega), Int.emod_lt_of_pos _ (by omega)⟩
    · simp at h
  · simp at h

/-! Gaps. -/
def gapT (t skew ticks : Int) : Int := if ticks ≤ skew then 0 else (ticks - skew + t - 1) / t
def gapV (t skew ticks : Int) : Int := skew + gapT t skew ticks * t
theorem gapT_spec {t skew ticks : Int} (ht : 0 < t) : 0 ≤ gapT t skew ticks ∧ ticks ≤ skew + gapT t skew ticks * t ∧ ∀ q, q < gapT t skew ticks → 0 ≤ q → skew + q * t < ticks := by
  unfold gapT
  by_cases h : ticks ≤ skew
  · rw [if_pos h]; exact ⟨by omega, by omega, fun q h1 h2 => by omega⟩
  · rw [if_neg h]
    have h1 := Int.ediv_mul_add_emod (ticks - skew + t - 1) t
    have h2 := Int.emod_nonneg (ticks - skew + t - 1) (b := t) (by omega)
    have h3 := Int.emod_lt_of_pos (ticks - skew + t - 1) ht
    refine ⟨Int.ediv_nonneg (by omega) (by omega), by omega, fun q hq h0 => ?_⟩
    have : (q + 1) * t ≤ (ticks - skew + t - 1) / t * t := Int.mul_le_mul_of_nonneg_right (by omega) (by omega)
    rw [Int.add_mul] at this
    omega
theorem gapT_unique {t skew ticks q : Int} (ht : 0 < t) (h0 : 0 ≤ q) (h1 : ticks ≤ skew + q * t) (h2 : ∀ r, r < q → 0 ≤ r → skew + r * t < ticks) : q = gapT t skew ticks := by
  obtain ⟨k0, k1, k2⟩ := gapT_spec (skew := skew) (ticks := ticks) ht
  rcases Int.lt_trichotomy q (gapT t skew ticks) with h | h | h
  · have := k2 q h h0; omega
  · exact h
  · have := h2 _ h k0; omega
theorem gapT_le {t skew ticks : Int} (ht : 0 < t) (h1 : ticks ≤ 2000) (h2 : 0 ≤ skew) : gapT t skew ticks ≤ 2000 := by
  obtain ⟨k0, k1, k2⟩ := gapT_spec (skew := skew) (ticks := ticks) ht
  by_cases h : gapT t skew ticks ≤ 2000
  · exact h
  · have h3 := k2 2000 (by omega) (by omega)
    have : (2000 : Int) * 1 ≤ 2000 * t := Int.mul_le_mul_of_nonneg_left (by omega) (by omega)
    omega
end Go.Pw
end
section
namespace Go.Pw

def sumF (f : Int → Int) (a : Int) : Nat → Int
  | 0 => 0
  | m + 1 => sumF f a m + f (a + m)
theorem sumF_add (f : Int → Int) (a : Int) (u : Nat) : ∀ v, sumF f a (u + v) = sumF f a u + sumF f (a + u) v
  | 0 => by simp [sumF]
  | v + 1 => by
    rw [← Nat.add_assoc, sumF, sumF_add f a u v, sumF, show a + ((u + v : Nat) : Int) = a + u + v by omega]; omega
theorem sumF_const (f : Int → Int) (a w : Int) : ∀ v : Nat, (∀ i : Nat, i < v → f (a + i) = w) → sumF f a v = v * w
  | 0, _ => by simp [sumF]
  | v + 1, h => by
    rw [sumF, sumF_const f a w v fun i hi => h i (by omega), h v (by omega)]
    rw [show ((v + 1 : Nat) : Int) = (v : Int) + 1 by omega, Int.add_mul]; omega
theorem sumF_congr {f g : Int → Int} {a : Int} : ∀ v : Nat, (∀ i : Nat, i < v → f (a + i) = g (a + i)) → sumF f a v = sumF g a v
  | 0, _ => rfl
  | v + 1, h => by rw [sumF, sumF, sumF_congr v fun i hi => h i (by omega), h v (by omega)]
theorem sumF_bound {f : Int → Int} {a M : Int} : ∀ v : Nat, (∀ i : Nat, i < v → 0 ≤ f (a + i) ∧ f (a + i) ≤ M) → 0 ≤ sumF f a v ∧ sumF f a v ≤ v * M
  | 0, _ => by simp [sumF]
  | v + 1, h => by
    have h1 := sumF_bound v fun i hi => h i (by omega)
    have h2 := h v (by omega)
    rw [sumF, show ((v + 1 : Nat) : Int) = (v : Int) + 1 by omega, Int.add_mul]; omega

def GDisk.ownN (d : GDisk) (m : Int) : Int := match d.kOf m with | some k => d.own k | none => 0
def GDisk.kindN (d : GDisk) (m : Int) : Int := match d.kOf (m - 1), d.kOf m with
  | some a, some b => if d.tc b ≠ d.tc a then 2 else if d.th b ≠ d.th a then 1 else 0
  | _, _ => 0
def GDisk.isK (d : GDisk) (e m : Int) : Int := if d.kindN m = e then 1 else 0
def GDisk.ticksR (d : GDisk) (a : Int) (m : Nat) : Int := sumF d.ownN a m
def GDisk.swR (d : GDisk) (e a : Int) (m : Nat) : Int := sumF (d.isK e) (a + 1) (m - 1)

section
variable {d : GDisk}
theorem own_in (g : d.Good) {k : Nat} (hk : k < d.nt) {m : Int} (h : d.holds m k) : d.ownN m = d.own k := by
  unfold GDisk.ownN; rw [kOf_some g hk h]
theorem kind_in (g : d.Good) {k : Nat} (hk : k < d.nt) {m : Int} (h1 : d.tf k < m) (h2 : m < d.tf k + d.ts k) : d.kindN m = 0 := by
  unfold GDisk.kindN
  rw [kOf_some g hk (n := m) (by unfold GDisk.holds; omega), kOf_some g hk (n := m - 1) (by unfold GDisk.holds; omega)]
  simp
theorem tch_next (g : d.Good) (k : Nat) : (d.th k = d.heads - 1 → d.tc (k + 1) = d.tc k + 1) ∧ (¬ d.th k = d.heads - 1 → d.tc (k + 1) = d.tc k ∧ d.th (k + 1) = d.th k + 1) := by
  have hp := g.hp
  have hn := g.hn
  have h1 := Nat.div_add_mod k d.heads.toNat
  have h2 := Nat.mod_lt k hp
  unfold GDisk.tc GDisk.th
  generalize d.heads.toNat = H at *
  refine ⟨fun h => ?_, fun h => ?_⟩
  · have hr : k % H = H - 1 := by omega
    have : k + 1 = H * (k / H + 1) := by rw [Nat.mul_add]; omega
    rw [this, Nat.mul_div_cancel_left _ hp]; simp
  · have hr : k % H + 1 < H := by omega
    have he : k + 1 = H * (k / H) + (k % H + 1) := by omega
    constructor
    · have : (k + 1) / H = k / H := by rw [he, Nat.mul_add_div hp, Nat.div_eq_of_lt hr]; simp
      rw [this]
    · have : (k + 1) % H = k % H + 1 := by rw [he, Nat.mul_add_mod, Nat.mod_eq_of_lt hr]
      rw [this]; simp
theorem kind_at (g : d.Good) {k : Nat} (hk : k + 1 < d.nt) : d.kindN (d.tf (k + 1)) = if d.th k = d.heads - 1 then 2 else 1 := by
  have h1 := g.ts (k := k) (by omega)
  have h2 := g.ts hk
  unfold GDisk.kindN
  rw [kOf_some g hk (n := d.tf (k + 1)) (by unfold GDisk.holds; omega), kOf_some g (k := k) (by omega) (n := d.tf (k + 1) - 1) (by unfold GDisk.holds; rw [GDisk.tf]; omega)]
  obtain ⟨n1, n2⟩ := tch_next g k
  by_cases h : d.th k = d.heads - 1
  · have := n1 h
    simp only [if_pos h]; rw [if_pos (by omega)]
  · have := n2 h
    simp only [if_neg h]; rw [if_neg (by omega), if_pos (by omega)]
theorem ownN_bound (g : d.Good) (m : Int) : 0 ≤ d.ownN m ∧ d.ownN m ≤ 1000 := by
  unfold GDisk.ownN
  have := g.t2
  split
  · rename_i k hk
    have := g.own (kOf_spec hk).1
    omega
  · omega
theorem isK_bound (e m : Int) : 0 ≤ d.isK e m ∧ d.isK e m ≤ 1 := by unfold GDisk.isK; split <;> omega
theorem ticksR_bound (g : d.Good) (a : Int) (m : Nat) : 0 ≤ d.ticksR a m ∧ d.ticksR a m ≤ m * 1000 := sumF_bound m fun i _ => ownN_bound g _
theorem swR_bound (e a : Int) (m : Nat) : 0 ≤ d.swR e a m ∧ d.swR e a m ≤ m := by
  have := sumF_bound (f := d.isK e) (a := a + 1) (M := 1) (m - 1) fun i _ => isK_bound e _
  unfold GDisk.swR; omega

/-- How many sectors of a run the first tracks have; how many switches. -/
def GDisk.cov (d : GDisk) (a c : Int) (k : Nat) : Nat := (max 0 (min (d.tf k - a) c)).toNat
def GDisk.sws (d : GDisk) (e a c : Int) (k : Nat) : Int := sumF (d.isK e) (a + 1) (max 0 (min (d.tf k - a) (c - 1))).toNat
def GDisk.tks (d : GDisk) (a c : Int) (k : Nat) : Int := sumF d.ownN a (d.cov a c k)

theorem run_skip {a c : Int} {k : Nat} (hc : 1 ≤ c) (h : min (a + c) (d.tf k + d.ts k) - 1 < max a (d.tf k)) (h1 : 1 ≤ d.ts k) (e : Int) : d.tks a c (k + 1) = d.tks a c k ∧ d.sws e a c (k + 1) = d.sws e a c k := by
  unfold GDisk.tks GDisk.sws GDisk.cov
  rw [GDisk.tf]
  have h2 : (max 0 (min (d.tf k + d.ts k - a) c)).toNat = (max 0 (min (d.tf k - a) c)).toNat := by omega
  have h3 : (max 0 (min (d.tf k + d.ts k - a) (c - 1))).toNat = (max 0 (min (d.tf k - a) (c - 1))).toNat := by omega
  rw [h2, h3]; exact ⟨rfl, rfl⟩
theorem run_ticks (g : d.Good) {a c : Int} {k : Nat} (hk : k < d.nt) (h : max a (d.tf k) ≤ min (a + c) (d.tf k + d.ts k) - 1) : d.tks a c (k + 1) = d.tks a c k + (min (a + c) (d.tf k + d.ts k) - 1 - max a (d.tf k) + 1) * d.own k := by
  have h1 := g.ts hk
  obtain ⟨u, hu⟩ : ∃ u : Nat, u = (max 0 (d.tf k - a)).toNat := ⟨_, rfl⟩
  obtain ⟨v, hv⟩ : ∃ v : Nat, v = (min (a + c) (d.tf k + d.ts k) - 1 - max a (d.tf k) + 1).toNat := ⟨_, rfl⟩
  have e1 : d.cov a c k = u := by unfold GDisk.cov; omega
  have e2 : d.cov a c (k + 1) = u + v := by unfold GDisk.cov; rw [GDisk.tf]; omega
  unfold GDisk.tks
  rw [e1, e2, sumF_add, sumF_const d.ownN (a + u) (d.own k) v fun i hi => own_in g hk (by unfold GDisk.holds; omega)]
  rw [show (v : Int) = min (a + c) (d.tf k + d.ts k) - 1 - max a (d.tf k) + 1 by omega]
theorem run_last (g : d.Good) {a c : Int} {k : Nat} (hk : k < d.nt) (hc : 1 ≤ c) (h : max a (d.tf k) ≤ min (a + c) (d.tf k + d.ts k) - 1) (hl : a + c ≤ d.tf k + d.ts k) (e : Int) (he : e ≠ 0) : d.sws e a c (k + 1) = d.sws e a c k := by
  have h1 := g.ts hk
  obtain ⟨u, hu⟩ : ∃ u : Nat, u = (max 0 (d.tf k - a)).toNat := ⟨_, rfl⟩
  obtain ⟨v, hv⟩ : ∃ v : Nat, v = (c - 1 - u).toNat := ⟨_, rfl⟩
  have e1 : (max 0 (min (d.tf k - a) (c - 1))).toNat = u := by omega
  have e2 : (max 0 (min (d.tf k + d.ts k - a) (c - 1))).toNat = u + v := by omega
  unfold GDisk.sws
  rw [GDisk.tf, e1, e2, sumF_add, sumF_const (d.isK e) (a + 1 + u) 0 v fun i hi => by unfold GDisk.isK; rw [kind_in g hk (by omega) (by omega), if_neg (Ne.symm he)]]
  simp
theorem run_more (g : d.Good) {a c : Int} {k : Nat} (hk : k < d.nt) (hc : 1 ≤ c) (h : max a (d.tf k) ≤ min (a + c) (d.tf k + d.ts k) - 1) (hl : d.tf k + d.ts k < a + c) (hs : a + c ≤ d.size) (e : Int) (he : e ≠ 0) : d.sws e a c (k + 1) = d.sws e a c k + (if (if d.th k = d.heads - 1 then (2 : Int) else 1) = e then 1 else 0) := by
  have h1 := g.ts hk
  have hk1 : k + 1 < d.nt := by
    rcases Nat.lt_or_ge (k + 1) d.nt with h2 | h2
    · exact h2
    · have : k + 1 = d.nt := by omega
      unfold GDisk.size at hs; rw [← this, GDisk.tf] at hs; omega
  obtain ⟨u, hu⟩ : ∃ u : Nat, u = (max 0 (d.tf k - a)).toNat := ⟨_, rfl⟩
  obtain ⟨v, hv⟩ : ∃ v : Nat, v = (d.tf k + d.ts k - a - u - 1).toNat := ⟨_, rfl⟩
  have e1 : (max 0 (min (d.tf k - a) (c - 1))).toNat = u := by omega
  have e2 : (max 0 (min (d.tf k + d.ts k - a) (c - 1))).toNat = u + (v + 1) := by omega
  have hat := kind_at g hk1
  rw [GDisk.tf] at hat
  unfold GDisk.sws
  rw [GDisk.tf, e1, e2, sumF_add, sumF, sumF_const (d.isK e) (a + 1 + u) 0 v fun i hi => by unfold GDisk.isK; rw [kind_in g hk (by omega) (by omega), if_neg (Ne.symm he)]]
  rw [show a + 1 + (u : Int) + v = d.tf k + d.ts k by omega]
  unfold GDisk.isK
  rw [hat]; simp
theorem run_0 {a c : Int} (ha : 0 ≤ a) (e : Int) : d.tks a c 0 = 0 ∧ d.sws e a c 0 = 0 := by
  unfold GDisk.tks GDisk.sws GDisk.cov
  rw [GDisk.tf]
  have h1 : (max 0 (min (0 - a) c)).toNat = 0 := by omega
  have h2 : (max 0 (min (0 - a) (c - 1))).toNat = 0 := by omega
  rw [h1, h2]; exact ⟨rfl, rfl⟩
theorem run_nt {a c : Int} (hc : 1 ≤ c) (hs : a + c ≤ d.size) (e : Int) : d.tks a c d.nt = d.ticksR a c.toNat ∧ d.sws e a c d.nt = d.swR e a c.toNat := by
  unfold GDisk.tks GDisk.sws GDisk.cov GDisk.ticksR GDisk.swR
  unfold GDisk.size at hs
  have h1 : (max 0 (min (d.tf d.nt - a) c)).toNat = c.toNat := by omega
  have h2 : (max 0 (min (d.tf d.nt - a) (c - 1))).toNat = c.toNat - 1 := by omega
  rw [h1, h2]; exact ⟨rfl, rfl⟩
end
theorem size_bound {d : GDisk} (g : d.Good) : 1 ≤ d.size ∧ d.size ≤ 5120 := by
  have h1 := g.tf d.nt (Nat.le_refl _)
  have h2 := g.nt
  have h3 : 1 ≤ d.nt := by
    unfold GDisk.nt
    have hp := g.hp
    have hz := g.z1
    have h0 := g.z 0 (by omega)
    have hb := base_le d 1 d.zones.length (by omega)
    rw [base_len, GDisk.base, GDisk.base] at hb
    calc 1 = 1 * 1 := rfl
      _ ≤ d.cyls * d.heads.toNat := Nat.mul_le_mul (by omega) hp
  unfold GDisk.size; omega
end Go.Pw
end
section
namespace Go.Pw

def plD (p : Int × Int × Int) : D := .agg [.int .i64 p.1, .int .i64 p.2.1, .int .i64 p.2.2]
theorem plD_eq (p : Int × Int × Int) : plD p = .agg [.int .i64 p.1, .int .i64 p.2.1, .int .i64 p.2.2] := rfl
def plsD (l : List (Int × Int × Int)) : List D := l.map plD
theorem plsD_len (l : List (Int × Int × Int)) : (plsD l).length = l.length := by simp [plsD]
theorem plsD_nil : plsD [] = [] := rfl
theorem plsD_snoc (l : List (Int × Int × Int)) (a b c : Int) : plsD l ++ [.agg [.int .i64 a, .int .i64 b, .int .i64 c]] = plsD (l ++ [(a, b, c)]) := by simp [plsD, plD]
theorem plsD_unif (l : List (Int × Int × Int)) : Unif 3 (plsD l) = True := unif_map fun _ => rfl
theorem onSome_pls {l : List (Int × Int × Int)} {i : Nat} {A : D → Prop} : onSome (plsD l)[i]? A = (i < l.length ∧ A (plD (l[i]?.getD default))) := onSome_map

def GDisk.pl (d : GDisk) (m : Int) : Int × Int × Int := match d.kOf m with | some k => (d.tc k, d.th k, m - d.tf k) | none => (0, 0, 0)
def GDisk.plsN (d : GDisk) (n : Nat) : List (Int × Int × Int) := (List.range n).map fun (i : Nat) => d.pl (i : Int)
def GDisk.pls (d : GDisk) : List (Int × Int × Int) := d.plsN d.size.toNat
theorem plsN_len (d : GDisk) (n : Nat) : (d.plsN n).length = n := by simp [GDisk.plsN]
theorem plsN_succ (d : GDisk) (n : Nat) : d.plsN (n + 1) = d.plsN n ++ [d.pl n] := by simp [GDisk.plsN, List.range_succ]
theorem plsN_get (d : GDisk) (n i : Nat) (h : i < n) : (d.plsN n)[i]?.getD default = d.pl i := by
  unfold GDisk.plsN
  rw [List.getElem?_map, List.getElem?_eq_getElem (by simpa using h)]; simp
section
variable {d : GDisk}
theorem pl_at (g : d.Good) {k : Nat} (hk : k < d.nt) {s : Int} (h : 0 ≤ s ∧ s < d.ts k) : d.pl (d.tf k + s) = (d.tc k, d.th k, s) := by
  unfold GDisk.pl
  rw [kOf_some g hk (by unfold GDisk.holds; omega)]
  simp only [Prod.mk.injEq, true_and]; omega
theorem tf_row (c : Nat) : ∀ h, h ≤ d.heads.toNat → d.tf (c * d.heads.toNat + h) = d.tf (c * d.heads.toNat) + h * (d.secs[c]?.getD 0)
  | 0, _ => by simp
  | h + 1, hh => by
    rw [← Nat.add_assoc, GDisk.tf, tf_row c h (by omega), ts_at c h (by omega), show ((h + 1 : Nat) : Int) = (h : Int) + 1 by omega, Int.add_mul]; omega
theorem tf_cyl (c : Nat) : d.tf ((c + 1) * d.heads.toNat) = d.tf (c * d.heads.toNat) + d.heads.toNat * (d.secs[c]?.getD 0) := by
  rw [Nat.succ_mul]; exact tf_row c _ (Nat.le_refl _)
theorem tf_zone {i : Nat} (hi : i < d.zones.length) : ∀ j, j ≤ (d.zones[i]?.getD default).1.toNat → d.tf ((d.base i + j) * d.heads.toNat) = d.tf (d.base i * d.heads.toNat) + j * ((d.zones[i]?.getD default).2 * d.heads.toNat)
  | 0, _ => by simp
  | j + 1, hj => by
    rw [← Nat.add_assoc, tf_cyl, tf_zone hi j (by omega), secs_at d i j hi (by omega), Option.getD_some, show ((j + 1 : Nat) : Int) = (j : Int) + 1 by omega, Int.add_mul, Int.mul_comm (d.heads.toNat : Int)]; omega
theorem zone_of (c : Nat) : ∀ i, i ≤ d.zones.length → c < d.base i → ∃ j, j < i ∧ d.base j ≤ c ∧ c < d.base (j + 1)
  | 0, _, h => by simp [GDisk.base] at h
  | i + 1, hi, h => by
    by_cases hc : c < d.base i
    · obtain ⟨j, h1, h2⟩ := zone_of c i (by omega) hc
      exact ⟨j, by omega, h2⟩
    · exact ⟨i, by omega, by omega, h⟩
theorem secs_zone {i c : Nat} (hi : i < d.zones.length) (h1 : d.base i ≤ c) (h2 : c < d.base (i + 1)) : d.secs[c]?.getD 0 = (d.zones[i]?.getD default).2 := by
  rw [GDisk.base] at h2
  have := secs_at d i (c - d.base i) hi (by omega)
  rw [show d.base i + (c - d.base i) = c by omega] at this
  rw [this, Option.getD_some]
theorem tc_lt {k : Nat} (hk : k < d.nt) : d.tc k < d.cyls := by
  unfold GDisk.tc
  have := div_lt_of k d.heads.toNat d.cyls hk
  omega
theorem ts_secs (k : Nat) : d.ts k = d.secs[(d.tc k).toNat]?.getD 0 := by
  unfold GDisk.ts GDisk.tc; rw [Int.toNat_natCast]
end
/-- The switches before the sectors of a run. -/
def GDisk.kinds (d : GDisk) (a : Int) (m : Nat) : List Int := (List.range m).map fun (i : Nat) => d.kindN (a + 1 + (i : Int))
theorem kinds_len (d : GDisk) (a : Int) (m : Nat) : (d.kinds a m).length = m := by simp [GDisk.kinds]
theorem kinds_succ (d : GDisk) (a : Int) (m : Nat) : d.kinds a (m + 1) = d.kinds a m ++ [d.kindN (a + 1 + m)] := by simp [GDisk.kinds, List.range_succ]
theorem kinds_get (d : GDisk) (a : Int) (m i : Nat) (h : i < m) : (d.kinds a m)[i]?.getD 0 = d.kindN (a + 1 + i) := by
  unfold GDisk.kinds
  rw [List.getElem?_map, List.getElem?_eq_getElem (by simpa using h)]; simp
theorem kindN_pl {d : GDisk} (g : d.Good) {m : Int} (h1 : 1 ≤ m) (h2 : m < d.size) : d.kindN m = if (d.pl m).1 ≠ (d.pl (m - 1)).1 then 2 else if (d.pl m).2.1 ≠ (d.pl (m - 1)).2.1 then 1 else 0 := by
  obtain ⟨a, ha⟩ := Option.isSome_iff_exists.1 ((kOf_iff g m).2 (by omega))
  obtain ⟨b, hb⟩ := Option.isSome_iff_exists.1 ((kOf_iff g (m - 1)).2 (by omega))
  unfold GDisk.kindN GDisk.pl
  rw [ha, hb]
theorem kindN_range (d : GDisk) (m : Int) : d.kindN m = 0 ∨ d.kindN m = 1 ∨ d.kindN m = 2 := by
  unfold GDisk.kindN
  split
  · split
    · simp
    · split <;> simp
  · simp
/-- The ticks from the last sector of a track to the first one of the next. -/
def GDisk.gapK (d : GDisk) (e x : Int) : Int := if e = 1 then gapV d.turn d.hskew x else gapV d.turn d.cskew x
theorem gapV_after {t s x : Int} (ht : 0 < t) (hs : 0 ≤ s ∧ s < t) (hx : 0 ≤ x) : x + ((s - x).tmod t + t).tmod t = gapV t s x := by
  have h1 : ((s - x).tmod t + t).tmod t = (s - x) % t := by
    have h2 : -t < (s - x).tmod t := by have := Int.lt_tmod_of_pos (s - x) ht; omega
    rw [Int.tmod_eq_emod_of_nonneg (by omega), Int.add_emod_right]
    have h3 := Int.mul_tdiv_add_tmod (s - x) t
    have h4 : (s - x).tmod t = (s - x) + t * (-(s - x).tdiv t) := by rw [Int.mul_neg]; omega
    rw [h4, Int.add_mul_emod_self_left]
  rw [h1]
  have h5 := Int.emod_nonneg (s - x) (b := t) (by omega)
  have h6 := Int.emod_lt_of_pos (s - x) ht
  have h7 := Int.emod_add_mul_ediv (s - x) t
  obtain ⟨q, hq⟩ : ∃ q, q = -((s - x) / t) := ⟨_, rfl⟩
  have h8 : x + (s - x) % t = s + q * t := by rw [hq, Int.neg_mul, Int.mul_comm]; omega
  have h0 : 0 ≤ q := by
    rcases Int.lt_or_le q 0 with h | h
    · exfalso
      have : q * t ≤ -1 * t := Int.mul_le_mul_of_nonneg_right (by omega) (by omega)
      omega
    · exact h
  have := gapT_unique (t := t) (skew := s) (ticks := x) (q := q) ht h0 (by omega) fun r hr _ => by
    have : (r + 1) * t ≤ q * t := Int.mul_le_mul_of_nonneg_right (by omega) (by omega)
    rw [Int.add_mul] at this; omega
  unfold gapV; rw [← this]; exact h8
end Go.Pw
end
section
namespace Go.Pw

def GDisk.swLo (d : GDisk) (e : Int) : Int := if e = 1 then d.hlo else if e = 2 then d.clo else 0
def GDisk.swHi (d : GDisk) (e : Int) : Int := if e = 1 then d.hhi else if e = 2 then d.chi else 0
def GDisk.swSk (d : GDisk) (e : Int) : Int := if e = 1 then d.hskew else if e = 2 then d.cskew else 0
/-- The ticks of a switch with the number i in a run. -/
def GDisk.gapAt (d : GDisk) (a : Int) (xs : List Int) (i : Int) : Int := if 0 < d.kindN (a + 1 + i) then d.gapK (d.kindN (a + 1 + i)) (xs[i.toNat]?.getD 0) else 0
def GDisk.gapsL (d : GDisk) (a : Int) (xs : List Int) (m : Nat) : Int := sumF (d.gapAt a xs) 0 m
/-- What a run takes with some ticks for each of its switches. -/
def GDisk.ticksL (d : GDisk) (a : Int) (c : Nat) (xs : List Int) : Int := d.ticksR a c + d.gapsL a xs (c - 1)
theorem sumF_shift (f : Int → Int) (a : Int) : ∀ m, sumF (fun i => f (a + i)) 0 m = sumF f a m
  | 0 => rfl
  | m + 1 => by rw [sumF, sumF, sumF_shift f a m]; simp
theorem sum_two {d : GDisk} (A B a : Int) : ∀ m, sumF (fun n => if 0 < d.kindN n then (if d.kindN n = 1 then A else B) else 0) a m = A * sumF (d.isK 1) a m + B * sumF (d.isK 2) a m
  | 0 => by simp [sumF]
  | m + 1 => by
    rw [sumF, sumF, sumF, sum_two A B a m, Int.mul_add, Int.mul_add]
    unfold GDisk.isK
    rcases kindN_range d (a + m) with h | h | h <;> rw [h] <;> simp <;> omega
theorem gapsL_of {d : GDisk} (a : Int) (xs : List Int) (A B : Int) (m : Nat) (h1 : ∀ i : Nat, i < m → d.kindN (a + 1 + i) = 1 → d.gapK 1 (xs[i]?.getD 0) = A) (h2 : ∀ i : Nat, i < m → d.kindN (a + 1 + i) = 2 → d.gapK 2 (xs[i]?.getD 0) = B) :
    d.gapsL a xs m = A * sumF (d.isK 1) (a + 1) m + B * sumF (d.isK 2) (a + 1) m := by
  unfold GDisk.gapsL
  refine Eq.trans (Eq.trans ?_ (sumF_shift (fun n => if 0 < d.kindN n then (if d.kindN n = 1 then A else B) else 0) (a + 1) m)) (sum_two A B (a + 1) m)
  refine sumF_congr m fun i hi => ?_
  unfold GDisk.gapAt
  simp only [Int.zero_add, Int.toNat_natCast]
  have k1 := h1 i hi; have k2 := h2 i hi
  rcases kindN_range d (a + 1 + i) with h | h | h
  · rw [h]; simp
  · rw [h, k1 h]; simp
  · rw [h, k2 h]; simp
theorem kinds_map_get {d : GDisk} (f : Int → Int) (a : Int) (m i : Nat) (h : i < m) : ((d.kinds a m).map f)[i]?.getD 0 = f (d.kindN (a + 1 + i)) := by
  have := kinds_get d a m i h
  have hl := kinds_len d a m
  rw [List.getElem?_map]
  rw [List.getElem?_eq_getElem (by omega)] at this ⊢
  simp only [Option.getD_some, Option.map_some] at this ⊢
  rw [this]
theorem ticksL_low {d : GDisk} (a : Int) (c : Nat) : d.ticksL a c ((d.kinds a (c - 1)).map d.swLo) = d.ticksR a c + gapV d.turn d.hskew d.hlo * d.swR 1 a c + gapV d.turn d.cskew d.clo * d.swR 2 a c := by
  unfold GDisk.ticksL GDisk.swR
  rw [gapsL_of a _ (gapV d.turn d.hskew d.hlo) (gapV d.turn d.cskew d.clo) (c - 1) (fun i hi h => by rw [kinds_map_get _ _ _ _ hi, h]; simp [GDisk.gapK, GDisk.swLo]) (fun i hi h => by rw [kinds_map_get _ _ _ _ hi, h]; simp [GDisk.gapK, GDisk.swLo])]
  omega
theorem ticksL_high {d : GDisk} (a : Int) (c : Nat) : d.ticksL a c ((d.kinds a (c - 1)).map d.swHi) = d.ticksR a c + gapV d.turn d.hskew d.hhi * d.swR 1 a c + gapV d.turn d.cskew d.chi * d.swR 2 a c := by
  unfold GDisk.ticksL GDisk.swR
  rw [gapsL_of a _ (gapV d.turn d.hskew d.hhi) (gapV d.turn d.cskew d.chi) (c - 1) (fun i hi h => by rw [kinds_map_get _ _ _ _ hi, h]; simp [GDisk.gapK, GDisk.swHi]) (fun i hi h => by rw [kinds_map_get _ _ _ _ hi, h]; simp [GDisk.gapK, GDisk.swHi])]
  omega
theorem gapAt_bound {d : GDisk} (g : d.Good) (a : Int) (xs : List Int) (i : Int) (h : 0 < d.kindN (a + 1 + i) → 0 ≤ xs[i.toNat]?.getD 0 ∧ xs[i.toNat]?.getD 0 ≤ 2000) : 0 ≤ d.gapAt a xs i ∧ d.gapAt a xs i ≤ 2001000 := by
  unfold GDisk.gapAt
  have t1 := g.t1; have t2 := g.t2; have k1 := g.k1; have k2 := g.k2; have c1 := g.c1; have c2 := g.c2
  split
  · rename_i hk
    have hx := h hk
    have key : ∀ s, 0 ≤ s ∧ s < d.turn → 0 ≤ gapV d.turn s (xs[i.toNat]?.getD 0) ∧ gapV d.turn s (xs[i.toNat]?.getD 0) ≤ 2001000 := fun s hs => by
      obtain ⟨q0, q1, q2⟩ := gapT_spec (t := d.turn) (skew := s) (ticks := xs[i.toNat]?.getD 0) (by omega)
      have hle := gapT_le (t := d.turn) (skew := s) (ticks := xs[i.toNat]?.getD 0) (by omega) hx.2 hs.1
      have h1 : 0 ≤ gapT d.turn s (xs[i.toNat]?.getD 0) * d.turn ∧ gapT d.turn s (xs[i.toNat]?.getD 0) * d.turn ≤ 2000 * 1000 := ⟨Int.mul_nonneg (by omega) (by omega), Int.mul_le_mul (by omega) (by omega) (by omega) (by omega)⟩
      unfold gapV; omega
    unfold GDisk.gapK
    split
    · exact key _ ⟨k1, k2⟩
    · exact key _ ⟨c1, c2⟩
  · omega

/-! Disks with the same sectors. -/
structure Same (d e : GDisk) : Prop where
  heads : e.heads = d.heads
  zones : e.zones = d.zones
  turn : e.turn = d.turn
section
variable {d e : GDisk} (s : Same d e)
theorem Same.secs (s : Same d e) : e.secs = d.secs := by unfold GDisk.secs; rw [s.zones]
theorem Same.cyls (s : Same d e) : e.cyls = d.cyls := by unfold GDisk.cyls; rw [s.secs]
theorem Same.nt (s : Same d e) : e.nt = d.nt := by unfold GDisk.nt; rw [s.cyls, s.heads]
theorem Same.tc (s : Same d e) (k : Nat) : e.tc k = d.tc k := by unfold GDisk.tc; rw [s.heads]
theorem Same.th (s : Same d e) (k : Nat) : e.th k = d.th k := by unfold GDisk.th; rw [s.heads]
theorem Same.ts (s : Same d e) (k : Nat) : e.ts k = d.ts k := by unfold GDisk.ts; rw [s.heads, s.secs]
theorem Same.tf (s : Same d e) : ∀ k, e.tf k = d.tf k
  | 0 => rfl
  | k + 1 => by rw [GDisk.tf, GDisk.tf, Same.tf s k, s.ts]
theorem Same.size (s : Same d e) : e.size = d.size := by unfold GDisk.size; rw [s.nt, s.tf]
theorem Same.holds (s : Same d e) (n : Int) (k : Nat) : e.holds n k ↔ d.holds n k := by unfold GDisk.holds; rw [s.tf, s.ts]
theorem Same.kOf (s : Same d e) (n : Int) : e.kOf n = d.kOf n := by
  unfold GDisk.kOf; rw [s.nt]; congr 1; funext k; exact decide_eq_decide.2 (s.holds n k)
theorem Same.kAt (s : Same d e) (a b c : Int) : e.kAt a b c = d.kAt a b c := by
  unfold GDisk.kAt; rw [s.nt]; congr 1; funext k; refine decide_eq_decide.2 ?_; unfold GDisk.isAt; rw [s.tc, s.th, s.ts]
theorem Same.own (s : Same d e) (k : Nat) : e.own k = d.own k := by unfold GDisk.own; rw [s.turn, s.ts]
theorem Same.ownN (s : Same d e) (n : Int) : e.ownN n = d.ownN n := by unfold GDisk.ownN; rw [s.kOf]; split <;> simp [s.own]
theorem Same.kindN (s : Same d e) (n : Int) : e.kindN n = d.kindN n := by unfold GDisk.kindN; rw [s.kOf, s.kOf]; split <;> simp [s.tc, s.th]
theorem Same.isK (s : Same d e) (k n : Int) : e.isK k n = d.isK k n := by unfold GDisk.isK; rw [s.kindN]
theorem Same.ticksR (s : Same d e) (a : Int) (m : Nat) : e.ticksR a m = d.ticksR a m := sumF_congr m fun _ _ => s.ownN _
theorem Same.swR (s : Same d e) (k a : Int) (m : Nat) : e.swR k a m = d.swR k a m := sumF_congr _ fun _ _ => s.isK _ _
theorem Same.kinds (s : Same d e) (a : Int) (m : Nat) : e.kinds a m = d.kinds a m := by unfold GDisk.kinds; congr 1; funext i; exact s.kindN _
end
/-- A disk in new memory. -/
def GDisk.cp (d : GDisk) : GDisk := { d with zn := false }
theorem same_cp (d : GDisk) : Same d d.cp := ⟨rfl, rfl, rfl⟩
theorem cp_ok (d : GDisk) : d.cp.ok = d.ok := rfl
theorem cp_check (d : GDisk) : d.cp.check = d.check := rfl
theorem cp_to (d : GDisk) : ∀ k, d.cp.to k = d.to k
  | 0 => rfl
  | k + 1 => by rw [GDisk.to, GDisk.to, cp_to d k, (same_cp d).th]; rfl
theorem cp_number (d : GDisk) (c h s : Int) : d.cp.number c h s = d.number c h s := by unfold GDisk.number; rw [cp_ok, (same_cp d).kAt]; split <;> (try split) <;> simp [(same_cp d).tf]
theorem cp_place (d : GDisk) (n : Int) : d.cp.place n = d.place n := by unfold GDisk.place; rw [cp_ok, (same_cp d).kOf]; split <;> (try split) <;> simp [(same_cp d).tf, (same_cp d).tc, (same_cp d).th]
theorem cp_angle (d : GDisk) (n : Int) : d.cp.angle n = d.angle n := by
  unfold GDisk.angle; rw [cp_ok, (same_cp d).kOf]; split
  · split
    · simp only [(same_cp d).tf, (same_cp d).own, cp_to, (same_cp d).turn]
    · rfl
  · rfl
theorem cp_wait (d : GDisk) (n t : Int) : d.cp.wait n t = d.wait n t := by unfold GDisk.wait; rw [cp_angle]; rfl
/-- A disk with other skews. -/
def GDisk.skews (d : GDisk) (h c : Int) : GDisk := { d with hskew := h, cskew := c }
theorem same_skews (d : GDisk) (h c : Int) : Same d (d.skews h c) := ⟨rfl, rfl, rfl⟩
theorem skews_ok {d : GDisk} (h : d.ok = true) {a b : Int} (ha : 0 ≤ a ∧ a < d.turn) (hb : 0 ≤ b ∧ b < d.turn) : (d.skews a b).ok = true := by
  obtain ⟨h1, h2, h3, h4⟩ := GDisk.ok_iff.1 h
  obtain ⟨k1, k2, k3, k4, k5⟩ := GDisk.head_iff.1 h1
  exact GDisk.ok_iff.2 ⟨GDisk.head_iff.2 ⟨k1, k2, k3, ⟨ha.1, by show a ≤ d.turn - 1; omega⟩, ⟨hb.1, by show b ≤ d.turn - 1; omega⟩⟩, h2, h3, h4⟩
end Go.Pw
end
section
namespace Go.Pw

structure GRec where
  num : Int
  blk : Int
  val : Int
  tail : Int
  bad : Bool
instance : Inhabited GRec := ⟨⟨0, 0, 0, 0, false⟩⟩
theorem GRec.ext' {a b : GRec} (h1 : a.num = b.num) (h2 : a.blk = b.blk) (h3 : a.val = b.val) (h4 : a.tail = b.tail) (h5 : a.bad = b.bad) : a = b := by cases a; cases b; simp_all
def recC (r : GRec) : List D := [.int .i64 r.num, .int .i64 r.blk, .int .i64 r.val, .int .i64 r.tail, .bool r.bad]
def recD (r : GRec) : D := .agg (recC r)
theorem recC_eq (r : GRec) : recC r = [.int .i64 r.num, .int .i64 r.blk, .int .i64 r.val, .int .i64 r.tail, .bool r.bad] := rfl
theorem recD_eq (r : GRec) : recD r = .agg (recC r) := rfl
def recsD (l : List GRec) : List D := l.map recD
theorem recsD_len (l : List GRec) : (recsD l).length = l.length := by simp [recsD]
theorem recsD_nil : recsD [] = [] := rfl
theorem recsD_unif (l : List GRec) : Unif 5 (recsD l) = True := unif_map fun _ => rfl
theorem recsD_snoc (l : List GRec) (a b c d : Int) (e : Bool) : recsD l ++ [.agg [.int .i64 a, .int .i64 b, .int .i64 c, .int .i64 d, .bool e]] = recsD (l ++ [⟨a, b, c, d, e⟩]) := by simp [recsD, recD, recC]
theorem onSome_recs {l : List GRec} {i : Nat} {A : D → Prop} : onSome (recsD l)[i]? A = (i < l.length ∧ A (recD (l[i]?.getD default))) := onSome_map

def emptyR : GRec := ⟨-1, 0, 0, 0, false⟩
def badR : GRec := ⟨0, 0, 0, 0, true⟩

structure GLog where
  disk : GDisk
  blocks : Int
  from' : Int
  sn : Bool
  slots : List GRec
def logC (l : GLog) : List D := diskC l.disk ++ [.int .i64 l.blocks, .int .i64 l.from', .list l.sn (recsD l.slots)]
def logD (l : GLog) : D := .agg (logC l)
theorem logC_eq (l : GLog) : logC l = [.int .i64 l.disk.heads, .int .i64 l.disk.turn, .list l.disk.zn (zpsD l.disk.zones), .int .i64 l.disk.hskew, .int .i64 l.disk.cskew, .int .i64 l.disk.hlo, .int .i64 l.disk.hhi, .int .i64 l.disk.clo, .int .i64 l.disk.chi, .int .i64 l.blocks, .int .i64 l.from', .list l.sn (recsD l.slots)] := rfl
theorem logD_eq (l : GLog) : logD l = .agg (logC l) := rfl

def isEmptyR (r : GRec) : Bool := decide (r.num = -1) && decide (r.blk = 0) && decide (r.val = 0) && decide (r.tail = 0) && !r.bad
def isBadR (r : GRec) : Bool := decide (r.num = 0) && decide (r.blk = 0) && decide (r.val = 0) && decide (r.tail = 0) && r.bad
/-- A slot with a record. -/
def recOk (blocks : Int) (m : Nat) (i : Int) (r : GRec) : Bool := !r.bad && (inZ r.num 0 999 && (decide (r.num.tmod m = i) && (inZ r.blk 0 (blocks - 1) && (inZ r.val 0 999 && inZ r.tail 0 r.num))))
def slotOk (blocks : Int) (m : Nat) (i : Int) (r : GRec) : Bool := isEmptyR r || (isBadR r || recOk blocks m i r)
def GLog.head (l : GLog) : Bool := inZ l.blocks 1 8 && inZ l.slots.length 2 12 && inZ l.from' 0 (l.disk.size - l.slots.length)
def GLog.allOk (l : GLog) : Nat → Bool
  | 0 => true
  | i + 1 => l.allOk i && slotOk l.blocks l.slots.length i (l.slots[i]?.getD default)
def GLog.ok (l : GLog) : Bool := l.disk.ok && (l.head && l.allOk l.slots.length)
def GLog.check (l : GLog) : Int := if !l.disk.ok then 10 else if l.head && l.allOk l.slots.length then 0 else 160
theorem GLog.check_ok {l : GLog} : l.check = 0 ↔ l.ok = true := by
  unfold GLog.check GLog.ok
  cases l.disk.ok <;> cases (l.head && l.allOk l.slots.length) <;> simp
theorem allOk_at {l : GLog} : ∀ {n : Nat}, l.allOk n = true → ∀ i, i < n → slotOk l.blocks l.slots.length i (l.slots[i]?.getD default) = true
  | 0, _, i, hi => by omega
  | n + 1, h, i, hi => by
    rw [GLog.allOk, Bool.and_eq_true] at h
    rcases (show i < n ∨ i = n by omega) with h1 | h1
    · exact allOk_at h.1 i h1
    · subst h1; exact h.2
theorem allOk_bad {l : GLog} : ∀ {n i : Nat}, i < n → slotOk l.blocks l.slots.length i (l.slots[i]?.getD default) = false → l.allOk n = false
  | 0, i, h, _ => by omega
  | n + 1, i, h, hb => by
    rw [GLog.allOk]
    rcases (show i < n ∨ i = n by omega) with h1 | h1
    · rw [allOk_bad h1 hb, Bool.false_and]
    · subst h1; rw [hb, Bool.and_false]

/-- The newest of the first records. -/
def newN (s : List GRec) : Nat → GRec
  | 0 => emptyR
  | i + 1 => if !(s[i]?.getD default).bad && decide ((newN s i).num < (s[i]?.getD default).num) then s[i]?.getD default else newN s i
def GLog.newest (l : GLog) : GRec := newN l.slots l.slots.length
theorem newN_ge (s : List GRec) : ∀ i, -1 ≤ (newN s i).num
  | 0 => by simp [newN, emptyR]
  | i + 1 => by
    have := newN_ge s i
    rw [newN]; split
    · rename_i h; simp at h; omega
    · exact this
theorem newN_in (s : List GRec) : ∀ i, i ≤ s.length → newN s i = emptyR ∨ ∃ j, j < i ∧ newN s i = s[j]?.getD default ∧ (s[j]?.getD default).bad = false
  | 0, _ => .inl rfl
  | i + 1, h => by
    rw [newN]
    by_cases hc : (!(s[i]?.getD default).bad && decide ((newN s i).num < (s[i]?.getD default).num)) = true
    · rw [if_pos hc]
      right
      refine ⟨i, by omega, rfl, ?_⟩
      simp at hc; exact hc.1
    · rw [if_neg hc]
      rcases newN_in s i (by omega) with h1 | ⟨j, h1, h2⟩
      · exact .inl h1
      · exact .inr ⟨j, by omega, h2⟩
/-- The record in the slot of a number. -/
def GLog.at' (l : GLog) (n : Int) : GRec := l.slots[(n.tmod l.slots.length).toNat]?.getD default
/-- The records from a number on, as far as they are there. -/
def GLog.keptN (l : GLog) (t : Int) (n : Nat) : List GRec := (List.range n).map fun (i : Nat) => l.at' (t + (i : Int))
def GLog.whole (l : GLog) (t : Int) : Nat → Bool
  | 0 => true
  | n + 1 => l.whole t n && (!(l.at' (t + n)).bad && decide ((l.at' (t + n)).num = t + n))
def GLog.many (l : GLog) : Nat := (l.newest.num + 1 - l.newest.tail).toNat
def GLog.kept (l : GLog) : List GRec := l.keptN l.newest.tail l.many
def GLog.full (l : GLog) : Bool := l.whole l.newest.tail l.many
theorem keptN_len (l : GLog) (t : Int) (n : Nat) : (l.keptN t n).length = n := by simp [GLog.keptN]
theorem keptN_succ (l : GLog) (t : Int) (n : Nat) : l.keptN t (n + 1) = l.keptN t n ++ [l.at' (t + n)] := by simp [GLog.keptN, List.range_succ]
theorem whole_bad {l : GLog} {t : Int} : ∀ {n i : Nat}, i < n → (!(l.at' (t + i)).bad && decide ((l.at' (t + i)).num = t + i)) = false → l.whole t n = false
  | 0, i, h, _ => by omega
  | n + 1, i, h, hb => by
    rw [GLog.whole]
    rcases (show i < n ∨ i = n by omega) with h1 | h1
    · rw [whole_bad h1 hb, Bool.false_and]
    · subst h1; rw [hb, Bool.and_false]

/-- The facts of a valid log. -/
structure GLog.Good (l : GLog) : Prop where
  d : l.disk.ok = true
  b1 : 1 ≤ l.blocks
  b2 : l.blocks ≤ 8
  m1 : 2 ≤ l.slots.length
  m2 : l.slots.length ≤ 12
  f1 : 0 ≤ l.from'
  f2 : l.from' + l.slots.length ≤ l.disk.size
  s : ∀ i, i < l.slots.length → (l.slots[i]?.getD default).bad = false → (l.slots[i]?.getD default).num ≠ -1 → (0 ≤ (l.slots[i]?.getD default).num ∧ (l.slots[i]?.getD default).num ≤ 999) ∧ (l.slots[i]?.getD default).num.tmod l.slots.length = i ∧ (0 ≤ (l.slots[i]?.getD default).blk ∧ (l.slots[i]?.getD default).blk ≤ l.blocks - 1) ∧ (0 ≤ (l.slots[i]?.getD default).val ∧ (l.slots[i]?.getD default).val ≤ 999) ∧ (0 ≤ (l.slots[i]?.getD default).tail ∧ (l.slots[i]?.getD default).tail ≤ (l.slots[i]?.getD default).num)
theorem log_good {l : GLog} (h : l.ok = true) : l.Good := by
  unfold GLog.ok GLog.head at h
  simp only [Bool.and_eq_true, inZ_iff] at h
  obtain ⟨h1, ⟨⟨h2, h3⟩, h4⟩, h5⟩ := h
  refine ⟨h1, by omega, by omega, by omega, by omega, by omega, by omega, fun i hi hb hn => ?_⟩
  have := allOk_at h5 i hi
  unfold slotOk at this
  rw [Bool.or_eq_true, Bool.or_eq_true] at this
  rcases this with h6 | h6 | h6
  · unfold isEmptyR at h6
    simp only [Bool.and_eq_true, decide_eq_true_eq] at h6
    exact absurd h6.1.1.1.1 hn
  · unfold isBadR at h6
    rw [hb] at h6; simp at h6
  · unfold recOk at h6
    simp only [Bool.and_eq_true, inZ_iff, decide_eq_true_eq] at h6
    exact ⟨h6.2.1, h6.2.2.1, h6.2.2.2.1, h6.2.2.2.2.1, h6.2.2.2.2.2⟩
theorem newN_cases (s : List GRec) : ∀ i, newN s i = emptyR ∨ -1 < (newN s i).num
  | 0 => .inl rfl
  | i + 1 => by
    rw [newN]
    split
    · rename_i hc
      simp at hc
      have := newN_ge s i
      right; omega
    · exact newN_cases s i
theorem newest_good {l : GLog} (g : l.Good) : l.newest.bad = false ∧ (-1 ≤ l.newest.num ∧ l.newest.num ≤ 999) ∧ (0 ≤ l.newest.tail ∧ l.newest.tail ≤ l.newest.num + 1) := by
  unfold GLog.newest
  rcases newN_cases l.slots l.slots.length with h | h
  · rw [h]; simp [emptyR]
  · rcases newN_in l.slots l.slots.length (Nat.le_refl _) with h1 | ⟨j, hj, h2, h3⟩
    · rw [h1]; simp [emptyR]
    · rw [h2] at h ⊢
      have := g.s j hj h3 (by omega)
      exact ⟨h3, by omega, by omega⟩
end Go.Pw
end
