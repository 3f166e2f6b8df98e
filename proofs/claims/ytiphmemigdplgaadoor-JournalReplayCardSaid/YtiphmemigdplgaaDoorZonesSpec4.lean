/- A part of the proof. -/
import Derived.Test.YtiphmemigdplgaaDoorZonesSpec3
set_option linter.all false
namespace Go.Pw

def plD (p : Int × Int × Int) : D := .agg [.int .i64 p.1, .int .i64 p.2.1, .int .i64 p.2.2]
theorem plD_eq (p : Int × Int × Int) : plD p = .agg [.int .i64 p.1, .int .i64 p.2.1, .int .i64 p.2.2] := rfl
def plsD (l : List (Int × Int × Int)) : List D := l.map plD
theorem plsD_len (l : List (Int × Int × Int)) : (plsD l).length = l.length := by simp [plsD]
theorem plsD_nil : plsD [] = [] := rfl
theorem plsD_snoc (l : List (Int × Int × Int)) (a b c : Int) : plsD l ++ [.agg [.int .i64 a, .int .i64 b, .int .i64 c]] = plsD (l ++ [(a, b, c)]) := by simp [plsD, plD]
theorem plsD_unif (l : List (Int × Int × Int)) : Unif 3 (plsD l) = True := unif_map fun _ => rfl
theorem onSome_pls {l : List (Int × Int × Int)} {i : Nat} {A : D → Prop} : onSome (plsD l)[i]? A = (i < l.length ∧ A (plD (l[i]?.getD default))) := onSome_map

def GDisk.pl (d : GDisk) (m : Int) : Int × Int × Int := match d.kOf m with | some k => (d.tc k, d.th k, m - d.tf k) | none => (0, 0, 0)
def GDisk.plsN (d : GDisk) (n : Nat) : List (Int × Int × Int) := (List.range n).map fun (i : Nat) => d.pl (i : Int)
def GDisk.pls (d : GDisk) : List (Int × Int × Int) := d.plsN d.size.toNat
theorem plsN_len (d : GDisk) (n : Nat) : (d.plsN n).length = n := by simp [GDisk.plsN]
theorem plsN_succ (d : GDisk) (n : Nat) : d.plsN (n + 1) = d.plsN n ++ [d.pl n] := by simp [GDisk.plsN, List.range_succ]
theorem plsN_get (d : GDisk) (n i : Nat) (h : i < n) : (d.plsN n)[i]?.getD default = d.pl i := by
  unfold GDisk.plsN
  rw [List.getElem?_map, List.getElem?_eq_getElem (by simpa using h)]; simp
section
variable {d : GDisk}
theorem pl_at (g : d.Good) {k : Nat} (hk : k < d.nt) {s : Int} (h : 0 ≤ s ∧ s < d.ts k) : d.pl (d.tf k + s) = (d.tc k, d.th k, s) := by
  unfold GDisk.pl
  rw [kOf_some g hk (by unfold GDisk.holds; omega)]
  simp only [Prod.mk.injEq, true_and]; omega
theorem tf_row (c : Nat) : ∀ h, h ≤ d.heads.toNat → d.tf (c * d.heads.toNat + h) = d.tf (c * d.heads.toNat) + h * (d.secs[c]?.getD 0)
  | 0, _ => by simp
  | h + 1, hh => by
    rw [← Nat.add_assoc, GDisk.tf, tf_row c h (by omega), ts_at c h (by omega), show ((h + 1 : Nat) : Int) = (h : Int) + 1 by omega, Int.add_mul]; omega
theorem tf_cyl (c : Nat) : d.tf ((c + 1) * d.heads.toNat) = d.tf (c * d.heads.toNat) + d.heads.toNat * (d.secs[c]?.getD 0) := by
  rw [Nat.succ_mul]; exact tf_row c _ (Nat.le_refl _)
theorem tf_zone {i : Nat} (hi : i < d.zones.length) : ∀ j, j ≤ (d.zones[i]?.getD default).1.toNat → d.tf ((d.base i + j) * d.heads.toNat) = d.tf (d.base i * d.heads.toNat) + j * ((d.zones[i]?.getD default).2 * d.heads.toNat)
  | 0, _ => by simp
  | j + 1, hj => by
    rw [← Nat.add_assoc, tf_cyl, tf_zone hi j (by omega), secs_at d i j hi (by omega), Option.getD_some, show ((j + 1 : Nat) : Int) = (j : Int) + 1 by omega, Int.add_mul, Int.mul_comm (d.heads.toNat : Int)]; omega
theorem zone_of (c : Nat) : ∀ i, i ≤ d.zones.length → c < d.base i → ∃ j, j < i ∧ d.base j ≤ c ∧ c < d.base (j + 1)
  | 0, _, h => by simp [GDisk.base] at h
  | i + 1, hi, h => by
    by_cases hc : c < d.base i
    · obtain ⟨j, h1, h2⟩ := zone_of c i (by omega) hc
      exact ⟨j, by omega, h2⟩
    · exact ⟨i, by omega, by omega, h⟩
theorem secs_zone {i c : Nat} (hi : i < d.zones.length) (h1 : d.base i ≤ c) (h2 : c < d.base (i + 1)) : d.secs[c]?.getD 0 = (d.zones[i]?.getD default).2 := by
  rw [GDisk.base] at h2
  have := secs_at d i (c - d.base i) hi (by omega)
  rw [show d.base i + (c - d.base i) = c by omega] at this
  rw [this, Option.getD_some]
theorem tc_lt {k : Nat} (hk : k < d.nt) : d.tc k < d.cyls := by
  unfold GDisk.tc
  have := div_lt_of k d.heads.toNat d.cyls hk
  omega
theorem ts_secs (k : Nat) : d.ts k = d.secs[(d.tc k).toNat]?.getD 0 := by
  unfold GDisk.ts GDisk.tc; rw [Int.toNat_natCast]
end
/-- The switches before the sectors of a run. -/
def GDisk.kinds (d : GDisk) (a : Int) (m : Nat) : List Int := (List.range m).map fun (i : Nat) => d.kindN (a + 1 + (i : Int))
theorem kinds_len (d : GDisk) (a : Int) (m : Nat) : (d.kinds a m).length = m := by simp [GDisk.kinds]
theorem kinds_succ (d : GDisk) (a : Int) (m : Nat) : d.kinds a (m + 1) = d.kinds a m ++ [d.kindN (a + 1 + m)] := by simp [GDisk.kinds, List.range_succ]
theorem kinds_get (d : GDisk) (a : Int) (m i : Nat) (h : i < m) : (d.kinds a m)[i]?.getD 0 = d.kindN (a + 1 + i) := by
  unfold GDisk.kinds
  rw [List.getElem?_map, List.getElem?_eq_getElem (by simpa using h)]; simp
theorem kindN_pl {d : GDisk} (g : d.Good) {m : Int} (h1 : 1 ≤ m) (h2 : m < d.size) : d.kindN m = if (d.pl m).1 ≠ (d.pl (m - 1)).1 then 2 else if (d.pl m).2.1 ≠ (d.pl (m - 1)).2.1 then 1 else 0 := by
  obtain ⟨a, ha⟩ := Option.isSome_iff_exists.1 ((kOf_iff g m).2 (by omega))
  obtain ⟨b, hb⟩ := Option.isSome_iff_exists.1 ((kOf_iff g (m - 1)).2 (by omega))
  unfold GDisk.kindN GDisk.pl
  rw [ha, hb]
theorem kindN_range (d : GDisk) (m : Int) : d.kindN m = 0 ∨ d.kindN m = 1 ∨ d.kindN m = 2 := by
  unfold GDisk.kindN
  split
  · split
    · simp
    · split <;> simp
  · simp
/-- The ticks from the last sector of a track to the first one of the next. -/
def GDisk.gapK (d : GDisk) (e x : Int) : Int := if e = 1 then gapV d.turn d.hskew x else gapV d.turn d.cskew x
theorem gapV_after {t s x : Int} (ht : 0 < t) (hs : 0 ≤ s ∧ s < t) (hx : 0 ≤ x) : x + ((s - x).tmod t + t).tmod t = gapV t s x := by
  have h1 : ((s - x).tmod t + t).tmod t = (s - x) % t := by
    have h2 : -t < (s - x).tmod t := by have := Int.lt_tmod_of_pos (s - x) ht; omega
    rw [Int.tmod_eq_emod_of_nonneg (by omega), Int.add_emod_right]
    have h3 := Int.mul_tdiv_add_tmod (s - x) t
    have h4 : (s - x).tmod t = (s - x) + t * (-(s - x).tdiv t) := by rw [Int.mul_neg]; omega
    rw [h4, Int.add_mul_emod_self_left]
  rw [h1]
  have h5 := Int.emod_nonneg (s - x) (b := t) (by omega)
  have h6 := Int.emod_lt_of_pos (s - x) ht
  have h7 := Int.emod_add_mul_ediv (s - x) t
  obtain ⟨q, hq⟩ : ∃ q, q = -((s - x) / t) := ⟨_, rfl⟩
  have h8 : x + (s - x) % t = s + q * t := by rw [hq, Int.neg_mul, Int.mul_comm]; omega
  have h0 : 0 ≤ q := by
    rcases Int.lt_or_le q 0 with h | h
    · exfalso
      have : q * t ≤ -1 * t := Int.mul_le_mul_of_nonneg_right (by omega) (by omega)
      omega
    · exact h
  have := gapT_unique (t := t) (skew := s) (ticks := x) (q := q) ht h0 (by omega) fun r hr _ => by
    have : (r + 1) * t ≤ q * t := Int.mul_le_mul_of_nonneg_right (by omega) (by omega)
    rw [Int.add_mul] at this; omega
  unfold gapV; rw [← this]; exact h8
end Go.Pw
