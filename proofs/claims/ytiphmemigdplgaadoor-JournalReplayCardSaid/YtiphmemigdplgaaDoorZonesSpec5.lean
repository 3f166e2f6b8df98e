/- A part of the proof. -/
import Derived.Test.YtiphmemigdplgaaDoorZonesSpec4
set_option linter.all false
namespace Go.Pw

def GDisk.swLo (d : GDisk) (e : Int) : Int := if e = 1 then d.hlo else if e = 2 then d.clo else 0
def GDisk.swHi (d : GDisk) (e : Int) : Int := if e = 1 then d.hhi else if e = 2 then d.chi else 0
def GDisk.swSk (d : GDisk) (e : Int) : Int := if e = 1 then d.hskew else if e = 2 then d.cskew else 0
/-- The ticks of a switch with the number i in a run. -/
def GDisk.gapAt (d : GDisk) (a : Int) (xs : List Int) (i : Int) : Int := if 0 < d.kindN (a + 1 + i) then d.gapK (d.kindN (a + 1 + i)) (xs[i.toNat]?.getD 0) else 0
def GDisk.gapsL (d : GDisk) (a : Int) (xs : List Int) (m : Nat) : Int := sumF (d.gapAt a xs) 0 m
/-- What a run takes with some ticks for each of its switches. -/
def GDisk.ticksL (d : GDisk) (a : Int) (c : Nat) (xs : List Int) : Int := d.ticksR a c + d.gapsL a xs (c - 1)
theorem sumF_shift (f : Int → Int) (a : Int) : ∀ m, sumF (fun i => f (a + i)) 0 m = sumF f a m
  | 0 => rfl
  | m + 1 => by rw [sumF, sumF, sumF_shift f a m]; simp
theorem sum_two {d : GDisk} (A B a : Int) : ∀ m, sumF (fun n => if 0 < d.kindN n then (if d.kindN n = 1 then A else B) else 0) a m = A * sumF (d.isK 1) a m + B * sumF (d.isK 2) a m
  | 0 => by simp [sumF]
  | m + 1 => by
    rw [sumF, sumF, sumF, sum_two A B a m, Int.mul_add, Int.mul_add]
    unfold GDisk.isK
    rcases kindN_range d (a + m) with h | h | h <;> rw [h] <;> simp <;> omega
theorem gapsL_of {d : GDisk} (a : Int) (xs : List Int) (A B : Int) (m : Nat) (h1 : ∀ i : Nat, i < m → d.kindN (a + 1 + i) = 1 → d.gapK 1 (xs[i]?.getD 0) = A) (h2 : ∀ i : Nat, i < m → d.kindN (a + 1 + i) = 2 → d.gapK 2 (xs[i]?.getD 0) = B) :
    d.gapsL a xs m = A * sumF (d.isK 1) (a + 1) m + B * sumF (d.isK 2) (a + 1) m := by
  unfold GDisk.gapsL
  refine Eq.trans (Eq.trans ?_ (sumF_shift (fun n => if 0 < d.kindN n then (if d.kindN n = 1 then A else B) else 0) (a + 1) m)) (sum_two A B (a + 1) m)
  refine sumF_congr m fun i hi => ?_
  unfold GDisk.gapAt
  simp only [Int.zero_add, Int.toNat_natCast]
  have k1 := h1 i hi; have k2 := h2 i hi
  rcases kindN_range d (a + 1 + i) with h | h | h
  · rw [h]; simp
  · rw [h, k1 h]; simp
  · rw [h, k2 h]; simp
theorem kinds_map_get {d : GDisk} (f : Int → Int) (a : Int) (m i : Nat) (h : i < m) : ((d.kinds a m).map f)[i]?.getD 0 = f (d.kindN (a + 1 + i)) := by
  have := kinds_get d a m i h
  have hl := kinds_len d a m
  rw [List.getElem?_map]
  rw [List.getElem?_eq_getElem (by omega)] at this ⊢
  simp only [Option.getD_some, Option.map_some] at this ⊢
  rw [this]
theorem ticksL_low {d : GDisk} (a : Int) (c : Nat) : d.ticksL a c ((d.kinds a (c - 1)).map d.swLo) = d.ticksR a c + gapV d.turn d.hskew d.hlo * d.swR 1 a c + gapV d.turn d.cskew d.clo * d.swR 2 a c := by
  unfold GDisk.ticksL GDisk.swR
  rw [gapsL_of a _ (gapV d.turn d.hskew d.hlo) (gapV d.turn d.cskew d.clo) (c - 1) (fun i hi h => by rw [kinds_map_get _ _ _ _ hi, h]; simp [GDisk.gapK, GDisk.swLo]) (fun i hi h => by rw [kinds_map_get _ _ _ _ hi, h]; simp [GDisk.gapK, GDisk.swLo])]
  omega
theorem ticksL_high {d : GDisk} (a : Int) (c : Nat) : d.ticksL a c ((d.kinds a (c - 1)).map d.swHi) = d.ticksR a c + gapV d.turn d.hskew d.hhi * d.swR 1 a c + gapV d.turn d.cskew d.chi * d.swR 2 a c := by
  unfold GDisk.ticksL GDisk.swR
  rw [gapsL_of a _ (gapV d.turn d.hskew d.hhi) (gapV d.turn d.cskew d.chi) (c - 1) (fun i hi h => by rw [kinds_map_get _ _ _ _ hi, h]; simp [GDisk.gapK, GDisk.swHi]) (fun i hi h => by rw [kinds_map_get _ _ _ _ hi, h]; simp [GDisk.gapK, GDisk.swHi])]
  omega
theorem gapAt_bound {d : GDisk} (g : d.Good) (a : Int) (xs : List Int) (i : Int) (h : 0 < d.kindN (a + 1 + i) → 0 ≤ xs[i.toNat]?.getD 0 ∧ xs[i.toNat]?.getD 0 ≤ 2000) : 0 ≤ d.gapAt a xs i ∧ d.gapAt a xs i ≤ 2001000 := by
  unfold GDisk.gapAt
  have t1 := g.t1; have t2 := g.t2; have k1 := g.k1; have k2 := g.k2; have c1 := g.c1; have c2 := g.c2
  split
  · rename_i hk
    have hx := h hk
    have key : ∀ s, 0 ≤ s ∧ s < d.turn → 0 ≤ gapV d.turn s (xs[i.toNat]?.getD 0) ∧ gapV d.turn s (xs[i.toNat]?.getD 0) ≤ 2001000 := fun s hs => by
      obtain ⟨q0, q1, q2⟩ := gapT_spec (t := d.turn) (skew := s) (ticks := xs[i.toNat]?.getD 0) (by omega)
      have hle := gapT_le (t := d.turn) (skew := s) (ticks := xs[i.toNat]?.getD 0) (by omega) hx.2 hs.1
      have h1 : 0 ≤ gapT d.turn s (xs[i.toNat]?.getD 0) * d.turn ∧ gapT d.turn s (xs[i.toNat]?.getD 0) * d.turn ≤ 2000 * 1000 := ⟨Int.mul_nonneg (by omega) (by omega), Int.mul_le_mul (by omega) (by omega) (by omega) (by omega)⟩
      unfold gapV; omega
    unfold GDisk.gapK
    split
    · exact key _ ⟨k1, k2⟩
    · exact key _ ⟨c1, c2⟩
  · omega

/-! Disks with the same sectors. -/
structure Same (d e : GDisk) : Prop where
  heads : e.heads = d.heads
  zones : e.zones = d.zones
  turn : e.turn = d.turn
section
variable {d e : GDisk} (s : Same d e)
theorem Same.secs (s : Same d e) : e.secs = d.secs := by unfold GDisk.secs; rw [s.zones]
theorem Same.cyls (s : Same d e) : e.cyls = d.cyls := by unfold GDisk.cyls; rw [s.secs]
theorem Same.nt (s : Same d e) : e.nt = d.nt := by unfold GDisk.nt; rw [s.cyls, s.heads]
theorem Same.tc (s : Same d e) (k : Nat) : e.tc k = d.tc k := by unfold GDisk.tc; rw [s.heads]
theorem Same.th (s : Same d e) (k : Nat) : e.th k = d.th k := by unfold GDisk.th; rw [s.heads]
theorem Same.ts (s : Same d e) (k : Nat) : e.ts k = d.ts k := by unfold GDisk.ts; rw [s.heads, s.secs]
theorem Same.tf (s : Same d e) : ∀ k, e.tf k = d.tf k
  | 0 => rfl
  | k + 1 => by rw [GDisk.tf, GDisk.tf, Same.tf s k, s.ts]
theorem Same.size (s : Same d e) : e.size = d.size := by unfold GDisk.size; rw [s.nt, s.tf]
theorem Same.holds (s : Same d e) (n : Int) (k : Nat) : e.holds n k ↔ d.holds n k := by unfold GDisk.holds; rw [s.tf, s.ts]
theorem Same.kOf (s : Same d e) (n : Int) : e.kOf n = d.kOf n := by
  unfold GDisk.kOf; rw [s.nt]; congr 1; funext k; exact decide_eq_decide.2 (s.holds n k)
theorem Same.kAt (s : Same d e) (a b c : Int) : e.kAt a b c = d.kAt a b c := by
  unfold GDisk.kAt; rw [s.nt]; congr 1; funext k; refine decide_eq_decide.2 ?_; unfold GDisk.isAt; rw [s.tc, s.th, s.ts]
theorem Same.own (s : Same d e) (k : Nat) : e.own k = d.own k := by unfold GDisk.own; rw [s.turn, s.ts]
theorem Same.ownN (s : Same d e) (n : Int) : e.ownN n = d.ownN n := by unfold GDisk.ownN; rw [s.kOf]; split <;> simp [s.own]
theorem Same.kindN (s : Same d e) (n : Int) : e.kindN n = d.kindN n := by unfold GDisk.kindN; rw [s.kOf, s.kOf]; split <;> simp [s.tc, s.th]
theorem Same.isK (s : Same d e) (k n : Int) : e.isK k n = d.isK k n := by unfold GDisk.isK; rw [s.kindN]
theorem Same.ticksR (s : Same d e) (a : Int) (m : Nat) : e.ticksR a m = d.ticksR a m := sumF_congr m fun _ _ => s.ownN _
theorem Same.swR (s : Same d e) (k a : Int) (m : Nat) : e.swR k a m = d.swR k a m := sumF_congr _ fun _ _ => s.isK _ _
theorem Same.kinds (s : Same d e) (a : Int) (m : Nat) : e.kinds a m = d.kinds a m := by unfold GDisk.kinds; congr 1; funext i; exact s.kindN _
end
/-- A disk in new memory. -/
def GDisk.cp (d : GDisk) : GDisk := { d with zn := false }
theorem same_cp (d : GDisk) : Same d d.cp := ⟨rfl, rfl, rfl⟩
theorem cp_ok (d : GDisk) : d.cp.ok = d.ok := rfl
theorem cp_check (d : GDisk) : d.cp.check = d.check := rfl
theorem cp_to (d : GDisk) : ∀ k, d.cp.to k = d.to k
  | 0 => rfl
  | k + 1 => by rw [GDisk.to, GDisk.to, cp_to d k, (same_cp d).th]; rfl
theorem cp_number (d : GDisk) (c h s : Int) : d.cp.number c h s = d.number c h s := by unfold GDisk.number; rw [cp_ok, (same_cp d).kAt]; split <;> (try split) <;> simp [(same_cp d).tf]
theorem cp_place (d : GDisk) (n : Int) : d.cp.place n = d.place n := by unfold GDisk.place; rw [cp_ok, (same_cp d).kOf]; split <;> (try split) <;> simp [(same_cp d).tf, (same_cp d).tc, (same_cp d).th]
theorem cp_angle (d : GDisk) (n : Int) : d.cp.angle n = d.angle n := by
  unfold GDisk.angle; rw [cp_ok, (same_cp d).kOf]; split
  · split
    · simp only [(same_cp d).tf, (same_cp d).own, cp_to, (same_cp d).turn]
    · rfl
  · rfl
theorem cp_wait (d : GDisk) (n t : Int) : d.cp.wait n t = d.wait n t := by unfold GDisk.wait; rw [cp_angle]; rfl
/-- A disk with other skews. -/
def GDisk.skews (d : GDisk) (h c : Int) : GDisk := { d with hskew := h, cskew := c }
theorem same_skews (d : GDisk) (h c : Int) : Same d (d.skews h c) := ⟨rfl, rfl, rfl⟩
theorem skews_ok {d : GDisk} (h : d.ok = true) {a b : Int} (ha : 0 ≤ a ∧ a < d.turn) (hb : 0 ≤ b ∧ b < d.turn) : (d.skews a b).ok = true := by
  obtain ⟨h1, h2, h3, h4⟩ := GDisk.ok_iff.1 h
  obtain ⟨k1, k2, k3, k4, k5⟩ := GDisk.head_iff.1 h1
  exact GDisk.ok_iff.2 ⟨GDisk.head_iff.2 ⟨k1, k2, k3, ⟨ha.1, by show a ≤ d.turn - 1; omega⟩, ⟨hb.1, by show b ≤ d.turn - 1; omega⟩⟩, h2, h3, h4⟩
end Go.Pw
