/- A part of the proof. -/
import Derived.Test.YtddmlbflglpgbaaZonesQ
set_option linter.all false
open Go Go.Pw Go.Proofs
namespace Go.Pw
set_option linter.unusedSimpArgs false
set_option linter.unusedVariables false
set_option maxRecDepth 100000
set_option maxHeartbeats 3200000
theorem gapT_mono {t s x y : Int} (ht : 0 < t) (h : x ≤ y) : gapT t s x ≤ gapT t s y := by
  obtain ⟨a0, a1, a2⟩ := gapT_spec (t := t) (skew := s) (ticks := x) ht
  obtain ⟨b0, b1, b2⟩ := gapT_spec (t := t) (skew := s) (ticks := y) ht
  rcases Int.lt_or_le (gapT t s y) (gapT t s x) with h1 | h1
  · have := a2 _ h1 b0; omega
  · exact h1
theorem gapV_mono {t s x y : Int} (ht : 0 < t) (h : x ≤ y) : gapV t s x ≤ gapV t s y := by
  unfold gapV
  have := Int.mul_le_mul_of_nonneg_right (gapT_mono (s := s) ht h) (show (0 : Int) ≤ t by omega)
  omega
theorem sumF_le {f g : Int → Int} {a : Int} : ∀ v : Nat, (∀ i : Nat, i < v → f (a + i) ≤ g (a + i)) → sumF f a v ≤ sumF g a v
  | 0, _ => Int.le_refl _
  | v + 1, h => by
    have h1 := sumF_le v fun i hi => h i (by omega)
    have h2 := h v (by omega)
    rw [sumF, sumF]; omega
theorem gapsL_mono {d : GDisk} (g : d.Good) (a : Int) (xs ys : List Int) (m : Nat) (h : ∀ i : Nat, i < m → 0 < d.kindN (a + 1 + i) → xs[i]?.getD 0 ≤ ys[i]?.getD 0) : d.gapsL a xs m ≤ d.gapsL a ys m := by
  refine sumF_le m fun i hi => ?_
  have t1 := g.t1
  unfold GDisk.gapAt
  simp only [Int.zero_add, Int.toNat_natCast]
  split
  · rename_i hk
    have := h i hi hk
    unfold GDisk.gapK
    split <;> exact gapV_mono (by omega) this
  · exact Int.le_refl _
def okB (d : GDisk) (ks xs : List Int) (i : Nat) : Bool := decide (ks[i]?.getD 0 = 0) || (decide (d.swLo (ks[i]?.getD 0) ≤ xs[i]?.getD 0) && decide (xs[i]?.getD 0 ≤ d.swHi (ks[i]?.getD 0)))
def insB (d : GDisk) (ks xs : List Int) : Nat → Bool
  | 0 => decide ((xs.length : Int) = ks.length)
  | j + 1 => insB d ks xs j && okB d ks xs j
theorem insB_len {d : GDisk} {ks xs : List Int} : ∀ j, insB d ks xs j = true → xs.length = ks.length
  | 0, h => by simp [insB] at h; omega
  | j + 1, h => by rw [insB, Bool.and_eq_true] at h; exact insB_len j h.1
theorem insB_ok {d : GDisk} {ks xs : List Int} : ∀ j, insB d ks xs j = true → ∀ i, i < j → okB d ks xs i = true
  | 0, _, i, hi => by omega
  | j + 1, h, i, hi => by
    rw [insB, Bool.and_eq_true] at h
    rcases (show i < j ∨ i = j by omega) with h1 | h1
    · exact insB_ok j h.1 i h1
    · subst h1; exact h.2

theorem sums_cut (f : Int → Int) (a : Int) {m n : Nat} (hm : 1 ≤ m) (hn : m < n) : sumF f (a + 1) (n - 1) = sumF f (a + 1) (m - 1) + f (a + m) + sumF f (a + m + 1) (n - m - 1) := by
  have e : n - 1 = (m - 1) + (1 + (n - m - 1)) := by omega
  rw [e, sumF_add, sumF_add]
  have h1 : sumF f (a + 1 + ((m - 1 : Nat) : Int)) 1 = f (a + m) := by
    rw [sumF, sumF, show a + 1 + ((m - 1 : Nat) : Int) + ((0 : Nat) : Int) = a + m by omega]; omega
  rw [h1, show a + 1 + ((m - 1 : Nat) : Int) + ((1 : Nat) : Int) = a + m + 1 by omega]; omega
theorem run_cut {d : GDisk} (g : d.Good) (a : Int) {m n : Nat} (hm : 1 ≤ m) (hn : m < n) (A B : Int) :
    d.ticksR a n + A * d.swR 1 a n + B * d.swR 2 a n = (d.ticksR a m + A * d.swR 1 a m + B * d.swR 2 a m) + (d.ticksR (a + m) (n - m) + A * d.swR 1 (a + m) (n - m) + B * d.swR 2 (a + m) (n - m)) + (if 0 < d.kindN (a + m) then (if d.kindN (a + m) = 1 then A else B) else 0) := by
  have h1 : d.ticksR a n = d.ticksR a m + d.ticksR (a + m) (n - m) := by
    unfold GDisk.ticksR
    rw [← sumF_add, show m + (n - m) = n by omega]
  have h2 := sums_cut (d.isK 1) a hm hn
  have h3 := sums_cut (d.isK 2) a hm hn
  change d.swR 1 a n = d.swR 1 a m + _ + d.swR 1 (a + m) (n - m) at h2
  change d.swR 2 a n = d.swR 2 a m + _ + d.swR 2 (a + m) (n - m) at h3
  rw [h1, h2, h3]
  unfold GDisk.isK
  simp only [Int.mul_add]
  rcases kindN_range d (a + m) with h | h | h <;> rw [h] <;> simp <;> omega
theorem ticksR_pos {d : GDisk} (g : d.Good) {a : Int} {m : Nat} (ha : 0 ≤ a) (hm : 1 ≤ m) (hs : a + m ≤ d.size) : 1 ≤ d.ticksR a m := by
  obtain ⟨k, hk⟩ := Option.isSome_iff_exists.1 ((kOf_iff g (a + ((m - 1 : Nat) : Int))).2 (by omega))
  have h1 := own_in g (kOf_spec hk).1 (kOf_spec hk).2
  have h2 := g.own (kOf_spec hk).1
  have h3 := ticksR_bound g a (m - 1)
  have : d.ticksR a m = d.ticksR a (m - 1) + d.ownN (a + ((m - 1 : Nat) : Int)) := by
    unfold GDisk.ticksR
    rw [show m = m - 1 + 1 by omega, sumF, show m - 1 + 1 - 1 = m - 1 by omega]
  omega
/-- A disk with narrower spans. -/
def narL (l h x : Int) : Int := min h (l + x)
def narH (l h x y : Int) : Int := max (narL l h x) (h - y)
def GDisk.nar (d : GDisk) (x y : Int) : GDisk := { d with zn := false, hlo := narL d.hlo d.hhi x, hhi := narH d.hlo d.hhi x y, clo := narL d.clo d.chi x, chi := narH d.clo d.chi x y }
theorem same_nar (d : GDisk) (x y : Int) : Same d (d.nar x y) := ⟨rfl, rfl, rfl⟩
theorem nar_in {l h x y : Int} (h0 : 0 ≤ l ∧ l ≤ h ∧ h ≤ 2000) (hx : 0 ≤ x) (hy : 0 ≤ y) : l ≤ narL l h x ∧ narL l h x ≤ narH l h x y ∧ narH l h x y ≤ h := by unfold narH narL; omega
theorem nar_ok {d : GDisk} (h : d.ok = true) {x y : Int} (hx : 0 ≤ x) (hy : 0 ≤ y) : (d.nar x y).ok = true := by
  obtain ⟨h1, h2, h3, h4⟩ := GDisk.ok_iff.1 h
  have n1 := nar_in h2 hx hy
  have n2 := nar_in h3 hx hy
  refine GDisk.ok_iff.2 ⟨h1, ⟨?_, ?_, ?_⟩, ⟨?_, ?_, ?_⟩, h4⟩
  · show 0 ≤ narL d.hlo d.hhi x; omega
  · show narL d.hlo d.hhi x ≤ narH d.hlo d.hhi x y; omega
  · show narH d.hlo d.hhi x y ≤ 2000; omega
  · show 0 ≤ narL d.clo d.chi x; omega
  · show narL d.clo d.chi x ≤ narH d.clo d.chi x y; omega
  · show narH d.clo d.chi x y ≤ 2000; omega
theorem nar_run {d : GDisk} (h : d.ok = true) {x y : Int} (hx : 0 ≤ x) (hy : 0 ≤ y) (a : Int) (m : Nat) : d.low a m ≤ (d.nar x y).low a m ∧ (d.nar x y).high a m ≤ d.high a m := by
  have g := good_of h
  have t1 := g.t1
  obtain ⟨h1, h2, h3, h4⟩ := GDisk.ok_iff.1 h
  have n1 := nar_in h2 hx hy
  have n2 := nar_in h3 hx hy
  have s := same_nar d x y
  have b1 := swR_bound (d := d) 1 a m
  have b2 := swR_bound (d := d) 2 a m
  have key : ∀ (s p q w : Int), p ≤ q → 0 ≤ w → gapV d.turn s p * w ≤ gapV d.turn s q * w := fun s p q w hpq hw => Int.mul_le_mul_of_nonneg_right (gapV_mono (by omega) hpq) hw
  unfold GDisk.low GDisk.high
  rw [s.ticksR, s.swR, s.swR]
  have k1 := key d.hskew _ _ _ n1.1 b1.1
  have k2 := key d.cskew _ _ _ n2.1 b2.1
  have k3 := key d.hskew _ _ _ n1.2.2 b1.1
  have k4 := key d.cskew _ _ _ n2.2.2 b2.1
  have e1 : (d.nar x y).turn = d.turn := rfl
  have e2 : (d.nar x y).hskew = d.hskew := rfl
  have e3 : (d.nar x y).cskew = d.cskew := rfl
  have e4 : (d.nar x y).hlo = narL d.hlo d.hhi x := rfl
  have e5 : (d.nar x y).hhi = narH d.hlo d.hhi x y := rfl
  have e6 : (d.nar x y).clo = narL d.clo d.chi x := rfl
  have e7 : (d.nar x y).chi = narH d.clo d.chi x y := rfl
  rw [e1, e2, e3, e4, e5, e6, e7]
  omega
attribute [local congr] cg_pw cg_seqI cg_seqE cg_stepI cg_ev cg_evBin cg_condB cg_condV cg_thenQ cg_blockQ cg_onSome cg_onCells cg_onRow cg_onMap cg_onOpt cg_ghosts cg_ghost cg_evCall cg_part cg_rng cg_guardV cg_frzV cg_frpV cg_ownV cg_owcV cg_occV cg_occX cg_resK cg_res1 cg_yldP cg_rndE cg_onlyN cg_onHist
attribute [local irreducible] IntKind.wrap bitsOp Option.getD and or

theorem law01_narrow_ret (l h x y : Int) (h0 : 0 ≤ l ∧ l ≤ h ∧ h ≤ 2000) (hx : 0 ≤ x ∧ x ≤ 2000) (hy : 0 ≤ y ∧ y ≤ 2000) : Ret E0 F_law01_narrow [.agg [.int .i64 l, .int .i64 h], .int .i64 x, .int .i64 y] (.agg [.int .i64 (narL l h x), .int .i64 (narH l h x y)]) := by
  refine ret_of_pw dec_law01_narrow mixed (by simp) fun hwf => ?_
  have w1 : IntKind.i64.wrap (l + x) = l + x := wrapI _ (by omega)
  have w2 : IntKind.i64.wrap (h - y) = h - y := wrapI _ (by omega)
  have c1 := law01_span_ret (narL l h x) (narH l h x y)
  rw [enter_eq]; unfold pc_law01_narrow
  unfold narH narL at *
  (try (simp -implicitDefEqProofs only [go_sem, w1, w2])); repeat' first | with_reducible exact True.intro | with_reducible refine And.intro ?_ ?_ | with_reducible intro _ | (((with_reducible refine isCall ?_); first | refine call_b (c1) rfl ?_ ?_ | refine call_d (c1) rfl ?_ | refine call_sb (c1) rfl ?_ ?_ | refine call_s (c1) rfl rfl ?_) <;> try (simp -implicitDefEqProofs only [go_sem, w1, w2])) | (((with_reducible refine vc_b ?_ ?_) <;> intro _) <;> try (simp -implicitDefEqProofs only [go_sem, w1, w2])) | simp (disch := omega) only [wrapI, wrapU, shl1, shl1', shl1'', shrN, shrN', and_one] 

theorem ZonesTrue_ret (d : GDisk) (a c : Int) (nl : Bool) (xs : List Int) : Ret E0 F_law01_ZonesTrue [diskD d, .agg [.int .i64 a, .int .i64 c, .list nl (ints xs)]] (.bool true) := by
  refine ret_of_pw dec_law01_ZonesTrue mixed (by simp) fun hwf => ?_
  have c0 := law01_ready_ret d
  have cw := law01_works_ret
  rw [enter_eq]; unfold pc_law01_ZonesTrue
  cases hf : d.rdy with
  | false =>
    rw [hf] at c0
    (try (simp -implicitDefEqProofs only [go_sem, diskD_eq, diskC_eq])); repeat' first | with_reducible exact True.intro | with_reducible refine And.intro ?_ ?_ | with_reducible intro _ | (((with_reducible refine isCall ?_); first | refine call_b (c0) rfl ?_ ?_ | refine call_d (c0) rfl ?_ | refine call_sb (c0) rfl ?_ ?_ | refine call_s (c0) rfl rfl ?_ | refine call_b (cw) rfl ?_ ?_ | refine call_d (cw) rfl ?_ | refine call_sb (cw) rfl ?_ ?_ | refine call_s (cw) rfl rfl ?_) <;> try (simp -implicitDefEqProofs only [go_sem, diskD_eq, diskC_eq])) | (((with_reducible refine vc_b ?_ ?_) <;> intro _) <;> try (simp -implicitDefEqProofs only [go_sem, diskD_eq, diskC_eq])) | simp (disch := omega) only [wrapI, wrapU, shl1, shl1', shl1'', shrN, shrN', and_one] | ((with_reducible refine isEx6 ?_); refine ⟨(_, _, _, _, _, _), rfl, ?_, ?_⟩)
  | true =>
    rw [hf] at c0
    have h := rdy_ok hf
    have g := good_of h
    have c1 := ref01_IsRun_ret d h a c
    by_cases hr : d.isRun a c
    · rw [decide_eq_true hr] at c1
      by_cases hl : 300 < (xs.length : Int)
      · (try (simp -implicitDefEqProofs only [go_sem, diskD_eq, diskC_eq, hl])); repeat' first | with_reducible exact True.intro | with_reducible refine And.intro ?_ ?_ | with_reducible intro _ | (((with_reducible refine isCall ?_); first | refine call_b (c0) rfl ?_ ?_ | refine call_d (c0) rfl ?_ | refine call_sb (c0) rfl ?_ ?_ | refine call_s (c0) rfl rfl ?_ | refine call_b (cw) rfl ?_ ?_ | refine call_d (cw) rfl ?_ | refine call_sb (cw) rfl ?_ ?_ | refine call_s (cw) rfl rfl ?_ | refine call_b (c1) rfl ?_ ?_ | refine call_d (c1) rfl ?_ | refine call_sb (c1) rfl ?_ ?_ | refine call_s (c1) rfl rfl ?_) <;> try (simp -implicitDefEqProofs only [go_sem, diskD_eq, diskC_eq, hl])) | (((with_reducible refine vc_b ?_ ?_) <;> intro _) <;> try (simp -implicitDefEqProofs only [go_sem, diskD_eq, diskC_eq, hl])) | simp (disch := omega) only [wrapI, wrapU, shl1, shl1', shl1'', shrN, shrN', and_one] | ((with_reducible refine isEx6 ?_); refine ⟨(_, _, _, _, _, _), rfl, ?_, ?_⟩)
      · have hsz := size_bound g
        have t1 := g.t1
        have s1 := g.s1; have s2 := g.s2; have s3 := g.s3; have s4 := g.s4; have s5 := g.s5; have s6 := g.s6
        obtain ⟨⟨r1, r2⟩, r3⟩ := id hr
        have c2 := zones_Run_ret d a c
        rw [run_of h hr] at c2
        have c3 := ref01_Switches_ret d h a c r1 r2 r3
        have hkl := kinds_len d a (c.toNat - 1)
        have c4 := fun e => ref01_SwitchOf_ret d e
        have hlo : ∀ e, 0 ≤ d.swLo e ∧ d.swLo e ≤ 2000 := fun e => by unfold GDisk.swLo; split <;> (try split) <;> omega
        have hhi : ∀ e, 0 ≤ d.swHi e ∧ d.swHi e ≤ 2000 := fun e => by unfold GDisk.swHi; split <;> (try split) <;> omega
        have e1 := fun b => ref01_Ticks_ret d h a c r1 r2 r3 b ((d.kinds a (c.toNat - 1)).map d.swLo) (by simpa using hkl) (kinds_in d.swLo hlo)
        have e2 := fun b => ref01_Ticks_ret d h a c r1 r2 r3 b ((d.kinds a (c.toNat - 1)).map d.swHi) (by simpa using hkl) (kinds_in d.swHi hhi)
        have f3 : d.low a c.toNat = d.ticksL a c.toNat ((d.kinds a (c.toNat - 1)).map d.swLo) := (ticksL_low (d := d) a c.toNat).symm
        have f4 : d.high a c.toNat = d.ticksL a c.toNat ((d.kinds a (c.toNat - 1)).map d.swHi) := (ticksL_high (d := d) a c.toNat).symm
        rw [← f3] at e1; rw [← f4] at e2
        have hfin : insB d (d.kinds a (c.toNat - 1)) xs (d.kinds a (c.toNat - 1)).length = true → Ret E0 F_ref01_Ticks [diskD d, .int .i64 a, .int .i64 c, .list nl (ints xs)] (.int .i64 (d.ticksL a c.toNat xs)) ∧ d.low a c.toNat ≤ d.ticksL a c.toNat xs ∧ d.ticksL a c.toNat xs ≤ d.high a c.toNat := fun hi => by
          have i1 := insB_len _ hi
          have i2 : ∀ i : Nat, i < c.toNat - 1 → 0 < d.kindN (a + 1 + i) → d.swLo (d.kindN (a + 1 + i)) ≤ xs[i]?.getD 0 ∧ xs[i]?.getD 0 ≤ d.swHi (d.kindN (a + 1 + i)) := fun i hi2 hp => by
            have := insB_ok _ hi i (by omega)
            unfold okB at this
            rw [kinds_get d a _ i hi2] at this
            have hne : ¬ d.kindN (a + 1 + i) = 0 := by omega
            simpa [hne] using this
          refine ⟨ref01_Ticks_ret d h a c r1 r2 r3 nl xs (by omega) fun i hi2 hp => ?_, ?_, ?_⟩
          · have := i2 i hi2 hp
            have := hlo (d.kindN (a + 1 + i)); have := hhi (d.kindN (a + 1 + i))
            omega
          · rw [f3]; unfold GDisk.ticksL
            have := gapsL_mono g a ((d.kinds a (c.toNat - 1)).map d.swLo) xs (c.toNat - 1) fun i hi2 hp => by rw [kinds_map_get _ _ _ _ hi2]; exact (i2 i hi2 hp).1
            omega
          · rw [f4]; unfold GDisk.ticksL
            have := gapsL_mono g a xs ((d.kinds a (c.toNat - 1)).map d.swHi) (c.toNat - 1) fun i hi2 hp => by rw [kinds_map_get _ _ _ _ hi2]; exact (i2 i hi2 hp).2
            omega
        clear f3 f4
        generalize d.low a c.toNat = lo0 at *
        generalize d.high a c.toNat = hi0 at *
        generalize d.ticksL a c.toNat xs = nx at *
        generalize d.kinds a (c.toNat - 1) = ks at *
        by_cases hlen : (xs.length : Int) = ks.length
        · have hb0 : insB d ks xs 0 = true := by simp [insB, hlen]
          (try (simp -implicitDefEqProofs only [go_sem, diskD_eq, diskC_eq, hl, eq_true hlen])); repeat' first | with_reducible exact True.intro | with_reducible refine And.intro ?_ ?_ | with_reducible intro _ | (((with_reducible refine isCall ?_); first | refine call_b (c0) rfl ?_ ?_ | refine call_d (c0) rfl ?_ | refine call_sb (c0) rfl ?_ ?_ | refine call_s (c0) rfl rfl ?_ | refine call_b (cw) rfl ?_ ?_ | refine call_d (cw) rfl ?_ | refine call_sb (cw) rfl ?_ ?_ | refine call_s (cw) rfl rfl ?_ | refine call_b (c1) rfl ?_ ?_ | refine call_d (c1) rfl ?_ | refine call_sb (c1) rfl ?_ ?_ | refine call_s (c1) rfl rfl ?_ | refine call_b (c2) rfl ?_ ?_ | refine call_d (c2) rfl ?_ | refine call_sb (c2) rfl ?_ ?_ | refine call_s (c2) rfl rfl ?_ | refine call_b (c3) rfl ?_ ?_ | refine call_d (c3) rfl ?_ | refine call_sb (c3) rfl ?_ ?_ | refine call_s (c3) rfl rfl ?_) <;> try (simp -implicitDefEqProofs only [go_sem, diskD_eq, diskC_eq, hl, eq_true hlen])) | (((with_reducible refine vc_b ?_ ?_) <;> intro _) <;> try (simp -implicitDefEqProofs only [go_sem, diskD_eq, diskC_eq, hl, eq_true hlen])) | simp (disch := omega) only [wrapI, wrapU, shl1, shl1', shl1'', shrN, shrN', and_one] | ((with_reducible refine isEx6 ?_); refine ⟨(_, _, _, _, _, _), rfl, ?_, ?_⟩)
          all_goals first | omega | (simp; done) | (simp; omega) | skip
          refine pw_loopS (α := Int × (List Int) × (List Int) × Bool × Bool × Bool) (l0 := ?l1) (m0 := ?m1) (fun x => [(11, .d (.int .i64 x.1)), (10, .d (.bool x.2.2.2.1))]) (fun x => [(76, .row 3 1 x.2.2.2.2.1 (ints x.2.1)), (81, .row 3 1 x.2.2.2.2.2 (ints x.2.2.1))]) (fun x => (0 ≤ x.1 ∧ x.1 ≤ ks.length) ∧ x.2.1 = (ks.take x.1.toNat).map d.swLo ∧ x.2.2.1 = (ks.take x.1.toNat).map d.swHi ∧ x.2.2.2.2.1 = x.2.1.isEmpty ∧ x.2.2.2.2.2 = x.2.2.1.isEmpty ∧ x.2.2.2.1 = insB d ks xs x.1.toNat) (fun x => (ks.length - x.1).toNat) (?a1_0, [], [], true, true, true) ?h01 ?he1 ?he21 ?hI1 ?step1
          case h01 => (simp -implicitDefEqProofs only [go_sem, diskC_eq]; rfl)
          case he1 => rfl
          case he21 => rfl
          case' step1 => (rintro ⟨j, lo, hi, b, b1, b2⟩ hI; try dsimp only at hI)
          case' hI1 => try dsimp only
          · exact ⟨⟨by omega, by omega⟩, by simp, by simp, rfl, rfl, hb0.symm⟩
          · obtain ⟨⟨q1, q2⟩, q3, q4, q5, q6, q7⟩ := hI
            by_cases hj : j < ks.length
            · have w1 : IntKind.i64.wrap (j + 1) = j + 1 := wrapI _ (by omega)
              have m1 := map_snocZ d.swLo ks j.toNat (by omega)
              have m2 := map_snocZ d.swHi ks j.toNat (by omega)
              rw [← q3, show j.toNat + 1 = (j + 1).toNat by omega] at m1
              rw [← q4, show j.toNat + 1 = (j + 1).toNat by omega] at m2
              have l1 : lo.length = j.toNat := by rw [q3]; simp; omega
              have l2 : hi.length = j.toNat := by rw [q4]; simp; omega
              have hemp : ∀ (l : List Int) (z : Int), (l ++ [z]).isEmpty = false := fun l z => isEmpty_snocZ l z
              have hin : insB d ks xs (j + 1).toNat = (b && okB d ks xs j.toNat) := by rw [show (j + 1).toNat = j.toNat + 1 by omega, insB, q7]
              unfold okB at hin
              obtain ⟨e, he⟩ : ∃ e, ks[j.toNat]?.getD 0 = e := ⟨_, rfl⟩
              rw [he] at m1 m2 hin
              have fin1 : ∀ z, insB d ks xs (j + 1).toNat = z → z = insB d ks xs (j + 1).toNat := fun z hz => hz.symm
              cases b with
              | false =>
                rw [Bool.false_and] at hin
                (try (simp -implicitDefEqProofs only [go_sem, diskC_eq, diskD_eq, he, q1, hj, w1])); repeat' first | with_reducible exact True.intro | with_reducible refine And.intro ?_ ?_ | with_reducible intro _ | (((with_reducible refine isCall ?_); first | refine call_b (c4 _) rfl ?_ ?_ | refine call_d (c4 _) rfl ?_ | refine call_sb (c4 _) rfl ?_ ?_ | refine call_s (c4 _) rfl rfl ?_) <;> try (simp -implicitDefEqProofs only [go_sem, diskC_eq, diskD_eq, he, q1, hj, w1])) | (((with_reducible refine vc_b ?_ ?_) <;> intro _) <;> try (simp -implicitDefEqProofs only [go_sem, diskC_eq, diskD_eq, he, q1, hj, w1])) | simp (disch := omega) only [wrapI, wrapU, shl1, shl1', shl1'', shrN, shrN', and_one] | ((with_reducible refine isEx6 ?_); refine ⟨(_, _, _, _, _, _), rfl, ?_, ?_⟩)
                all_goals first | exact m1.symm | exact m2.symm | exact hin.symm | omega | (exact (hemp _ _).symm) | skip
              | true =>
                rw [Bool.true_and] at hin
                have hxl : j < xs.length := by have := insB_len _ q7.symm; omega
                by_cases h0 : e = 0
                · have hz : insB d ks xs (j + 1).toNat = true := by rw [hin, decide_eq_true h0, Bool.true_or]
                  (try (simp -implicitDefEqProofs only [go_sem, diskC_eq, diskD_eq, he, q1, hj, w1, eq_true h0])); repeat' first | with_reducible exact True.intro | with_reducible refine And.intro ?_ ?_ | with_reducible intro _ | (((with_reducible refine isCall ?_); first | refine call_b (c4 _) rfl ?_ ?_ | refine call_d (c4 _) rfl ?_ | refine call_sb (c4 _) rfl ?_ ?_ | refine call_s (c4 _) rfl rfl ?_) <;> try (simp -implicitDefEqProofs only [go_sem, diskC_eq, diskD_eq, he, q1, hj, w1, eq_true h0])) | (((with_reducible refine vc_b ?_ ?_) <;> intro _) <;> try (simp -implicitDefEqProofs only [go_sem, diskC_eq, diskD_eq, he, q1, hj, w1, eq_true h0])) | simp (disch := omega) only [wrapI, wrapU, shl1, shl1', shl1'', shrN, shrN', and_one] | ((with_reducible refine isEx6 ?_); refine ⟨(_, _, _, _, _, _), rfl, ?_, ?_⟩)
                  all_goals first | exact m1.symm | exact m2.symm | exact hz.symm | omega | (exact (hemp _ _).symm) | skip
                · rw [decide_eq_false h0, Bool.false_or] at hin
                  by_cases h1 : d.swLo e ≤ xs[j.toNat]?.getD 0
                  · rw [decide_eq_true h1, Bool.true_and] at hin
                    by_cases h2 : xs[j.toNat]?.getD 0 ≤ d.swHi e
                    · rw [decide_eq_true h2] at hin
                      (try (simp -implicitDefEqProofs only [go_sem, diskC_eq, diskD_eq, he, q1, hj, w1, h0, h1, h2, hxl])); repeat' first | with_reducible exact True.intro | with_reducible refine And.intro ?_ ?_ | with_reducible intro _ | (((with_reducible refine isCall ?_); first | refine call_b (c4 _) rfl ?_ ?_ | refine call_d (c4 _) rfl ?_ | refine call_sb (c4 _) rfl ?_ ?_ | refine call_s (c4 _) rfl rfl ?_) <;> try (simp -implicitDefEqProofs only [go_sem, diskC_eq, diskD_eq, he, q1, hj, w1, h0, h1, h2, hxl])) | (((with_reducible refine vc_b ?_ ?_) <;> intro _) <;> try (simp -implicitDefEqProofs only [go_sem, diskC_eq, diskD_eq, he, q1, hj, w1, h0, h1, h2, hxl])) | simp (disch := omega) only [wrapI, wrapU, shl1, shl1', shl1'', shrN, shrN', and_one] | ((with_reducible refine isEx6 ?_); refine ⟨(_, _, _, _, _, _), rfl, ?_, ?_⟩)
                      all_goals first | exact m1.symm | exact m2.symm | exact hin.symm | omega | (exact (hemp _ _).symm) | skip
                    · rw [decide_eq_false h2] at hin
                      (try (simp -implicitDefEqProofs only [go_sem, diskC_eq, diskD_eq, he, q1, hj, w1, h0, h1, h2, hxl])); repeat' first | with_reducible exact True.intro | with_reducible refine And.intro ?_ ?_ | with_reducible intro _ | (((with_reducible refine isCall ?_); first | refine call_b (c4 _) rfl ?_ ?_ | refine call_d (c4 _) rfl ?_ | refine call_sb (c4 _) rfl ?_ ?_ | refine call_s (c4 _) rfl rfl ?_) <;> try (simp -implicitDefEqProofs only [go_sem, diskC_eq, diskD_eq, he, q1, hj, w1, h0, h1, h2, hxl])) | (((with_reducible refine vc_b ?_ ?_) <;> intro _) <;> try (simp -implicitDefEqProofs only [go_sem, diskC_eq, diskD_eq, he, q1, hj, w1, h0, h1, h2, hxl])) | simp (disch := omega) only [wrapI, wrapU, shl1, shl1', shl1'', shrN, shrN', and_one] | ((with_reducible refine isEx6 ?_); refine ⟨(_, _, _, _, _, _), rfl, ?_, ?_⟩)
                      all_goals first | exact m1.symm | exact m2.symm | exact hin.symm | omega | (exact (hemp _ _).symm) | skip
                  · rw [decide_eq_false h1, Bool.false_and] at hin
                    (try (simp -implicitDefEqProofs only [go_sem, diskC_eq, diskD_eq, he, q1, hj, w1, h0, h1, hxl])); repeat' first | with_reducible exact True.intro | with_reducible refine And.intro ?_ ?_ | with_reducible intro _ | (((with_reducible refine isCall ?_); first | refine call_b (c4 _) rfl ?_ ?_ | refine call_d (c4 _) rfl ?_ | refine call_sb (c4 _) rfl ?_ ?_ | refine call_s (c4 _) rfl rfl ?_) <;> try (simp -implicitDefEqProofs only [go_sem, diskC_eq, diskD_eq, he, q1, hj, w1, h0, h1, hxl])) | (((with_reducible refine vc_b ?_ ?_) <;> intro _) <;> try (simp -implicitDefEqProofs only [go_sem, diskC_eq, diskD_eq, he, q1, hj, w1, h0, h1, hxl])) | simp (disch := omega) only [wrapI, wrapU, shl1, shl1', shl1'', shrN, shrN', and_one] | ((with_reducible refine isEx6 ?_); refine ⟨(_, _, _, _, _, _), rfl, ?_, ?_⟩)
                    all_goals first | exact m1.symm | exact m2.symm | exact hin.symm | omega | (exact (hemp _ _).symm) | skip
            · have hjl : ¬ j < (ks.length : Int) := hj
              have n1 : lo = ks.map d.swLo := by rw [q3, List.take_of_length_le (by omega)]
              have n2 : hi = ks.map d.swHi := by rw [q4, List.take_of_length_le (by omega)]
              rw [show j.toNat = ks.length by omega] at q7
              rw [← n1] at e1; rw [← n2] at e2
              cases b with
              | false =>
                (try (simp -implicitDefEqProofs only [go_sem, diskC_eq, diskD_eq, hjl])); repeat' first | with_reducible exact True.intro | with_reducible refine And.intro ?_ ?_ | with_reducible intro _ | (((with_reducible refine isCall ?_); first | refine call_b (e1 _) rfl ?_ ?_ | refine call_d (e1 _) rfl ?_ | refine call_sb (e1 _) rfl ?_ ?_ | refine call_s (e1 _) rfl rfl ?_ | refine call_b (e2 _) rfl ?_ ?_ | refine call_d (e2 _) rfl ?_ | refine call_sb (e2 _) rfl ?_ ?_ | refine call_s (e2 _) rfl rfl ?_ | refine call_b (cw) rfl ?_ ?_ | refine call_d (cw) rfl ?_ | refine call_sb (cw) rfl ?_ ?_ | refine call_s (cw) rfl rfl ?_) <;> try (simp -implicitDefEqProofs only [go_sem, diskC_eq, diskD_eq, hjl])) | (((with_reducible refine vc_b ?_ ?_) <;> intro _) <;> try (simp -implicitDefEqProofs only [go_sem, diskC_eq, diskD_eq, hjl])) | simp (disch := omega) only [wrapI, wrapU, shl1, shl1', shl1'', shrN, shrN', and_one] | ((with_reducible refine isEx6 ?_); refine ⟨(_, _, _, _, _, _), rfl, ?_, ?_⟩)
              | true =>
                obtain ⟨k1, k2, k3⟩ := hfin q7.symm
                (try (simp -implicitDefEqProofs only [go_sem, diskC_eq, diskD_eq, hjl, k2, k3])); repeat' first | with_reducible exact True.intro | with_reducible refine And.intro ?_ ?_ | with_reducible intro _ | (((with_reducible refine isCall ?_); first | refine call_b (e1 _) rfl ?_ ?_ | refine call_d (e1 _) rfl ?_ | refine call_sb (e1 _) rfl ?_ ?_ | refine call_s (e1 _) rfl rfl ?_ | refine call_b (e2 _) rfl ?_ ?_ | refine call_d (e2 _) rfl ?_ | refine call_sb (e2 _) rfl ?_ ?_ | refine call_s (e2 _) rfl rfl ?_ | refine call_b (cw) rfl ?_ ?_ | refine call_d (cw) rfl ?_ | refine call_sb (cw) rfl ?_ ?_ | refine call_s (cw) rfl rfl ?_ | refine call_b (k1) rfl ?_ ?_ | refine call_d (k1) rfl ?_ | refine call_sb (k1) rfl ?_ ?_ | refine call_s (k1) rfl rfl ?_) <;> try (simp -implicitDefEqProofs only [go_sem, diskC_eq, diskD_eq, hjl, k2, k3])) | (((with_reducible refine vc_b ?_ ?_) <;> intro _) <;> try (simp -implicitDefEqProofs only [go_sem, diskC_eq, diskD_eq, hjl, k2, k3])) | simp (disch := omega) only [wrapI, wrapU, shl1, shl1', shl1'', shrN, shrN', and_one] | ((with_reducible refine isEx6 ?_); refine ⟨(_, _, _, _, _, _), rfl, ?_, ?_⟩)
        · have hb0 : insB d ks xs 0 = false := by simp [insB, hlen]
          (try (simp -implicitDefEqProofs only [go_sem, diskD_eq, diskC_eq, hl, hlen])); repeat' first | with_reducible exact True.intro | with_reducible refine And.intro ?_ ?_ | with_reducible intro _ | (((with_reducible refine isCall ?_); first | refine call_b (c0) rfl ?_ ?_ | refine call_d (c0) rfl ?_ | refine call_sb (c0) rfl ?_ ?_ | refine call_s (c0) rfl rfl ?_ | refine call_b (cw) rfl ?_ ?_ | refine call_d (cw) rfl ?_ | refine call_sb (cw) rfl ?_ ?_ | refine call_s (cw) rfl rfl ?_ | refine call_b (c1) rfl ?_ ?_ | refine call_d (c1) rfl ?_ | refine call_sb (c1) rfl ?_ ?_ | refine call_s (c1) rfl rfl ?_ | refine call_b (c2) rfl ?_ ?_ | refine call_d (c2) rfl ?_ | refine call_sb (c2) rfl ?_ ?_ | refine call_s (c2) rfl rfl ?_ | refine call_b (c3) rfl ?_ ?_ | refine call_d (c3) rfl ?_ | refine call_sb (c3) rfl ?_ ?_ | refine call_s (c3) rfl rfl ?_) <;> try (simp -implicitDefEqProofs only [go_sem, diskD_eq, diskC_eq, hl, hlen])) | (((with_reducible refine vc_b ?_ ?_) <;> intro _) <;> try (simp -implicitDefEqProofs only [go_sem, diskD_eq, diskC_eq, hl, hlen])) | simp (disch := omega) only [wrapI, wrapU, shl1, shl1', shl1'', shrN, shrN', and_one] | ((with_reducible refine isEx6 ?_); refine ⟨(_, _, _, _, _, _), rfl, ?_, ?_⟩)
          all_goals first | omega | (simp; done) | (simp; omega) | skip
          refine pw_loopS (α := Int × (List Int) × (List Int) × Bool × Bool × Bool) (l0 := ?l2) (m0 := ?m2) (fun x => [(11, .d (.int .i64 x.1)), (10, .d (.bool x.2.2.2.1))]) (fun x => [(76, .row 3 1 x.2.2.2.2.1 (ints x.2.1)), (81, .row 3 1 x.2.2.2.2.2 (ints x.2.2.1))]) (fun x => (0 ≤ x.1 ∧ x.1 ≤ ks.length) ∧ x.2.1 = (ks.take x.1.toNat).map d.swLo ∧ x.2.2.1 = (ks.take x.1.toNat).map d.swHi ∧ x.2.2.2.2.1 = x.2.1.isEmpty ∧ x.2.2.2.2.2 = x.2.2.1.isEmpty ∧ x.2.2.2.1 = insB d ks xs x.1.toNat) (fun x => (ks.length - x.1).toNat) (?a2_0, [], [], false, true, true) ?h02 ?he2 ?he22 ?hI2 ?step2
          case h02 => (simp -implicitDefEqProofs only [go_sem, diskC_eq]; rfl)
          case he2 => rfl
          case he22 => rfl
          case' step2 => (rintro ⟨j, lo, hi, b, b1, b2⟩ hI2; try dsimp only at hI2)
          case' hI2 => try dsimp only
          · exact ⟨⟨by omega, by omega⟩, by simp, by simp, rfl, rfl, hb0.symm⟩
          · obtain ⟨⟨q1, q2⟩, q3, q4, q5, q6, q7⟩ := hI2
            by_cases hj : j < ks.length
            · have w1 : IntKind.i64.wrap (j + 1) = j + 1 := wrapI _ (by omega)
              have m1 := map_snocZ d.swLo ks j.toNat (by omega)
              have m2 := map_snocZ d.swHi ks j.toNat (by omega)
              rw [← q3, show j.toNat + 1 = (j + 1).toNat by omega] at m1
              rw [← q4, show j.toNat + 1 = (j + 1).toNat by omega] at m2
              have l1 : lo.length = j.toNat := by rw [q3]; simp; omega
              have l2 : hi.length = j.toNat := by rw [q4]; simp; omega
              have hemp : ∀ (l : List Int) (z : Int), (l ++ [z]).isEmpty = false := fun l z => isEmpty_snocZ l z
              have hin : insB d ks xs (j + 1).toNat = (b && okB d ks xs j.toNat) := by rw [show (j + 1).toNat = j.toNat + 1 by omega, insB, q7]
              unfold okB at hin
              obtain ⟨e, he⟩ : ∃ e, ks[j.toNat]?.getD 0 = e := ⟨_, rfl⟩
              rw [he] at m1 m2 hin
              have fin1 : ∀ z, insB d ks xs (j + 1).toNat = z → z = insB d ks xs (j + 1).toNat := fun z hz => hz.symm
              cases b with
              | false =>
                rw [Bool.false_and] at hin
                (try (simp -implicitDefEqProofs only [go_sem, diskC_eq, diskD_eq, he, q1, hj, w1])); repeat' first | with_reducible exact True.intro | with_reducible refine And.intro ?_ ?_ | with_reducible intro _ | (((with_reducible refine isCall ?_); first | refine call_b (c4 _) rfl ?_ ?_ | refine call_d (c4 _) rfl ?_ | refine call_sb (c4 _) rfl ?_ ?_ | refine call_s (c4 _) rfl rfl ?_) <;> try (simp -implicitDefEqProofs only [go_sem, diskC_eq, diskD_eq, he, q1, hj, w1])) | (((with_reducible refine vc_b ?_ ?_) <;> intro _) <;> try (simp -implicitDefEqProofs only [go_sem, diskC_eq, diskD_eq, he, q1, hj, w1])) | simp (disch := omega) only [wrapI, wrapU, shl1, shl1', shl1'', shrN, shrN', and_one] | ((with_reducible refine isEx6 ?_); refine ⟨(_, _, _, _, _, _), rfl, ?_, ?_⟩)
                all_goals first | exact m1.symm | exact m2.symm | exact hin.symm | omega | (exact (hemp _ _).symm) | skip
              | true =>
                rw [Bool.true_and] at hin
                have hxl : j < xs.length := by have := insB_len _ q7.symm; omega
                by_cases h0 : e = 0
                · have hz : insB d ks xs (j + 1).toNat = true := by rw [hin, decide_eq_true h0, Bool.true_or]
                  (try (simp -implicitDefEqProofs only [go_sem, diskC_eq, diskD_eq, he, q1, hj, w1, eq_true h0])); repeat' first | with_reducible exact True.intro | with_reducible refine And.intro ?_ ?_ | with_reducible intro _ | (((with_reducible refine isCall ?_); first | refine call_b (c4 _) rfl ?_ ?_ | refine call_d (c4 _) rfl ?_ | refine call_sb (c4 _) rfl ?_ ?_ | refine call_s (c4 _) rfl rfl ?_) <;> try (simp -implicitDefEqProofs only [go_sem, diskC_eq, diskD_eq, he, q1, hj, w1, eq_true h0])) | (((with_reducible refine vc_b ?_ ?_) <;> intro _) <;> try (simp -implicitDefEqProofs only [go_sem, diskC_eq, diskD_eq, he, q1, hj, w1, eq_true h0])) | simp (disch := omega) only [wrapI, wrapU, shl1, shl1', shl1'', shrN, shrN', and_one] | ((with_reducible refine isEx6 ?_); refine ⟨(_, _, _, _, _, _), rfl, ?_, ?_⟩)
                  all_goals first | exact m1.symm | exact m2.symm | exact hz.symm | omega | (exact (hemp _ _).symm) | skip
                · rw [decide_eq_false h0, Bool.false_or] at hin
                  by_cases h1 : d.swLo e ≤ xs[j.toNat]?.getD 0
                  · rw [decide_eq_true h1, Bool.true_and] at hin
                    by_cases h2 : xs[j.toNat]?.getD 0 ≤ d.swHi e
                    · rw [decide_eq_true h2] at hin
                      (try (simp -implicitDefEqProofs only [go_sem, diskC_eq, diskD_eq, he, q1, hj, w1, h0, h1, h2, hxl])); repeat' first | with_reducible exact True.intro | with_reducible refine And.intro ?_ ?_ | with_reducible intro _ | (((with_reducible refine isCall ?_); first | refine call_b (c4 _) rfl ?_ ?_ | refine call_d (c4 _) rfl ?_ | refine call_sb (c4 _) rfl ?_ ?_ | refine call_s (c4 _) rfl rfl ?_) <;> try (simp -implicitDefEqProofs only [go_sem, diskC_eq, diskD_eq, he, q1, hj, w1, h0, h1, h2, hxl])) | (((with_reducible refine vc_b ?_ ?_) <;> intro _) <;> try (simp -implicitDefEqProofs only [go_sem, diskC_eq, diskD_eq, he, q1, hj, w1, h0, h1, h2, hxl])) | simp (disch := omega) only [wrapI, wrapU, shl1, shl1', shl1'', shrN, shrN', and_one] | ((with_reducible refine isEx6 ?_); refine ⟨(_, _, _, _, _, _), rfl, ?_, ?_⟩)
                      all_goals first | exact m1.symm | exact m2.symm | exact hin.symm | omega | (exact (hemp _ _).symm) | skip
                    · rw [decide_eq_false h2] at hin
                      (try (simp -implicitDefEqProofs only [go_sem, diskC_eq, diskD_eq, he, q1, hj, w1, h0, h1, h2, hxl])); repeat' first | with_reducible exact True.intro | with_reducible refine And.intro ?_ ?_ | with_reducible intro _ | (((with_reducible refine isCall ?_); first | refine call_b (c4 _) rfl ?_ ?_ | refine call_d (c4 _) rfl ?_ | refine call_sb (c4 _) rfl ?_ ?_ | refine call_s (c4 _) rfl rfl ?_) <;> try (simp -implicitDefEqProofs only [go_sem, diskC_eq, diskD_eq, he, q1, hj, w1, h0, h1, h2, hxl])) | (((with_reducible refine vc_b ?_ ?_) <;> intro _) <;> try (simp -implicitDefEqProofs only [go_sem, diskC_eq, diskD_eq, he, q1, hj, w1, h0, h1, h2, hxl])) | simp (disch := omega) only [wrapI, wrapU, shl1, shl1', shl1'', shrN, shrN', and_one] | ((with_reducible refine isEx6 ?_); refine ⟨(_, _, _, _, _, _), rfl, ?_, ?_⟩)
                      all_goals first | exact m1.symm | exact m2.symm | exact hin.symm | omega | (exact (hemp _ _).symm) | skip
                  · rw [decide_eq_false h1, Bool.false_and] at hin
                    (try (simp -implicitDefEqProofs only [go_sem, diskC_eq, diskD_eq, he, q1, hj, w1, h0, h1, hxl])); repeat' first | with_reducible exact True.intro | with_reducible refine And.intro ?_ ?_ | with_reducible intro _ | (((with_reducible refine isCall ?_); first | refine call_b (c4 _) rfl ?_ ?_ | refine call_d (c4 _) rfl ?_ | refine call_sb (c4 _) rfl ?_ ?_ | refine call_s (c4 _) rfl rfl ?_) <;> try (simp -implicitDefEqProofs only [go_sem, diskC_eq, diskD_eq, he, q1, hj, w1, h0, h1, hxl])) | (((with_reducible refine vc_b ?_ ?_) <;> intro _) <;> try (simp -implicitDefEqProofs only [go_sem, diskC_eq, diskD_eq, he, q1, hj, w1, h0, h1, hxl])) | simp (disch := omega) only [wrapI, wrapU, shl1, shl1', shl1'', shrN, shrN', and_one] | ((with_reducible refine isEx6 ?_); refine ⟨(_, _, _, _, _, _), rfl, ?_, ?_⟩)
                    all_goals first | exact m1.symm | exact m2.symm | exact hin.symm | omega | (exact (hemp _ _).symm) | skip
            · have hjl : ¬ j < (ks.length : Int) := hj
              have n1 : lo = ks.map d.swLo := by rw [q3, List.take_of_length_le (by omega)]
              have n2 : hi = ks.map d.swHi := by rw [q4, List.take_of_length_le (by omega)]
              rw [show j.toNat = ks.length by omega] at q7
              rw [← n1] at e1; rw [← n2] at e2
              cases b with
              | false =>
                (try (simp -implicitDefEqProofs only [go_sem, diskC_eq, diskD_eq, hjl])); repeat' first | with_reducible exact True.intro | with_reducible refine And.intro ?_ ?_ | with_reducible intro _ | (((with_reducible refine isCall ?_); first | refine call_b (e1 _) rfl ?_ ?_ | refine call_d (e1 _) rfl ?_ | refine call_sb (e1 _) rfl ?_ ?_ | refine call_s (e1 _) rfl rfl ?_ | refine call_b (e2 _) rfl ?_ ?_ | refine call_d (e2 _) rfl ?_ | refine call_sb (e2 _) rfl ?_ ?_ | refine call_s (e2 _) rfl rfl ?_ | refine call_b (cw) rfl ?_ ?_ | refine call_d (cw) rfl ?_ | refine call_sb (cw) rfl ?_ ?_ | refine call_s (cw) rfl rfl ?_) <;> try (simp -implicitDefEqProofs only [go_sem, diskC_eq, diskD_eq, hjl])) | (((with_reducible refine vc_b ?_ ?_) <;> intro _) <;> try (simp -implicitDefEqProofs only [go_sem, diskC_eq, diskD_eq, hjl])) | simp (disch := omega) only [wrapI, wrapU, shl1, shl1', shl1'', shrN, shrN', and_one] | ((with_reducible refine isEx6 ?_); refine ⟨(_, _, _, _, _, _), rfl, ?_, ?_⟩)
              | true =>
                obtain ⟨k1, k2, k3⟩ := hfin q7.symm
                (try (simp -implicitDefEqProofs only [go_sem, diskC_eq, diskD_eq, hjl, k2, k3])); repeat' first | with_reducible exact True.intro | with_reducible refine And.intro ?_ ?_ | with_reducible intro _ | (((with_reducible refine isCall ?_); first | refine call_b (e1 _) rfl ?_ ?_ | refine call_d (e1 _) rfl ?_ | refine call_sb (e1 _) rfl ?_ ?_ | refine call_s (e1 _) rfl rfl ?_ | refine call_b (e2 _) rfl ?_ ?_ | refine call_d (e2 _) rfl ?_ | refine call_sb (e2 _) rfl ?_ ?_ | refine call_s (e2 _) rfl rfl ?_ | refine call_b (cw) rfl ?_ ?_ | refine call_d (cw) rfl ?_ | refine call_sb (cw) rfl ?_ ?_ | refine call_s (cw) rfl rfl ?_ | refine call_b (k1) rfl ?_ ?_ | refine call_d (k1) rfl ?_ | refine call_sb (k1) rfl ?_ ?_ | refine call_s (k1) rfl rfl ?_) <;> try (simp -implicitDefEqProofs only [go_sem, diskC_eq, diskD_eq, hjl, k2, k3])) | (((with_reducible refine vc_b ?_ ?_) <;> intro _) <;> try (simp -implicitDefEqProofs only [go_sem, diskC_eq, diskD_eq, hjl, k2, k3])) | simp (disch := omega) only [wrapI, wrapU, shl1, shl1', shl1'', shrN, shrN', and_one] | ((with_reducible refine isEx6 ?_); refine ⟨(_, _, _, _, _, _), rfl, ?_, ?_⟩)
    · rw [decide_eq_false hr] at c1
      (try (simp -implicitDefEqProofs only [go_sem, diskD_eq, diskC_eq])); repeat' first | with_reducible exact True.intro | with_reducible refine And.intro ?_ ?_ | with_reducible intro _ | (((with_reducible refine isCall ?_); first | refine call_b (c0) rfl ?_ ?_ | refine call_d (c0) rfl ?_ | refine call_sb (c0) rfl ?_ ?_ | refine call_s (c0) rfl rfl ?_ | refine call_b (cw) rfl ?_ ?_ | refine call_d (cw) rfl ?_ | refine call_sb (cw) rfl ?_ ?_ | refine call_s (cw) rfl rfl ?_ | refine call_b (c1) rfl ?_ ?_ | refine call_d (c1) rfl ?_ | refine call_sb (c1) rfl ?_ ?_ | refine call_s (c1) rfl rfl ?_) <;> try (simp -implicitDefEqProofs only [go_sem, diskD_eq, diskC_eq])) | (((with_reducible refine vc_b ?_ ?_) <;> intro _) <;> try (simp -implicitDefEqProofs only [go_sem, diskD_eq, diskC_eq])) | simp (disch := omega) only [wrapI, wrapU, shl1, shl1', shl1'', shrN, shrN', and_one] | ((with_reducible refine isEx6 ?_); refine ⟨(_, _, _, _, _, _), rfl, ?_, ?_⟩)
end Go.Pw
