/- A part of the proof. -/
import Derived.Test.YtiphmemigdplgaaDoorJournalJ
set_option linter.all false
open Go Go.Pw Go.Proofs
namespace Go.Pw
set_option linter.unusedSimpArgs false
set_option linter.unusedVariables false
set_option maxRecDepth 100000
set_option maxHeartbeats 3200000
theorem sumF_nn {f : Int → Int} (h : ∀ n, 0 ≤ f n) (a : Int) : ∀ m, 0 ≤ sumF f a m
  | 0 => by simp [sumF]
  | m + 1 => by have := sumF_nn h a m; have := h (a + m); rw [sumF]; omega
theorem sumF_part {f : Int → Int} (h : ∀ n, 0 ≤ f n) (a : Int) {u v m : Nat} (hm : u + v ≤ m) : sumF f (a + u) v ≤ sumF f a m := by
  have e : m = u + (v + (m - u - v)) := by omega
  rw [e, sumF_add, sumF_add]
  have := sumF_nn h a u
  have := sumF_nn h (a + u + v) (m - u - v)
  omega
/-- A part of a run takes no longer. -/
theorem run_part {d : GDisk} (g : d.Good) (a : Int) {u v m : Nat} (hv : 1 ≤ v) (hm : u + v ≤ m) : d.low (a + u) v ≤ d.low a m ∧ d.high (a + u) v ≤ d.high a m := by
  have t1 := g.t1
  have h1 : d.ticksR (a + u) v ≤ d.ticksR a m := sumF_part (fun n => (ownN_bound g n).1) a hm
  have hs : ∀ e, d.swR e (a + u) v ≤ d.swR e a m := fun e => by
    have := sumF_part (f := d.isK e) (fun n => (isK_bound e n).1) (a + 1) (u := u) (v := v - 1) (m := m - 1) (by omega)
    unfold GDisk.swR
    rw [show a + (u : Int) + 1 = a + 1 + u by omega]; exact this
  have s1 := hs 1; have s2 := hs 2
  have nn : ∀ s x, 0 ≤ s → 0 ≤ gapV d.turn s x := fun s x hs => by
    obtain ⟨k0, _, _⟩ := gapT_spec (t := d.turn) (skew := s) (ticks := x) (by omega)
    have := Int.mul_nonneg k0 (show (0 : Int) ≤ d.turn by omega)
    unfold gapV; omega
  have m1 := Int.mul_le_mul_of_nonneg_left s1 (nn d.hskew d.hlo g.k1)
  have m2 := Int.mul_le_mul_of_nonneg_left s2 (nn d.cskew d.clo g.c1)
  have m3 := Int.mul_le_mul_of_nonneg_left s1 (nn d.hskew d.hhi g.k1)
  have m4 := Int.mul_le_mul_of_nonneg_left s2 (nn d.cskew d.chi g.c1)
  unfold GDisk.low GDisk.high
  omega
theorem gapVm {t s x y : Int} (ht : 0 < t) (h : x ≤ y) : gapV t s x ≤ gapV t s y := by
  obtain ⟨a0, a1, a2⟩ := gapT_spec (t := t) (skew := s) (ticks := x) ht
  obtain ⟨b0, b1, b2⟩ := gapT_spec (t := t) (skew := s) (ticks := y) ht
  have h0 : gapT t s x ≤ gapT t s y := by
    rcases Int.lt_or_le (gapT t s y) (gapT t s x) with h1 | h1
    · have := a2 _ h1 b0; omega
    · exact h1
  unfold gapV
  have := Int.mul_le_mul_of_nonneg_right h0 (show (0 : Int) ≤ t by omega)
  omega
theorem low_le_high {d : GDisk} (g : d.Good) (a : Int) (m : Nat) : d.low a m ≤ d.high a m := by
  have t1 := g.t1
  have b1 := swR_bound (d := d) 1 a m
  have b2 := swR_bound (d := d) 2 a m
  have m1 := Int.mul_le_mul_of_nonneg_right (gapVm (t := d.turn) (s := d.hskew) (by omega) g.s2) b1.1
  have m2 := Int.mul_le_mul_of_nonneg_right (gapVm (t := d.turn) (s := d.cskew) (by omega) g.s5) b2.1
  unfold GDisk.low GDisk.high
  omega
theorem low_ge1 {d : GDisk} (g : d.Good) {a : Int} {m : Nat} (ha : 0 ≤ a) (hm : 1 ≤ m) (hs : a + m ≤ d.size) : 1 ≤ d.low a m := by
  have t1 := g.t1
  obtain ⟨k, hk⟩ := Option.isSome_iff_exists.1 ((kOf_iff g (a + ((m - 1 : Nat) : Int))).2 (by omega))
  have h1 := own_in g (kOf_spec hk).1 (kOf_spec hk).2
  have h2 := g.own (kOf_spec hk).1
  have h3 := ticksR_bound g a (m - 1)
  have h4 : d.ticksR a m = d.ticksR a (m - 1) + d.ownN (a + ((m - 1 : Nat) : Int)) := by
    unfold GDisk.ticksR
    rw [show m = m - 1 + 1 by omega, sumF, show m - 1 + 1 - 1 = m - 1 by omega]
  have b1 := swR_bound (d := d) 1 a m
  have b2 := swR_bound (d := d) 2 a m
  have nn : ∀ s x, 0 ≤ s → 0 ≤ gapV d.turn s x := fun s x hs => by
    obtain ⟨k0, _, _⟩ := gapT_spec (t := d.turn) (skew := s) (ticks := x) (by omega)
    have := Int.mul_nonneg k0 (show (0 : Int) ≤ d.turn by omega)
    unfold gapV; omega
  have m1 := Int.mul_nonneg (nn d.hskew d.hlo g.k1) b1.1
  have m2 := Int.mul_nonneg (nn d.cskew d.clo g.c1) b2.1
  unfold GDisk.low
  omega
attribute [local congr] cg_pw cg_seqI cg_seqE cg_stepI cg_ev cg_evBin cg_condB cg_condV cg_thenQ cg_blockQ cg_onSome cg_onCells cg_onRow cg_onMap cg_onOpt cg_ghosts cg_ghost cg_evCall cg_part cg_rng cg_guardV cg_frzV cg_frpV cg_ownV cg_owcV cg_occV cg_occX cg_resK cg_res1 cg_yldP cg_rndE cg_onlyN cg_onHist
attribute [local irreducible] IntKind.wrap bitsOp Option.getD and or

theorem JournalScan_ret (l : GLog) (hs : l.sn = true → l.slots = []) (hz : l.disk.zn = true → l.disk.zones = []) : Ret E0 F_law16_JournalScan [logD l] (.bool true) := by
  refine ret_of_pw dec_law16_JournalScan mixed (by simp) fun hwf => ?_
  have c0 := law16_Far_ret l
  have cw := law16_works_ret
  have c1 := ref16_Check_ret l
  rw [enter_eq]; unfold pc_law16_JournalScan
  cases hf : l.far with
  | true =>
    rw [hf] at c0
    (try (simp -implicitDefEqProofs only [go_sem, logD_eq, logC_eq])); repeat' first | with_reducible exact True.intro | with_reducible refine And.intro ?_ ?_ | with_reducible intro _ | (((with_reducible refine isCall ?_); first | refine call_b (c0) rfl ?_ ?_ | refine call_d (c0) rfl ?_ | refine call_sb (c0) rfl ?_ ?_ | refine call_s (c0) rfl rfl ?_ | refine call_b (cw) rfl ?_ ?_ | refine call_d (cw) rfl ?_ | refine call_sb (cw) rfl ?_ ?_ | refine call_s (cw) rfl rfl ?_) <;> try (simp -implicitDefEqProofs only [go_sem, logD_eq, logC_eq])) | (((with_reducible refine vc_b ?_ ?_) <;> intro _) <;> try (simp -implicitDefEqProofs only [go_sem, logD_eq, logC_eq])) | simp (disch := omega) only [wrapI, wrapU, shl1, shl1', shl1'', shrN, shrN', and_one] 
  | false =>
    rw [hf] at c0
    by_cases hc : l.check = 0
    · rw [hc] at c1
      have g := check_good hc
      have gd := good_of g.d
      have m1 := g.m1; have m2 := g.m2; have f1 := g.f1; have f2 := g.f2
      have hsz := size_bound gd
      have hr : l.disk.isRun l.from' l.slots.length := ⟨⟨f1, by omega⟩, f2⟩
      have c2 := journal_Scan_ret l
      unfold GLog.scan at c2
      rw [if_neg (by simpa using hc), J_run_of g.d hr] at c2
      have c3 := zones_Run_ret l.disk l.from' l.slots.length
      rw [J_run_of g.d hr] at c3
      have h1 := low_ge1 gd (a := l.from') (m := l.slots.length) f1 (by omega) f2
      have h2 := low_le_high gd l.from' l.slots.length
      rw [show ((l.slots.length : Nat) : Int).toNat = l.slots.length by simp] at c2 c3
      have z1 : ¬ l.disk.low l.from' l.slots.length < 1 := by omega
      have z2 : ¬ l.disk.high l.from' l.slots.length < l.disk.low l.from' l.slots.length := by omega
      have c4 := journal_Recover_ret l hs hz
      rw [diskD_eq, diskC_eq] at c3
      by_cases he : l.openE = 0
      · obtain ⟨e1, e2⟩ := openE_0 he
        have hrec : l.recE = l.kept := by unfold GLog.recE; rw [if_pos he]
        rw [he, hrec] at c4
        have hkl := kept_len l
        have hrb := room_bound g e2
        obtain ⟨n1, n2, n3⟩ := newest_good g
        by_cases hk : l.kept = []
        · rw [hk, recsD_nil] at c4
          (try (simp -implicitDefEqProofs only [go_sem, logD_eq, logC_eq, z1, z2, recsD_len, List.length_nil])); repeat' first | with_reducible exact True.intro | with_reducible refine And.intro ?_ ?_ | with_reducible intro _ | (((with_reducible refine isCall ?_); first | refine call_b (c0) rfl ?_ ?_ | refine call_d (c0) rfl ?_ | refine call_sb (c0) rfl ?_ ?_ | refine call_s (c0) rfl rfl ?_ | refine call_b (cw) rfl ?_ ?_ | refine call_d (cw) rfl ?_ | refine call_sb (cw) rfl ?_ ?_ | refine call_s (cw) rfl rfl ?_ | refine call_b (c1) rfl ?_ ?_ | refine call_d (c1) rfl ?_ | refine call_sb (c1) rfl ?_ ?_ | refine call_s (c1) rfl rfl ?_ | refine call_b (c2) rfl ?_ ?_ | refine call_d (c2) rfl ?_ | refine call_sb (c2) rfl ?_ ?_ | refine call_s (c2) rfl rfl ?_ | refine call_b (c3) rfl ?_ ?_ | refine call_d (c3) rfl ?_ | refine call_sb (c3) rfl ?_ ?_ | refine call_s (c3) rfl rfl ?_ | refine call_b (c4) rfl ?_ ?_ | refine call_d (c4) rfl ?_ | refine call_sb (c4) rfl ?_ ?_ | refine call_s (c4) rfl rfl ?_) <;> try (simp -implicitDefEqProofs only [go_sem, logD_eq, logC_eq, z1, z2, recsD_len, List.length_nil])) | (((with_reducible refine vc_b ?_ ?_) <;> intro _) <;> try (simp -implicitDefEqProofs only [go_sem, logD_eq, logC_eq, z1, z2, recsD_len, List.length_nil])) | simp (disch := omega) only [wrapI, wrapU, shl1, shl1', shl1'', shrN, shrN', and_one] 
          all_goals first | omega | (simp; done)
        · have hk1 : 1 ≤ l.many := by rw [← hkl]; exact List.length_pos_iff.2 hk
          obtain ⟨r, hr0, hr1, hr2, hr3, hr4⟩ := kept_good g e2 (i := 0) (by omega)
          have hr2' : r.num = l.newest.tail := by rw [hr2]; simp
          have hmle : l.many ≤ l.slots.length := by unfold GLog.many; omega
          have t1 := Int.tmod_nonneg (l.slots.length : Int) (show 0 ≤ r.num by omega)
          have t2 := Int.tmod_lt_of_pos r.num (b := (l.slots.length : Int)) (by omega)
          generalize l.kept = ks at *
          obtain ⟨f, hfe⟩ : ∃ f, r.num.tmod l.slots.length = f := ⟨_, rfl⟩
          rw [hfe] at t1 t2
          obtain ⟨v, hve⟩ : ∃ v, min (ks.length : Int) ((l.slots.length : Int) - f) = v := ⟨_, rfl⟩
          have hr' : l.disk.isRun (l.from' + f) v := ⟨⟨by omega, by omega⟩, by omega⟩
          have c5 := zones_Run_ret l.disk (l.from' + f) v
          rw [J_run_of g.d hr'] at c5
          rw [diskD_eq, diskC_eq] at c5
          have hp := run_part gd l.from' (u := f.toNat) (v := v.toNat) (m := l.slots.length) (by omega) (by omega)
          rw [show l.from' + ((f.toNat : Nat) : Int) = l.from' + f by omega] at hp
          obtain ⟨p1, p2⟩ := hp
          have hmax : max 0 f = f := by omega
          have w1 : IntKind.i64.wrap ((l.slots.length : Int) - f) = l.slots.length - f := wrapI _ (by omega)
          have w2 : IntKind.i64.wrap (l.from' + f) = l.from' + f := wrapI _ (by omega)
          have e5 : ¬ (l.slots.length : Int) = 0 := by omega
          have e6 : ¬ (ks.length : Int) = 0 := by omega
          have e7 : ¬ (l.slots.length : Int) < ks.length := by omega
          have e8 : (0 : Int) < ks.length := by omega
          (try (simp -implicitDefEqProofs only [go_sem, logD_eq, logC_eq, z1, z2, recsD_len, onSome_recs, recsD_unif, recD_eq, recC_eq, hr0, hfe, hve, hmax, w1, w2, e5, e6, e7, e8, p1, p2])); repeat' first | with_reducible exact True.intro | with_reducible refine And.intro ?_ ?_ | with_reducible intro _ | (((with_reducible refine isCall ?_); first | refine call_b (c0) rfl ?_ ?_ | refine call_d (c0) rfl ?_ | refine call_sb (c0) rfl ?_ ?_ | refine call_s (c0) rfl rfl ?_ | refine call_b (cw) rfl ?_ ?_ | refine call_d (cw) rfl ?_ | refine call_sb (cw) rfl ?_ ?_ | refine call_s (cw) rfl rfl ?_ | refine call_b (c1) rfl ?_ ?_ | refine call_d (c1) rfl ?_ | refine call_sb (c1) rfl ?_ ?_ | refine call_s (c1) rfl rfl ?_ | refine call_b (c2) rfl ?_ ?_ | refine call_d (c2) rfl ?_ | refine call_sb (c2) rfl ?_ ?_ | refine call_s (c2) rfl rfl ?_ | refine call_b (c3) rfl ?_ ?_ | refine call_d (c3) rfl ?_ | refine call_sb (c3) rfl ?_ ?_ | refine call_s (c3) rfl rfl ?_ | refine call_b (c4) rfl ?_ ?_ | refine call_d (c4) rfl ?_ | refine call_sb (c4) rfl ?_ ?_ | refine call_s (c4) rfl rfl ?_ | refine call_b (c5) rfl ?_ ?_ | refine call_d (c5) rfl ?_ | refine call_sb (c5) rfl ?_ ?_ | refine call_s (c5) rfl rfl ?_) <;> try (simp -implicitDefEqProofs only [go_sem, logD_eq, logC_eq, z1, z2, recsD_len, onSome_recs, recsD_unif, recD_eq, recC_eq, hr0, hfe, hve, hmax, w1, w2, e5, e6, e7, e8, p1, p2])) | (((with_reducible refine vc_b ?_ ?_) <;> intro _) <;> try (simp -implicitDefEqProofs only [go_sem, logD_eq, logC_eq, z1, z2, recsD_len, onSome_recs, recsD_unif, recD_eq, recC_eq, hr0, hfe, hve, hmax, w1, w2, e5, e6, e7, e8, p1, p2])) | simp (disch := omega) only [wrapI, wrapU, shl1, shl1', shl1'', shrN, shrN', and_one] 
          all_goals first | omega | (simp; done)
      · have he2 : l.openE = 161 := by
          unfold GLog.openE at he ⊢
          rw [if_neg (by simpa using hc)] at he ⊢
          cases hfu : l.full with
          | true => rw [hfu] at he; simp at he
          | false => rfl
        rw [he2] at c4
        (try (simp -implicitDefEqProofs only [go_sem, logD_eq, logC_eq, z1, z2, recsD_len, List.length_nil])); repeat' first | with_reducible exact True.intro | with_reducible refine And.intro ?_ ?_ | with_reducible intro _ | (((with_reducible refine isCall ?_); first | refine call_b (c0) rfl ?_ ?_ | refine call_d (c0) rfl ?_ | refine call_sb (c0) rfl ?_ ?_ | refine call_s (c0) rfl rfl ?_ | refine call_b (cw) rfl ?_ ?_ | refine call_d (cw) rfl ?_ | refine call_sb (cw) rfl ?_ ?_ | refine call_s (cw) rfl rfl ?_ | refine call_b (c1) rfl ?_ ?_ | refine call_d (c1) rfl ?_ | refine call_sb (c1) rfl ?_ ?_ | refine call_s (c1) rfl rfl ?_ | refine call_b (c2) rfl ?_ ?_ | refine call_d (c2) rfl ?_ | refine call_sb (c2) rfl ?_ ?_ | refine call_s (c2) rfl rfl ?_ | refine call_b (c3) rfl ?_ ?_ | refine call_d (c3) rfl ?_ | refine call_sb (c3) rfl ?_ ?_ | refine call_s (c3) rfl rfl ?_ | refine call_b (c4) rfl ?_ ?_ | refine call_d (c4) rfl ?_ | refine call_sb (c4) rfl ?_ ?_ | refine call_s (c4) rfl rfl ?_) <;> try (simp -implicitDefEqProofs only [go_sem, logD_eq, logC_eq, z1, z2, recsD_len, List.length_nil])) | (((with_reducible refine vc_b ?_ ?_) <;> intro _) <;> try (simp -implicitDefEqProofs only [go_sem, logD_eq, logC_eq, z1, z2, recsD_len, List.length_nil])) | simp (disch := omega) only [wrapI, wrapU, shl1, shl1', shl1'', shrN, shrN', and_one] 
        all_goals first | omega | (simp; done)
    · (try (simp -implicitDefEqProofs only [go_sem, logD_eq, logC_eq, hc])); repeat' first | with_reducible exact True.intro | with_reducible refine And.intro ?_ ?_ | with_reducible intro _ | (((with_reducible refine isCall ?_); first | refine call_b (c0) rfl ?_ ?_ | refine call_d (c0) rfl ?_ | refine call_sb (c0) rfl ?_ ?_ | refine call_s (c0) rfl rfl ?_ | refine call_b (cw) rfl ?_ ?_ | refine call_d (cw) rfl ?_ | refine call_sb (cw) rfl ?_ ?_ | refine call_s (cw) rfl rfl ?_ | refine call_b (c1) rfl ?_ ?_ | refine call_d (c1) rfl ?_ | refine call_sb (c1) rfl ?_ ?_ | refine call_s (c1) rfl rfl ?_) <;> try (simp -implicitDefEqProofs only [go_sem, logD_eq, logC_eq, hc])) | (((with_reducible refine vc_b ?_ ?_) <;> intro _) <;> try (simp -implicitDefEqProofs only [go_sem, logD_eq, logC_eq, hc])) | simp (disch := omega) only [wrapI, wrapU, shl1, shl1', shl1'', shrN, shrN', and_one] 
end Go.Pw
