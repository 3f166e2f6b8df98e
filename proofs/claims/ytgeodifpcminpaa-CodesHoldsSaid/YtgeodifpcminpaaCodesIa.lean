/- A part of the proof. -/
import Derived.Test.YtgeodifpcminpaaPgCodesHq
set_option linter.all false
open Go Go.Pw Go.Proofs
namespace Go.Pw
set_option linter.unusedSimpArgs false
set_option linter.unusedVariables false
set_option maxRecDepth 100000
set_option maxHeartbeats 6400000
theorem runsD_snoc (l : List GRun) (a z : Int) (o : Bool) : runsD l ++ [.agg [.int .i64 a, .int .i64 z, .bool o]] = runsD (l ++ [(a, z, o)]) := by simp [runsD, runD, runC]
theorem isEmpty_snocR' (l : List GRun) (x : GRun) : (l ++ [x]).isEmpty = false := by simp
theorem runs_len {c : GCode} (h : c.ok = true) {l : List GRun} (hn : l.Nodup) (ho : ∀ r, r ∈ l → c.RunOk r) : l.length ≤ 104 := by
  have hd := GCode.ok_head h
  have hs : ∀ q, q ∈ l → 0 ≤ q.1 ∧ q.1 ≤ 3 ∧ 0 ≤ q.2.1 ∧ q.2.1 ≤ 12 := fun q hq => by
    have := ho q hq
    unfold GCode.RunOk at this
    simp only [GCode.isState, inR, decide_eq_true_eq] at this
    omega
  have hm := nodup_lt 104 (l.map fun q => (q.1 * 26 + q.2.1 * 2 + (if q.2.2 then 1 else 0)).toNat) (by
    rw [List.Nodup, List.pairwise_map]
    refine List.Pairwise.imp_of_mem ?_ hn
    intro a b ha hb hne he
    have h1 := hs a ha
    have h2 := hs b hb
    apply hne
    obtain ⟨a1, a2, a3⟩ := a
    obtain ⟨b1, b2, b3⟩ := b
    simp only at h1 h2 he
    cases a3 <;> cases b3 <;> simp only [Bool.false_eq_true, if_true, if_false] at he
    · rw [show a1 = b1 by omega, show a2 = b2 by omega]
    · omega
    · omega
    · rw [show a1 = b1 by omega, show a2 = b2 by omega]) fun x hx => by
      simp only [List.mem_map] at hx
      obtain ⟨q, hq, rfl⟩ := hx
      have := hs q hq
      split <;> omega
  simpa using hm
theorem starts_next (c : GCode) (i : Int) (h0 : 0 ≤ i) (h : i < c.words.length) : c.starts.take (i + 1).toNat = c.starts.take i.toNat ++ [(i, 0, false)] := by
  rw [show (i + 1).toNat = i.toNat + 1 by omega, List.take_add_one]
  congr 1
  unfold GCode.starts
  simp [show i.toNat < c.words.length by omega]
  omega
theorem starts_all (c : GCode) (i : Int) (h : ¬ i < c.words.length) : c.starts.take i.toNat = c.starts := by
  rw [List.take_of_length_le]; unfold GCode.starts; simp; omega
theorem starts_good {c : GCode} (h : c.ok = true) : c.starts.Nodup ∧ ∀ r, r ∈ c.starts → c.RunOk r := by
  refine ⟨?_, fun r hr => lev_ok h (starts_mem.1 hr)⟩
  unfold GCode.starts
  rw [List.Nodup, List.pairwise_map]
  refine List.Pairwise.imp ?_ List.nodup_range
  intro a b hab he
  exact hab (by have := congrArg (·.1) he; simp at this; omega)
theorem refW_at {c : GCode} {m : GRun} {w : Int} {nx : List GRun} (h0 : 0 ≤ w) (hw : w < c.W) : c.refW m (c.W - w.toNat) w nx = (c.stp m w).bind fun o => c.refW m (c.W - (w + 1).toNat) (w + 1) (if o ∈ nx then nx else nx ++ [o]) := by
  rw [show c.W - w.toNat = (c.W - (w + 1).toNat) + 1 by omega, GCode.refW]
  cases c.stp m w <;> rfl
theorem refM_at {c : GCode} {l nx : List GRun} {i : Int} (h0 : 0 ≤ i) (hi : i < l.length) : c.refM (l.drop i.toNat) nx = (c.refW (l[i.toNat]?.getD default) c.W 0 nx).bind fun nx' => c.refM (l.drop (i + 1).toNat) nx' := by
  rw [show (i + 1).toNat = i.toNat + 1 by omega, List.drop_eq_getElem_cons (by omega), GCode.refM, List.getElem?_eq_getElem (by omega), Option.getD_some]
  cases c.refW l[i.toNat] c.W 0 nx <;> rfl
theorem refN_at (c : GCode) (k : Nat) (n : Int) (now : List GRun) : c.refN (k + 1) n now = (c.refM now []).elim n fun nx => c.refN k (n + 1) nx := by
  rw [GCode.refN]; cases c.refM now [] <;> rfl
theorem W_pow' (c : GCode) : (2 : Int) ^ c.bits.toNat = c.W := by unfold GCode.W; simp
theorem mem_take_next {l : List GRun} {r : GRun} {k : Int} (h0 : 0 ≤ k) (h : k < l.length) : decide (r ∈ l.take (k + 1).toNat) = (decide (r ∈ l.take k.toNat) || decide (l[k.toNat]?.getD default = r)) := by
  rw [show (k + 1).toNat = k.toNat + 1 by omega, List.take_add_one, List.getElem?_eq_getElem (by omega)]
  simp only [Option.toList_some, Option.getD_some, List.mem_append, List.mem_singleton]
  rw [Bool.decide_or]
  congr 1
  exact decide_eq_decide.2 ⟨Eq.symm, Eq.symm⟩
theorem scanB_at {xs : List Int} {j z : Int} {o : Bool} (h0 : 0 ≤ j) (h : j < xs.length) : scanB (xs.drop j.toNat) z o = if xs[j.toNat]?.getD 0 = 1 then scanB (xs.drop (j + 1).toNat) 0 true else scanB (xs.drop (j + 1).toNat) (z + 1) o := by
  rw [drop_next h0 h, scanB]
def pd_ref04_breach : PC :=
  .seq (.reg [] (
    ⟨some 2, none, .box, [.t 0]⟩ ::
    ⟨some 4, none, .mov, [.k (.d (.int .i64 0))]⟩ ::
    []) [1, 2])
  (.seq (.reg [] (
    ⟨some 5, none, .mov, [.k (.d (.list true []))]⟩ ::
    []) [1, 2, 5])
  (.seq (.seq (.reg [] (
    ⟨some 6, none, .mov, [.k (.d (.int .i64 0))]⟩ ::
    []) [1, 2, 5, 6])
  (.block 0
    (.loop [.own 5 28 112 3] [1, 2, 5, 6] [2, 28, 126, 900000, 900001, 901000, 901001]
      (.seq (.seq (.reg [] (
        ⟨some 17, none, .mov, [.t 6]⟩ ::
        ⟨some 18, none, .faddr 4, [.t 2]⟩ ::
        ⟨some 19, none, .load false 1, [.t 18]⟩ ::
        ⟨some 20, none, .len false, [.t 19]⟩ ::
        ⟨some 21, none, .bin .lss, [.t 17, .t 20]⟩ ::
        []) [1, 2, 5, 6, 21])
      (.cond (.t 21)
        (.skip)
        (.exit 0)))
      (.seq (.block 1
        (.reg [] (
          ⟨some 24, none, .mov, [.t 5]⟩ ::
          ⟨some 25, none, .mov, [.t 6]⟩ ::
          ⟨some 26, none, .build [.int .i64 0, .int .i64 0, .bool false] [(0, 1), (1, 1), (2, 1)], [.t 25, .k (.d (.int .i64 0)), .k (.d (.bool false))]⟩ ::
          ⟨some 27, none, .mkrow 3 (.agg [.int .i64 0, .int .i64 0, .bool false]) 1 [0], [.t 26]⟩ ::
          ⟨some 28, none, .app 112 3 none true, [.t 24, .t 27]⟩ ::
          ⟨some 5, none, .mov, [.t 28]⟩ ::
          []) [1, 2, 5, 6]))
      (.reg [] (
        ⟨some 22, none, .mov, [.t 6]⟩ ::
        ⟨some 23, none, .bin .add, [.t 22, .k (.d (.int .i64 1))]⟩ ::
        ⟨some 6, none, .mov, [.t 23]⟩ ::
        []) [1, 2, 5, 6]))))))
  (.seq (.seq (.reg [] (
    ⟨some 7, none, .mov, [.k (.d (.int .i64 1))]⟩ ::
    []) [1, 2, 5, 7])
  (.block 2
    (.loop [.freeze 5] [1, 2, 5, 7] [2, 900000, 900001, 901000, 901001]
      (.seq (.seq (.reg [] (
        ⟨some 29, none, .mov, [.t 7]⟩ ::
        ⟨some 30, none, .mov, [.t 1]⟩ ::
        ⟨some 31, none, .bin .leq, [.t 29, .t 30]⟩ ::
        []) [1, 2, 5, 7, 31])
      (.cond (.t 31)
        (.skip)
        (.exit 2)))
      (.seq (.block 3
        (.seq (.reg [] (
          ⟨some 8, none, .mov, [.k (.d (.list true []))]⟩ ::
          []) [1, 2, 5, 7, 8])
        (.seq (.seq (.reg [] (
          ⟨some 9, none, .mov, [.k (.d (.int .i64 0))]⟩ ::
          []) [1, 2, 5, 7, 8, 9])
        (.block 4
          (.loop [.freeze 5, .own 8 126 112 3] [1, 2, 5, 7, 8, 9] [2, 126, 900000, 900001, 901000, 901001]
            (.seq (.seq (.reg [] (
              ⟨some 34, none, .mov, [.t 9]⟩ ::
              ⟨some 35, none, .mov, [.t 5]⟩ ::
              ⟨some 36, none, .len false, [.t 35]⟩ ::
              ⟨some 37, none, .bin .lss, [.t 34, .t 36]⟩ ::
              []) [1, 2, 5, 7, 8, 9, 37])
            (.cond (.t 37)
              (.skip)
              (.exit 4)))
            (.seq (.block 5
              (.seq (.reg [] (
                ⟨some 10, none, .mov, [.k (.d (.int .i64 0))]⟩ ::
                []) [1, 2, 5, 7, 8, 9, 10])
              (.block 6
                (.loop [.freeze 5, .own 8 126 112 3] [1, 2, 5, 7, 8, 9, 10] [2, 126, 900000, 900001, 901000, 901001]
                  (.seq (.seq (.reg [] (
                    ⟨some 40, none, .mov, [.t 10]⟩ ::
                    ⟨some 41, none, .faddr 4, [.t 2]⟩ ::
                    ⟨some 42, none, .load false 1, [.t 41]⟩ ::
                    ⟨some 43, none, .iaddrS 1, [.t 42, .k (.d (.int .i64 0))]⟩ ::
                    ⟨some 44, none, .load false 1, [.t 43]⟩ ::
                    ⟨some 45, none, .len false, [.t 44]⟩ ::
                    ⟨some 46, none, .bin .lss, [.t 40, .t 45]⟩ ::
                    []) [1, 2, 5, 7, 8, 9, 10, 46])
                  (.cond (.t 46)
                    (.skip)
                    (.exit 6)))
                  (.seq (.block 7
                    (.seq (.reg [] (
                      ⟨some 49, none, .mov, [.t 5]⟩ ::
                      ⟨some 50, none, .mov, [.t 9]⟩ ::
                      ⟨some 51, none, .iaddrS 3, [.t 49, .t 50]⟩ ::
                      ⟨some 52, none, .load true 3, [.t 51]⟩ ::
                      ⟨some 11, none, .zero [.int .i64 0, .int .i64 0, .bool false], []⟩ ::
                      ⟨none, none, .store 3, [.t 11, .t 52]⟩ ::
                      []) [1, 2, 5, 7, 8, 9, 10, 11])
                    (.seq (.reg [] (
                      ⟨some 12, none, .mov, [.k (.d (.list true []))]⟩ ::
                      []) [1, 2, 5, 7, 8, 9, 10, 11, 12])
                    (.seq (.seq (.reg [] (
                      ⟨some 53, none, .faddr 2, [.t 11]⟩ ::
                      ⟨some 54, none, .load false 1, [.t 53]⟩ ::
                      []) [1, 2, 5, 7, 8, 9, 10, 11, 12, 54])
                    (.cond (.t 54)
                      (.reg [] (
                        ⟨some 55, none, .mov, [.t 12]⟩ ::
                        ⟨some 56, none, .mkrow 1 (.int .i64 0) 1 [0], [.k (.d (.int .i64 1))]⟩ ::
                        ⟨some 57, none, .app 3 1 none true, [.t 55, .t 56]⟩ ::
                        ⟨some 12, none, .mov, [.t 57]⟩ ::
                        []) [1, 2, 5, 7, 8, 9, 10, 11, 12])
                      (.skip)))
                    (.seq (.draw [] (
                      (⟨some 58, none, .mov, [.t 12]⟩, []) ::
                      (⟨some 59, none, .faddr 1, [.t 11]⟩, []) ::
                      (⟨some 60, none, .load false 1, [.t 59]⟩, []) ::
                      (⟨some 61, none, .app 3 1 (some (.int .i64 0)) true, [.t 58, .t 60]⟩, []) ::
                      (⟨some 62, none, .load true 6, [.t 2]⟩, [3]) ::
                      (⟨some 63, none, .faddr 4, [.t 2]⟩, []) ::
                      (⟨some 64, none, .load false 1, [.t 63]⟩, [3]) ::
                      (⟨some 65, none, .faddr 0, [.t 11]⟩, []) ::
                      (⟨some 66, none, .load false 1, [.t 65]⟩, [3]) ::
                      (⟨some 67, none, .iaddrS 1, [.t 64, .t 66]⟩, [3]) ::
                      (⟨some 68, none, .load false 1, [.t 67]⟩, [3]) ::
                      (⟨some 69, none, .mov, [.t 10]⟩, []) ::
                      (⟨some 70, none, .iaddrS 1, [.t 68, .t 69]⟩, [3]) ::
                      (⟨some 71, none, .load false 1, [.t 70]⟩, [3]) ::
                      (⟨some 72, none, .call 56, [.t 62, .t 71]⟩, []) ::
                      (⟨some 73, none, .app 3 1 none true, [.t 61, .t 72]⟩, []) ::
                      (⟨some 12, none, .mov, [.t 73]⟩, []) ::
                      []) [1, 2, 5, 7, 8, 9, 10, 11, 12])
                    (.seq (.seq (.reg [] (
                      ⟨some 74, none, .load true 6, [.t 2]⟩ ::
                      ⟨some 75, none, .mov, [.t 12]⟩ ::
                      ⟨some 76, none, .call 39, [.t 74, .t 75]⟩ ::
                      ⟨some 77, none, .un .not, [.t 76]⟩ ::
                      []) [1, 2, 5, 7, 8, 9, 10, 11, 12, 77])
                    (.cond (.t 77)
                      (.seq (.reg [] (
                        ⟨some 78, none, .mov, [.t 7]⟩ ::
                        ⟨some 4, none, .mov, [.t 78]⟩ ::
                        []) [4])
                      (.ret))
                      (.skip)))
                    (.seq (.reg [] (
                      ⟨some 79, none, .faddr 5, [.t 2]⟩ ::
                      ⟨some 80, none, .load false 1, [.t 79]⟩ ::
                      ⟨some 81, none, .faddr 0, [.t 11]⟩ ::
                      ⟨some 82, none, .load false 1, [.t 81]⟩ ::
                      ⟨some 83, none, .iaddrS 1, [.t 80, .t 82]⟩ ::
                      ⟨some 84, none, .load false 1, [.t 83]⟩ ::
                      ⟨some 85, none, .mov, [.t 10]⟩ ::
                      ⟨some 86, none, .iaddrS 1, [.t 84, .t 85]⟩ ::
                      ⟨some 87, none, .load false 1, [.t 86]⟩ ::
                      ⟨some 88, none, .build [.int .i64 0, .int .i64 0, .bool false] [(0, 1)], [.t 87]⟩ ::
                      ⟨some 13, none, .zero [.int .i64 0, .int .i64 0, .bool false], []⟩ ::
                      ⟨none, none, .store 3, [.t 13, .t 88]⟩ ::
                      []) [1, 2, 5, 7, 8, 9, 10, 12, 13])
                    (.seq (.seq (.reg [] (
                      ⟨some 14, none, .mov, [.k (.d (.int .i64 0))]⟩ ::
                      []) [1, 2, 5, 7, 8, 9, 10, 12, 13, 14])
                    (.block 8
                      (.loop [.freeze 5, .freeze 12, .own 8 126 112 3] [1, 2, 5, 7, 8, 9, 10, 12, 13, 14] [2, 13, 57, 61, 126, 900000, 900001, 901000, 901001]
                        (.seq (.seq (.reg [] (
                          ⟨some 89, none, .mov, [.t 14]⟩ ::
                          ⟨some 90, none, .mov, [.t 12]⟩ ::
                          ⟨some 91, none, .len false, [.t 90]⟩ ::
                          ⟨some 92, none, .bin .lss, [.t 89, .t 91]⟩ ::
                          []) [1, 2, 5, 7, 8, 9, 10, 12, 13, 14, 92])
                        (.cond (.t 92)
                          (.skip)
                          (.exit 8)))
                        (.seq (.block 9
                          (.seq (.reg [] (
                            ⟨some 95, none, .faddr 1, [.t 13]⟩ ::
                            ⟨some 96, none, .load false 1, [.t 95]⟩ ::
                            ⟨some 97, none, .bin .add, [.t 96, .k (.d (.int .i64 1))]⟩ ::
                            ⟨some 98, none, .faddr 1, [.t 13]⟩ ::
                            ⟨none, none, .store 1, [.t 98, .t 97]⟩ ::
                            []) [1, 2, 5, 7, 8, 9, 10, 12, 13, 14])
                          (.seq (.reg [] (
                            ⟨some 99, none, .mov, [.t 12]⟩ ::
                            ⟨some 100, none, .mov, [.t 14]⟩ ::
                            ⟨some 101, none, .iaddrS 1, [.t 99, .t 100]⟩ ::
                            ⟨some 102, none, .load false 1, [.t 101]⟩ ::
                            ⟨some 103, none, .bin .eql, [.t 102, .k (.d (.int .i64 1))]⟩ ::
                            []) [1, 2, 5, 7, 8, 9, 10, 12, 13, 14, 103])
                          (.cond (.t 103)
                            (.reg [] (
                              ⟨some 104, none, .faddr 1, [.t 13]⟩ ::
                              ⟨none, none, .store 1, [.t 104, .k (.d (.int .i64 0))]⟩ ::
                              ⟨some 105, none, .faddr 2, [.t 13]⟩ ::
                              ⟨none, none, .store 1, [.t 105, .k (.d (.bool true))]⟩ ::
                              []) [1, 2, 5, 7, 8, 9, 10, 12, 13, 14])
                            (.skip)))))
                        (.reg [] (
                          ⟨some 93, none, .mov, [.t 14]⟩ ::
                          ⟨some 94, none, .bin .add, [.t 93, .k (.d (.int .i64 1))]⟩ ::
                          ⟨some 14, none, .mov, [.t 94]⟩ ::
                          []) [1, 2, 5, 7, 8, 9, 10, 12, 13, 14]))))))
                    (.seq (.reg [] (
                      ⟨some 15, none, .mov, [.k (.d (.bool false))]⟩ ::
                      []) [1, 2, 5, 7, 8, 9, 10, 13, 15])
                    (.seq (.seq (.reg [] (
                      ⟨some 16, none, .mov, [.k (.d (.int .i64 0))]⟩ ::
                      []) [1, 2, 5, 7, 8, 9, 10, 13, 15, 16])
                    (.block 10
                      (.loop [.freeze 5, .own 8 126 112 3] [1, 2, 5, 7, 8, 9, 10, 13, 15, 16] [2, 13, 126, 900000, 900001, 901000, 901001]
                        (.seq (.seq (.reg [] (
                          ⟨some 106, none, .mov, [.t 16]⟩ ::
                          ⟨some 107, none, .mov, [.t 8]⟩ ::
                          ⟨some 108, none, .len false, [.t 107]⟩ ::
                          ⟨some 109, none, .bin .lss, [.t 106, .t 108]⟩ ::
                          []) [1, 2, 5, 7, 8, 9, 10, 13, 15, 16, 109])
                        (.cond (.t 109)
                          (.skip)
                          (.exit 10)))
                        (.seq (.block 11
                          (.draw [] (
                            (⟨some 112, none, .mov, [.t 15]⟩, []) ::
                            (⟨some 113, none, .mov, [.t 112]⟩, []) ::
                            (⟨some 114, some (113, false), .mov, [.t 8]⟩, []) ::
                            (⟨some 115, some (113, false), .mov, [.t 16]⟩, []) ::
                            (⟨some 116, some (113, false), .iaddrS 3, [.t 114, .t 115]⟩, []) ::
                            (⟨some 117, some (113, false), .load true 3, [.t 116]⟩, []) ::
                            (⟨some 118, some (113, false), .load true 3, [.t 13]⟩, []) ::
                            (⟨some 119, some (113, false), .eqv false (true, [some .i64, some .i64, none]), [.t 117, .t 118]⟩, []) ::
                            (⟨some 120, none, .pick, [.t 113, .k (.d (.bool true)), .t 119]⟩, []) ::
                            (⟨some 15, none, .mov, [.t 120]⟩, []) ::
                            []) [1, 2, 5, 7, 8, 9, 10, 13, 15, 16]))
                        (.reg [] (
                          ⟨some 110, none, .mov, [.t 16]⟩ ::
                          ⟨some 111, none, .bin .add, [.t 110, .k (.d (.int .i64 1))]⟩ ::
                          ⟨some 16, none, .mov, [.t 111]⟩ ::
                          []) [1, 2, 5, 7, 8, 9, 10, 13, 15, 16]))))))
                    (.seq (.reg [] (
                      ⟨some 121, none, .mov, [.t 15]⟩ ::
                      ⟨some 122, none, .un .not, [.t 121]⟩ ::
                      []) [1, 2, 5, 7, 8, 9, 10, 13, 122])
                    (.cond (.t 122)
                      (.reg [] (
                        ⟨some 123, none, .mov, [.t 8]⟩ ::
                        ⟨some 124, none, .load true 3, [.t 13]⟩ ::
                        ⟨some 125, none, .mkrow 3 (.agg [.int .i64 0, .int .i64 0, .bool false]) 1 [0], [.t 124]⟩ ::
                        ⟨some 126, none, .app 112 3 none true, [.t 123, .t 125]⟩ ::
                        ⟨some 8, none, .mov, [.t 126]⟩ ::
                        []) [1, 2, 5, 7, 8, 9, 10])
                      (.skip)))))))))))))
                  (.reg [] (
                    ⟨some 47, none, .mov, [.t 10]⟩ ::
                    ⟨some 48, none, .bin .add, [.t 47, .k (.d (.int .i64 1))]⟩ ::
                    ⟨some 10, none, .mov, [.t 48]⟩ ::
                    []) [1, 2, 5, 7, 8, 9, 10])))))))
            (.reg [] (
              ⟨some 38, none, .mov, [.t 9]⟩ ::
              ⟨some 39, none, .bin .add, [.t 38, .k (.d (.int .i64 1))]⟩ ::
              ⟨some 9, none, .mov, [.t 39]⟩ ::
              []) [1, 2, 5, 7, 8, 9]))))))
        (.reg [] (
          ⟨some 127, none, .mov, [.t 8]⟩ ::
          ⟨some 5, none, .mov, [.t 127]⟩ ::
          []) [1, 2, 5, 7]))))
      (.reg [] (
        ⟨some 32, none, .mov, [.t 7]⟩ ::
        ⟨some 33, none, .bin .add, [.t 32, .k (.d (.int .i64 1))]⟩ ::
        ⟨some 7, none, .mov, [.t 33]⟩ ::
        []) [1, 2, 5, 7]))))))
  (.seq (.reg [] (
    ⟨some 4, none, .mov, [.k (.d (.int .i64 0))]⟩ ::
    []) [4])
  (.ret)))))
theorem ded_ref04_breach : Fun E0 F_ref04_breach pd_ref04_breach [.t 4] 128 := fun_of_dec (fl := [61, 73]) (by kernel_rfl)

theorem cons1 (ys : List Int) : D.int .i64 1 :: ints ys = ints (1 :: ys) := rfl
attribute [local congr] cg_pw cg_seqI cg_seqE cg_stepI cg_ev cg_evBin cg_condB cg_condV cg_thenQ cg_blockQ cg_onSome cg_onCells cg_onRow cg_onMap cg_onOpt cg_ghosts cg_ghost cg_evCall cg_part cg_rng cg_guardV cg_frzV cg_frpV cg_ownV cg_owcV cg_occV cg_occX cg_resK cg_res1 cg_yldP cg_rndE cg_onlyN cg_onHist
attribute [local irreducible] IntKind.wrap bitsOp Option.getD and or

theorem ref04_Spread_ret (c : GCode) (y0 : Int) (h : 0 ≤ c.out ∧ c.out ≤ 5) (hx : 0 ≤ y0 ∧ y0 ≤ 1000) : Ret E0 F_ref04_Spread [codeD c, .int .i64 y0] (.list (bitsOf c.out.toNat y0).isEmpty (ints (bitsOf c.out.toNat y0))) := by
  refine ret_of_pw dec_ref04_Spread mixed (by simp) fun hwf => ?_
  rw [enter_eq]; unfold pc_ref04_Spread
  (try (simp -implicitDefEqProofs only [go_sem, codeD_eq, codeC_eq, rowsD_eq])); repeat' first | with_reducible exact True.intro | with_reducible refine And.intro ?_ ?_ | with_reducible intro _ | (((with_reducible refine vc_b ?_ ?_) <;> intro _) <;> try (simp -implicitDefEqProofs only [go_sem, codeD_eq, codeC_eq, rowsD_eq])) | simp (disch := omega) only [wrapI, wrapU, shl1, shl1', shl1'', shrN, shrN', and_one] | ((with_reducible refine isEx3 ?_); refine ⟨(_, _, _), rfl, ?_, ?_⟩)
  all_goals (try simp (disch := omega) only [wrapI, wrapU, shl1, shl1', shl1'', shrN, shrN', and_one] at *)
  refine pw_loopS (α := Int × Bool × (List Int)) (l0 := ?l1) (m0 := ?m1) (fun x => [(6, .d (.int .i64 x.1))]) (fun x => [(21, .row T_int 1 x.2.1 (ints x.2.2))]) (fun x => -1 ≤ x.1 ∧ x.1 < c.out ∧ x.2.2.length + x.1 = c.out - 1 ∧ x.2.1 = x.2.2.isEmpty ∧ x.2.2 ++ bitsOf (x.1+1).toNat y0 = bitsOf c.out.toNat y0) (fun x => (x.1+1).toNat) (?a1_0, ?a1_1, []) ?h01 ?he1 ?he21 ?hI1 ?step1
  case h01 => (simp -implicitDefEqProofs only [go_sem]; rfl)
  case he1 => rfl
  case he21 => rfl
  case' step1 => (rintro ⟨i, nl, acc⟩ hI; try dsimp only at hI)
  case' hI1 => try dsimp only
  · simp; (try omega)
  · obtain ⟨h1, h2, h3, h4, h5⟩ := hI
    by_cases hi : 0 ≤ i
    · have hb : bitsOf (i + 1).toNat y0 = (y0 / 2 ^ i.toNat % 2) :: bitsOf i.toNat y0 := by rw [show (i + 1).toNat = i.toNat + 1 by omega, bitsOf]
      rw [hb] at h5
      have hu : IntKind.u64.wrap i = i := wrapU _ (by omega)
      (try (simp -implicitDefEqProofs only [go_sem, hu])); repeat' first | with_reducible exact True.intro | with_reducible refine And.intro ?_ ?_ | with_reducible intro _ | (((with_reducible refine vc_b ?_ ?_) <;> intro _) <;> try (simp -implicitDefEqProofs only [go_sem, hu])) | simp (disch := omega) only [wrapI, wrapU, shl1, shl1', shl1'', shrN, shrN', and_one] | ((with_reducible refine isEx3 ?_); refine ⟨(_, _, _), rfl, ?_, ?_⟩)
      all_goals (try simp (disch := omega) only [wrapI, wrapU, shl1, shl1', shl1'', shrN, shrN', and_one] at *)
      all_goals first | omega | (simp; done) | (simp; omega) | skip
      all_goals (rw [← h5, show (i - 1 + 1).toNat = i.toNat by omega]; simp)
    · have h0 : (i + 1).toNat = 0 := by omega
      rw [h0, bitsOf, List.append_nil] at h5
      (try (simp -implicitDefEqProofs only [go_sem])); repeat' first | with_reducible exact True.intro | with_reducible refine And.intro ?_ ?_ | with_reducible intro _ | (((with_reducible refine vc_b ?_ ?_) <;> intro _) <;> try (simp -implicitDefEqProofs only [go_sem])) | simp (disch := omega) only [wrapI, wrapU, shl1, shl1', shl1'', shrN, shrN', and_one] | ((with_reducible refine isEx3 ?_); refine ⟨(_, _, _), rfl, ?_, ?_⟩)
      all_goals first | omega | (simp; done) | (simp; omega) | skip
      all_goals (rw [← h5, h4])


theorem ref04_breach_ret (c : GCode) (h : c.ok = true) : Ret E0 F_ref04_breach [codeD c, .int .i64 14] (.int .i64 c.breach) := by
  refine ret_of_pw ded_ref04_breach mixed (by simp) fun hwf => ?_
  have hd := GCode.ok_head h
  have hW4 := W_le h
  have h12 := pow_12 (b := c.bits) (by omega)
  have hnc := W_pow' c
  have hWp : 1 ≤ c.W := by omega
  obtain ⟨R, hR⟩ : ∃ R, c.breach = R := ⟨_, rfl⟩
  rw [hR]
  unfold GCode.breach at hR
  rw [enter_eq]; unfold pd_ref04_breach
  (try (simp -implicitDefEqProofs only [go_sem, codeD_eq, codeC_eq, rowsD_eq])); repeat' first | with_reducible exact True.intro | with_reducible refine And.intro ?_ ?_ | with_reducible intro _ | (((with_reducible refine vc_b ?_ ?_) <;> intro _) <;> try (simp -implicitDefEqProofs only [go_sem, codeD_eq, codeC_eq, rowsD_eq])) | simp (disch := omega) only [wrapI, wrapU, shl1, shl1', shl1'', shrN, shrN', and_one] | ((with_reducible refine isEx4 ?_); refine ⟨(_, _, _, _), rfl, ?_, ?_⟩) | ((with_reducible refine isEx3 ?_); refine ⟨(_, _, _), rfl, ?_, ?_⟩) | ((with_reducible refine isEx2 ?_); refine ⟨(_, _), rfl, ?_, ?_⟩)
  all_goals (try omega)
  refine pw_loopS (α := Int × (List GRun) × Bool) (l0 := ?l2) (m0 := ?m2) (fun x => [(6, .d (.int .i64 x.1))]) (fun x => [(28, .row 112 3 x.2.2 (runsD x.2.1))]) (fun x => (0 ≤ x.1 ∧ x.1 ≤ c.words.length) ∧ x.2.1 = c.starts.take x.1.toNat ∧ x.2.2 = x.2.1.isEmpty) (fun x => (c.words.length - x.1).toNat) (?a2_0, [], true) ?h02 ?he2 ?he22 ?hI2 ?step2
  case h02 => (simp -implicitDefEqProofs only [go_sem, rowsD_eq]; rfl)
  case he2 => rfl
  case he22 => rfl
  case' step2 => (rintro ⟨i, Q, b⟩ hI; try dsimp only at hI)
  case' hI2 => try dsimp only
  · exact ⟨⟨by omega, by omega⟩, rfl, rfl⟩
  · obtain ⟨⟨q1, q2⟩, q3, q4⟩ := hI
    by_cases hi : i < c.words.length
    · have w1 : IntKind.i64.wrap (i + 1) = i + 1 := wrapI _ (by omega)
      have hnx := starts_next c i q1 hi
      rw [← q3] at hnx
      have hql : Q.length ≤ 4 := by rw [q3, List.length_take]; omega
      (try (simp -implicitDefEqProofs only [go_sem, runsD_len, runsD_unif, runsD_snoc, hi, w1])); repeat' first | with_reducible exact True.intro | with_reducible refine And.intro ?_ ?_ | with_reducible intro _ | (((with_reducible refine vc_b ?_ ?_) <;> intro _) <;> try (simp -implicitDefEqProofs only [go_sem, runsD_len, runsD_unif, runsD_snoc, hi, w1])) | simp (disch := omega) only [wrapI, wrapU, shl1, shl1', shl1'', shrN, shrN', and_one] | ((with_reducible refine isEx4 ?_); refine ⟨(_, _, _, _), rfl, ?_, ?_⟩) | ((with_reducible refine isEx3 ?_); refine ⟨(_, _, _), rfl, ?_, ?_⟩) | ((with_reducible refine isEx2 ?_); refine ⟨(_, _), rfl, ?_, ?_⟩)
      all_goals first | omega | exact hnx.symm | (simp; done) | trace_state
    · rw [starts_all c i hi] at q3
      obtain ⟨sg1, sg2⟩ := starts_good h
      have hi2 : ¬ i < (c.words.length : Int) := hi
      (try (simp -implicitDefEqProofs only [go_sem, hi])); repeat' first | with_reducible exact True.intro | with_reducible refine And.intro ?_ ?_ | with_reducible intro _ | (((with_reducible refine vc_b ?_ ?_) <;> intro _) <;> try (simp -implicitDefEqProofs only [go_sem, hi])) | simp (disch := omega) only [wrapI, wrapU, shl1, shl1', shl1'', shrN, shrN', and_one] | ((with_reducible refine isEx4 ?_); refine ⟨(_, _, _, _), rfl, ?_, ?_⟩) | ((with_reducible refine isEx3 ?_); refine ⟨(_, _, _), rfl, ?_, ?_⟩) | ((with_reducible refine isEx2 ?_); refine ⟨(_, _), rfl, ?_, ?_⟩)
      all_goals (try omega)
      refine pw_loopS (α := Int × Nat × (List GRun) × Bool) (l0 := ?l3) (m0 := ?m3) (fun x => [(7, .d (.int .i64 x.1)), (5, .d (.list x.2.2.2 (runsD x.2.2.1)))]) (fun x => []) (fun x => 1 ≤ x.1 ∧ x.1 + x.2.1 = 15 ∧ c.refN x.2.1 x.1 x.2.2.1 = R ∧ x.2.2.1.Nodup ∧ (∀ r, r ∈ x.2.2.1 → c.RunOk r)) (fun x => x.2.1) (?a3_0, 14, ?a3_2, ?a3_3) ?h03 ?he3 ?he23 ?hI3 ?step3
      case h03 => (simp -implicitDefEqProofs only [go_sem, runsD_len]; rfl)
      case he3 => rfl
      case he23 => rfl
      case' step3 => (rintro ⟨n, k, now, b5⟩ hI2; try dsimp only at hI2)
      case' hI3 => try dsimp only
      · exact ⟨by omega, by omega, by rw [q3]; exact hR, by rw [q3]; exact sg1, by rw [q3]; exact sg2⟩
      · obtain ⟨n1, n2, n3, n4, n5⟩ := hI2
        by_cases hn : n ≤ 14
        · have w1 : IntKind.i64.wrap (n + 1) = n + 1 := wrapI _ (by omega)
          obtain ⟨k', rfl⟩ : ∃ k', k = k' + 1 := ⟨k - 1, by omega⟩
          have hnl := runs_len h n4 n5
          obtain ⟨G, hG⟩ : ∃ G, c.refM now [] = G := ⟨_, rfl⟩
          rw [refN_at, hG] at n3
          (try (simp -implicitDefEqProofs only [go_sem, hn, runsD_len])); repeat' first | with_reducible exact True.intro | with_reducible refine And.intro ?_ ?_ | with_reducible intro _ | (((with_reducible refine vc_b ?_ ?_) <;> intro _) <;> try (simp -implicitDefEqProofs only [go_sem, hn, runsD_len])) | simp (disch := omega) only [wrapI, wrapU, shl1, shl1', shl1'', shrN, shrN', and_one] | ((with_reducible refine isEx4 ?_); refine ⟨(_, _, _, _), rfl, ?_, ?_⟩) | ((with_reducible refine isEx3 ?_); refine ⟨(_, _, _), rfl, ?_, ?_⟩) | ((with_reducible refine isEx2 ?_); refine ⟨(_, _), rfl, ?_, ?_⟩)
          all_goals (try omega)
          refine pw_loopS (α := Int × (List GRun) × Bool) (l0 := ?l4) (m0 := ?m4) (fun x => [(9, .d (.int .i64 x.1))]) (fun x => [(126, .row 112 3 x.2.2 (runsD x.2.1))]) (fun x => (0 ≤ x.1 ∧ x.1 ≤ now.length) ∧ x.2.2 = x.2.1.isEmpty ∧ c.refM (now.drop x.1.toNat) x.2.1 = G ∧ x.2.1.Nodup ∧ (∀ r, r ∈ x.2.1 → c.RunOk r)) (fun x => (now.length - x.1).toNat) (?a4_0, [], true) ?h04 ?he4 ?he24 ?hI4 ?step4
          case h04 => (simp -implicitDefEqProofs only [go_sem, runsD_len]; rfl)
          case he4 => rfl
          case he24 => rfl
          case' step4 => (rintro ⟨i, nx, b⟩ hI3; try dsimp only at hI3)
          case' hI4 => try dsimp only
          · exact ⟨⟨by omega, by omega⟩, rfl, hG, List.nodup_nil, fun r hr => (by cases hr)⟩
          · obtain ⟨⟨m1, m2⟩, m3, m4, m5, m6⟩ := hI3
            by_cases hi3 : i < now.length
            · have w2 : IntKind.i64.wrap (i + 1) = i + 1 := wrapI _ (by omega)
              rw [refM_at m1 hi3] at m4
              have hmok : c.RunOk (now[i.toNat]?.getD default) := n5 _ (getD_mem (by omega))
              obtain ⟨⟨ma, mz, mo⟩, hm⟩ : ∃ m, now[i.toNat]?.getD default = m := ⟨_, rfl⟩
              rw [hm] at m4 hmok
              obtain ⟨G6, hG6⟩ : ∃ G6, c.refW (ma, mz, mo) c.W 0 nx = G6 := ⟨_, rfl⟩
              rw [hG6] at m4
              have hr0 := (GCode.ok_words h 0 (by omega)).1
              have hl0 : (c.words[0]?.getD default).2.length = c.W := hr0
              have hms := hmok.1
              simp only [GCode.isState, inR, decide_eq_true_eq] at hms
              have hma := GCode.ok_words h ma.toNat (by omega)
              have hma1 : (c.words[ma.toNat]?.getD default).2.length = c.W := hma.1
              have hna := GCode.ok_next h ma.toNat (by omega)
              have hna1 : (c.next[ma.toNat]?.getD default).2.length = c.W := hna.1
              have hz := hmok.2
              simp only at hz
              (try (simp -implicitDefEqProofs only [go_sem, hi3, runsD_len, codeD_eq, codeC_eq])); repeat' first | with_reducible exact True.intro | with_reducible refine And.intro ?_ ?_ | with_reducible intro _ | (((with_reducible refine vc_b ?_ ?_) <;> intro _) <;> try (simp -implicitDefEqProofs only [go_sem, hi3, runsD_len, codeD_eq, codeC_eq])) | simp (disch := omega) only [wrapI, wrapU, shl1, shl1', shl1'', shrN, shrN', and_one] | ((with_reducible refine isEx4 ?_); refine ⟨(_, _, _, _), rfl, ?_, ?_⟩) | ((with_reducible refine isEx3 ?_); refine ⟨(_, _, _), rfl, ?_, ?_⟩) | ((with_reducible refine isEx2 ?_); refine ⟨(_, _), rfl, ?_, ?_⟩)
              all_goals (try omega)
              refine pw_loopS (α := Int × (List GRun) × Bool) (l0 := ?l5) (m0 := ?m5) (fun x => [(10, .d (.int .i64 x.1))]) (fun x => [(126, .row 112 3 x.2.2 (runsD x.2.1))]) (fun x => (0 ≤ x.1 ∧ x.1 ≤ c.W) ∧ x.2.2 = x.2.1.isEmpty ∧ c.refW (ma, mz, mo) (c.W - x.1.toNat) x.1 x.2.1 = G6 ∧ x.2.1.Nodup ∧ (∀ r, r ∈ x.2.1 → c.RunOk r)) (fun x => (c.W - x.1).toNat) (?a5_0, ?a5_1, ?a5_2) ?h05 ?he5 ?he25 ?hI5 ?step5
              case h05 => (simp -implicitDefEqProofs only [go_sem, runsD_len, rowsD_eq]; rfl)
              case he5 => rfl
              case he25 => rfl
              case' step5 => (rintro ⟨w, nx, b⟩ hI4; try dsimp only at hI4)
              case' hI5 => try dsimp only
              · exact ⟨⟨by omega, by omega⟩, m3, hG6, m5, m6⟩
              · obtain ⟨⟨u1, u2⟩, u3, u4, u5, u6⟩ := hI4
                by_cases hw : w < c.W
                · have w3 : IntKind.i64.wrap (w + 1) = w + 1 := wrapI _ (by omega)
                  have hword : c.isWord w = true := word_iff.1 ⟨u1, by omega⟩
                  rw [refW_at u1 hw] at u4
                  have hwv := hma.2 _ (getD_mem0 (i := w.toNat) (by omega))
                  rw [c.wrd_eq] at hwv
                  have h2o : (2 : Int) ^ c.out.toNat ≤ 32 := by
                    have : c.out.toNat = 1 ∨ c.out.toNat = 2 ∨ c.out.toNat = 3 ∨ c.out.toNat = 4 ∨ c.out.toNat = 5 := by omega
                    rcases this with e | e | e | e | e <;> rw [e] <;> decide
                  have csp := ref04_Spread_ret c (c.wrd ma w) (by omega) ⟨hwv.1, by omega⟩
                  have hspl := bitsOf_length c.out.toNat (c.wrd ma w)
                  have hsp0 : (bitsOf c.out.toNat (c.wrd ma w)).isEmpty = false := by
                    cases hx : bitsOf c.out.toNat (c.wrd ma w) with
                    | nil => rw [hx] at hspl; simp at hspl; omega
                    | cons _ _ => rfl
                  rw [hsp0] at csp
                  have t1 : ma < c.words.length := by omega
                  have t2 : ma.toNat < c.words.length := by omega
                  have t3 : w.toNat < c.W := by omega
                  have t4 : (0 : Nat) < c.words.length := by omega
                  have t5 : ma < c.next.length := by omega
                  have t6 : ma.toNat < c.next.length := by omega
                  have t7 := hms.1
                  have t8 : mz.toNat ≤ 12 := by omega
                  have t9 : (0 : Int) < c.words.length := by omega
                  have keep := keeps_bitsM (c := c) (r := (ma, mz, mo)) hz w
                  cases mo with
                  | true =>
                    obtain ⟨X, hX⟩ : ∃ X, 1 :: (List.replicate mz.toNat 0 ++ bitsOf c.out.toNat (c.wrd ma w)) = X := ⟨_, rfl⟩
                    have hXe : c.bitsM (ma, mz, true) w = X := by rw [← hX]; rfl
                    have hXl : X.length = 1 + (mz.toNat + c.out.toNat) := by rw [← hX]; simp [hspl]; omega
                    rw [hXe] at keep
                    have hX01 := fun b hb => bitsM_01 c (ma, mz, true) w b (by rw [hXe]; exact hb)
                    have cke := ref04_Keeps_ret c (by omega) false X hX01
                    rw [keep, codeD_eq, codeC_eq] at cke
                    cases hs : c.stp (ma, mz, true) w with
                    | none =>
                      rw [hs] at u4 cke
                      simp only [Option.isSome_none, Option.bind_none] at u4 cke
                      rw [← u4] at m4
                      simp only [Option.bind_none] at m4
                      rw [← m4] at n3
                      simp only [Option.elim_none] at n3
                      rw [← n3]
                      (try (simp -implicitDefEqProofs only [go_sem, hi3, hl0, hma1, hna1, hm, m1, t1, t2, t3, t4, t5, t6, t7, t9, u1, hw, runsD_len, runsD_unif, onSome_runs, runD_eq, runC_eq, codeD_eq, codeC_eq, rowsD_eq, rowD_eq, c.wrd_eq, c.nxt_eq, hz.1, cons1, w3, hX])); repeat' first | with_reducible exact True.intro | with_reducible refine And.intro ?_ ?_ | with_reducible intro _ | (((with_reducible refine isCall ?_); first | refine call_b (csp) rfl ?_ ?_ | refine call_d (csp) rfl ?_ | refine call_sb (csp) rfl ?_ ?_ | refine call_s (csp) rfl rfl ?_ | refine call_b (cke) rfl ?_ ?_ | refine call_d (cke) rfl ?_ | refine call_sb (cke) rfl ?_ ?_ | refine call_s (cke) rfl rfl ?_) <;> try (simp -implicitDefEqProofs only [go_sem, hi3, hl0, hma1, hna1, hm, m1, t1, t2, t3, t4, t5, t6, t7, t9, u1, hw, runsD_len, runsD_unif, onSome_runs, runD_eq, runC_eq, codeD_eq, codeC_eq, rowsD_eq, rowD_eq, c.wrd_eq, c.nxt_eq, hz.1, cons1, w3, hX])) | (((with_reducible refine vc_b ?_ ?_) <;> intro _) <;> try (simp -implicitDefEqProofs only [go_sem, hi3, hl0, hma1, hna1, hm, m1, t1, t2, t3, t4, t5, t6, t7, t9, u1, hw, runsD_len, runsD_unif, onSome_runs, runD_eq, runC_eq, codeD_eq, codeC_eq, rowsD_eq, rowD_eq, c.wrd_eq, c.nxt_eq, hz.1, cons1, w3, hX])) | simp (disch := omega) only [wrapI, wrapU, shl1, shl1', shl1'', shrN, shrN', and_one] | ((with_reducible refine isEx4 ?_); refine ⟨(_, _, _, _), rfl, ?_, ?_⟩) | ((with_reducible refine isEx3 ?_); refine ⟨(_, _, _), rfl, ?_, ?_⟩) | ((with_reducible refine isEx2 ?_); refine ⟨(_, _), rfl, ?_, ?_⟩)
                      all_goals first | omega | (simp; omega) | trace_state
                    | some r =>
                      obtain ⟨r1, r2, r3⟩ := r
                      have hsc := scan_stp (c := c) (r := (ma, mz, true)) hz hs
                      rw [hXe] at hsc
                      have hrok := stp_ok h hmok hword hs
                      rw [hs] at u4 cke
                      simp only [Option.isSome_some, Option.bind_some] at u4 cke
                      obtain ⟨g1, g2⟩ := Prod.mk.injEq .. ▸ hsc
                      have g1' : c.nxt ma w = r1 := g1
                      have g2' : scanB X 0 false = (r2, r3) := by rw [← g2]
                      (try (simp -implicitDefEqProofs only [go_sem, hi3, hl0, hma1, hna1, hm, m1, t1, t2, t3, t4, t5, t6, t7, t9, u1, hw, runsD_len, runsD_unif, onSome_runs, runD_eq, runC_eq, codeD_eq, codeC_eq, rowsD_eq, rowD_eq, c.wrd_eq, c.nxt_eq, hz.1, cons1, w3, hX, g1'])); repeat' first | with_reducible exact True.intro | with_reducible refine And.intro ?_ ?_ | with_reducible intro _ | (((with_reducible refine isCall ?_); first | refine call_b (csp) rfl ?_ ?_ | refine call_d (csp) rfl ?_ | refine call_sb (csp) rfl ?_ ?_ | refine call_s (csp) rfl rfl ?_ | refine call_b (cke) rfl ?_ ?_ | refine call_d (cke) rfl ?_ | refine call_sb (cke) rfl ?_ ?_ | refine call_s (cke) rfl rfl ?_) <;> try (simp -implicitDefEqProofs only [go_sem, hi3, hl0, hma1, hna1, hm, m1, t1, t2, t3, t4, t5, t6, t7, t9, u1, hw, runsD_len, runsD_unif, onSome_runs, runD_eq, runC_eq, codeD_eq, codeC_eq, rowsD_eq, rowD_eq, c.wrd_eq, c.nxt_eq, hz.1, cons1, w3, hX, g1'])) | (((with_reducible refine vc_b ?_ ?_) <;> intro _) <;> try (simp -implicitDefEqProofs only [go_sem, hi3, hl0, hma1, hna1, hm, m1, t1, t2, t3, t4, t5, t6, t7, t9, u1, hw, runsD_len, runsD_unif, onSome_runs, runD_eq, runC_eq, codeD_eq, codeC_eq, rowsD_eq, rowD_eq, c.wrd_eq, c.nxt_eq, hz.1, cons1, w3, hX, g1'])) | simp (disch := omega) only [wrapI, wrapU, shl1, shl1', shl1'', shrN, shrN', and_one] | ((with_reducible refine isEx4 ?_); refine ⟨(_, _, _, _), rfl, ?_, ?_⟩) | ((with_reducible refine isEx3 ?_); refine ⟨(_, _, _), rfl, ?_, ?_⟩) | ((with_reducible refine isEx2 ?_); refine ⟨(_, _), rfl, ?_, ?_⟩)
                      all_goals (first | omega | (simp; omega) | skip)
                      refine pw_loopS (α := Int × Int × Bool) (l0 := ?l6) (m0 := ?m6) (fun x => [(14, .d (.int .i64 x.1))]) (fun x => [(13, .cells [.d (.int .i64 r1), .d (.int .i64 x.2.1), .d (.bool x.2.2)])]) (fun x => (0 ≤ x.1 ∧ x.1 ≤ X.length) ∧ (0 ≤ x.2.1 ∧ x.2.1 ≤ x.1) ∧ scanB (X.drop x.1.toNat) x.2.1 x.2.2 = (r2, r3)) (fun x => (X.length - x.1).toNat) (?a6_0, ?a6_1, ?a6_2) ?h06 ?he6 ?he26 ?hI6 ?step6
                      case h06 => (simp -implicitDefEqProofs only [go_sem, cons1, runsD_len]; rfl)
                      case he6 => rfl
                      case he26 => rfl
                      case' step6 => (rintro ⟨j, z2, o2⟩ hI5; try dsimp only at hI5)
                      case' hI6 => try dsimp only
                      · exact ⟨⟨by omega, by omega⟩, ⟨by omega, by omega⟩, g2'⟩
                      · obtain ⟨⟨v1, v2⟩, ⟨v3, v4⟩, v5⟩ := hI5
                        by_cases hj : j < X.length
                        · have w4 : IntKind.i64.wrap (j + 1) = j + 1 := wrapI _ (by omega)
                          have w5 : IntKind.i64.wrap (z2 + 1) = z2 + 1 := wrapI _ (by omega)
                          rw [scanB_at v1 hj] at v5
                          by_cases hb1 : X[j.toNat]?.getD 0 = 1
                          · rw [if_pos hb1] at v5
                            (try (simp -implicitDefEqProofs only [go_sem, hj, v1, w4, w5, eq_true hb1])); repeat' first | with_reducible exact True.intro | with_reducible refine And.intro ?_ ?_ | with_reducible intro _ | (((with_reducible refine vc_b ?_ ?_) <;> intro _) <;> try (simp -implicitDefEqProofs only [go_sem, hj, v1, w4, w5, eq_true hb1])) | simp (disch := omega) only [wrapI, wrapU, shl1, shl1', shl1'', shrN, shrN', and_one] | ((with_reducible refine isEx4 ?_); refine ⟨(_, _, _, _), rfl, ?_, ?_⟩) | ((with_reducible refine isEx3 ?_); refine ⟨(_, _, _), rfl, ?_, ?_⟩) | ((with_reducible refine isEx2 ?_); refine ⟨(_, _), rfl, ?_, ?_⟩)
                            all_goals first | omega | exact v5 | trace_state
                          · rw [if_neg hb1] at v5
                            (try (simp -implicitDefEqProofs only [go_sem, hj, v1, w4, w5, hb1])); repeat' first | with_reducible exact True.intro | with_reducible refine And.intro ?_ ?_ | with_reducible intro _ | (((with_reducible refine vc_b ?_ ?_) <;> intro _) <;> try (simp -implicitDefEqProofs only [go_sem, hj, v1, w4, w5, hb1])) | simp (disch := omega) only [wrapI, wrapU, shl1, shl1', shl1'', shrN, shrN', and_one] | ((with_reducible refine isEx4 ?_); refine ⟨(_, _, _, _), rfl, ?_, ?_⟩) | ((with_reducible refine isEx3 ?_); refine ⟨(_, _, _), rfl, ?_, ?_⟩) | ((with_reducible refine isEx2 ?_); refine ⟨(_, _), rfl, ?_, ?_⟩)
                            all_goals first | omega | exact v5 | trace_state
                        · rw [List.drop_eq_nil_of_le (by omega), scanB] at v5
                          obtain ⟨rfl, rfl⟩ := Prod.mk.inj v5
                          have hnxl := runs_len h u5 u6
                          (try (simp -implicitDefEqProofs only [go_sem, hj, runsD_len])); repeat' first | with_reducible exact True.intro | with_reducible refine And.intro ?_ ?_ | with_reducible intro _ | (((with_reducible refine vc_b ?_ ?_) <;> intro _) <;> try (simp -implicitDefEqProofs only [go_sem, hj, runsD_len])) | simp (disch := omega) only [wrapI, wrapU, shl1, shl1', shl1'', shrN, shrN', and_one] | ((with_reducible refine isEx4 ?_); refine ⟨(_, _, _, _), rfl, ?_, ?_⟩) | ((with_reducible refine isEx3 ?_); refine ⟨(_, _, _), rfl, ?_, ?_⟩) | ((with_reducible refine isEx2 ?_); refine ⟨(_, _), rfl, ?_, ?_⟩)
                          all_goals (try omega)
                          refine pw_loopS (α := Int × Bool) (l0 := ?l7) (m0 := ?m7) (fun x => [(16, .d (.int .i64 x.1)), (15, .d (.bool x.2))]) (fun x => []) (fun x => (0 ≤ x.1 ∧ x.1 ≤ nx.length) ∧ x.2 = decide ((r1, z2, o2) ∈ nx.take x.1.toNat)) (fun x => (nx.length - x.1).toNat) (?a7_0, ?a7_1) ?h07 ?he7 ?he27 ?hI7 ?step7
                          case h07 => (simp -implicitDefEqProofs only [go_sem, runsD_len]; rfl)
                          case he7 => rfl
                          case he27 => rfl
                          case' step7 => (rintro ⟨k, kn⟩ hI6; try dsimp only at hI6)
                          case' hI7 => try dsimp only
                          · exact ⟨⟨by omega, by omega⟩, by simp⟩
                          · obtain ⟨⟨y1, y2⟩, y3⟩ := hI6
                            by_cases hk : k < nx.length
                            · have w6 : IntKind.i64.wrap (k + 1) = k + 1 := wrapI _ (by omega)
                              have hmt := mem_take_next (l := nx) (r := (r1, z2, o2)) y1 hk
                              rw [← y3] at hmt
                              obtain ⟨⟨x1, x2, x3⟩, hxe⟩ : ∃ x, nx[k.toNat]?.getD default = x := ⟨_, rfl⟩
                              rw [hxe] at hmt
                              cases kn with
                              | true =>
                                rw [Bool.true_or] at hmt
                                (try (simp -implicitDefEqProofs only [go_sem, hk, y1, w6, runsD_len])); repeat' first | with_reducible exact True.intro | with_reducible refine And.intro ?_ ?_ | with_reducible intro _ | (((with_reducible refine vc_b ?_ ?_) <;> intro _) <;> try (simp -implicitDefEqProofs only [go_sem, hk, y1, w6, runsD_len])) | simp (disch := omega) only [wrapI, wrapU, shl1, shl1', shl1'', shrN, shrN', and_one] | ((with_reducible refine isEx4 ?_); refine ⟨(_, _, _, _), rfl, ?_, ?_⟩) | ((with_reducible refine isEx3 ?_); refine ⟨(_, _, _), rfl, ?_, ?_⟩) | ((with_reducible refine isEx2 ?_); refine ⟨(_, _), rfl, ?_, ?_⟩)
                                all_goals first | omega | exact hmt.symm | trace_state
                              | false =>
                                rw [Bool.false_or] at hmt
                                by_cases heq : x1 = r1 ∧ x2 = z2 ∧ x3 = o2
                                · rw [show decide (((x1, x2, x3) : GRun) = (r1, z2, o2)) = true from decide_eq_true (by rw [heq.1, heq.2.1, heq.2.2])] at hmt
                                  have e1 := heq.1; have e2 := heq.2.1; have e3 := heq.2.2
                                  subst e1 e2 e3
                                  (try (simp -implicitDefEqProofs only [go_sem, hk, y1, w6, runsD_len, runsD_unif, onSome_runs, hxe, runD_eq, runC_eq])); repeat' first | with_reducible exact True.intro | with_reducible refine And.intro ?_ ?_ | with_reducible intro _ | (((with_reducible refine vc_b ?_ ?_) <;> intro _) <;> try (simp -implicitDefEqProofs only [go_sem, hk, y1, w6, runsD_len, runsD_unif, onSome_runs, hxe, runD_eq, runC_eq])) | simp (disch := omega) only [wrapI, wrapU, shl1, shl1', shl1'', shrN, shrN', and_one] | ((with_reducible refine isEx4 ?_); refine ⟨(_, _, _, _), rfl, ?_, ?_⟩) | ((with_reducible refine isEx3 ?_); refine ⟨(_, _, _), rfl, ?_, ?_⟩) | ((with_reducible refine isEx2 ?_); refine ⟨(_, _), rfl, ?_, ?_⟩)
                                  all_goals first | omega | exact hmt.symm | (simp; done) | trace_state
                                · rw [show decide (((x1, x2, x3) : GRun) = (r1, z2, o2)) = false from decide_eq_false (fun hh => heq (by simpa using hh))] at hmt
                                  (try (simp -implicitDefEqProofs only [go_sem, hk, y1, w6, runsD_len, runsD_unif, onSome_runs, hxe, runD_eq, runC_eq, heq])); repeat' first | with_reducible exact True.intro | with_reducible refine And.intro ?_ ?_ | with_reducible intro _ | (((with_reducible refine vc_b ?_ ?_) <;> intro _) <;> try (simp -implicitDefEqProofs only [go_sem, hk, y1, w6, runsD_len, runsD_unif, onSome_runs, hxe, runD_eq, runC_eq, heq])) | simp (disch := omega) only [wrapI, wrapU, shl1, shl1', shl1'', shrN, shrN', and_one] | ((with_reducible refine isEx4 ?_); refine ⟨(_, _, _, _), rfl, ?_, ?_⟩) | ((with_reducible refine isEx3 ?_); refine ⟨(_, _, _), rfl, ?_, ?_⟩) | ((with_reducible refine isEx2 ?_); refine ⟨(_, _), rfl, ?_, ?_⟩)
                                  all_goals first | omega | exact hmt.symm | (simp; done) | trace_state
                            · rw [List.take_of_length_le (by omega)] at y3
                              by_cases hin : (r1, z2, o2) ∈ nx
                              · rw [decide_eq_true hin] at y3
                                subst y3
                                rw [if_pos hin] at u4
                                (try (simp -implicitDefEqProofs only [go_sem, hk, w3, runsD_len])); repeat' first | with_reducible exact True.intro | with_reducible refine And.intro ?_ ?_ | with_reducible intro _ | (((with_reducible refine vc_b ?_ ?_) <;> intro _) <;> try (simp -implicitDefEqProofs only [go_sem, hk, w3, runsD_len])) | simp (disch := omega) only [wrapI, wrapU, shl1, shl1', shl1'', shrN, shrN', and_one] | ((with_reducible refine isEx4 ?_); refine ⟨(_, _, _, _), rfl, ?_, ?_⟩) | ((with_reducible refine isEx3 ?_); refine ⟨(_, _, _), rfl, ?_, ?_⟩) | ((with_reducible refine isEx2 ?_); refine ⟨(_, _), rfl, ?_, ?_⟩)
                                all_goals first | omega | exact u4 | exact u3 | exact u5 | exact u6 _ (by assumption) | trace_state
                              · rw [decide_eq_false hin] at y3
                                subst y3
                                rw [if_neg hin] at u4
                                have nd : (nx ++ [(r1, z2, o2)]).Nodup := by
                                  rw [List.nodup_append]
                                  exact ⟨u5, by simp, fun a ha b hb => by rw [List.mem_singleton.1 hb]; intro e; rw [e] at ha; exact hin ha⟩
                                have nok : ∀ r, r ∈ nx ++ [(r1, z2, o2)] → c.RunOk r := fun r hr => by
                                  rcases List.mem_append.1 hr with e | e
                                  · exact u6 r e
                                  · rw [List.mem_singleton.1 e]; exact hrok
                                (try (simp -implicitDefEqProofs only [go_sem, hk, w3, runsD_len, runsD_unif, runsD_snoc])); repeat' first | with_reducible exact True.intro | with_reducible refine And.intro ?_ ?_ | with_reducible intro _ | (((with_reducible refine vc_b ?_ ?_) <;> intro _) <;> try (simp -implicitDefEqProofs only [go_sem, hk, w3, runsD_len, runsD_unif, runsD_snoc])) | simp (disch := omega) only [wrapI, wrapU, shl1, shl1', shl1'', shrN, shrN', and_one] | ((with_reducible refine isEx4 ?_); refine ⟨(_, _, _, _), rfl, ?_, ?_⟩) | ((with_reducible refine isEx3 ?_); refine ⟨(_, _, _), rfl, ?_, ?_⟩) | ((with_reducible refine isEx2 ?_); refine ⟨(_, _), rfl, ?_, ?_⟩)
                                all_goals first | omega | exact u4 | exact (isEmpty_snocR' _ _).symm | exact nd | exact nok _ (by assumption) | trace_state
                  | false =>
                    obtain ⟨X, hX⟩ : ∃ X, List.replicate mz.toNat 0 ++ bitsOf c.out.toNat (c.wrd ma w) = X := ⟨_, rfl⟩
                    have hXe : c.bitsM (ma, mz, false) w = X := by rw [← hX]; rfl
                    have hXl : X.length = mz.toNat + c.out.toNat := by rw [← hX]; simp [hspl]
                    rw [hXe] at keep
                    have hX01 := fun b hb => bitsM_01 c (ma, mz, false) w b (by rw [hXe]; exact hb)
                    have cke := ref04_Keeps_ret c (by omega) false X hX01
                    rw [keep, codeD_eq, codeC_eq] at cke
                    cases hs : c.stp (ma, mz, false) w with
                    | none =>
                      rw [hs] at u4 cke
                      simp only [Option.isSome_none, Option.bind_none] at u4 cke
                      rw [← u4] at m4
                      simp only [Option.bind_none] at m4
                      rw [← m4] at n3
                      simp only [Option.elim_none] at n3
                      rw [← n3]
                      (try (simp -implicitDefEqProofs only [go_sem, hi3, hl0, hma1, hna1, hm, m1, t1, t2, t3, t4, t5, t6, t7, t9, u1, hw, runsD_len, runsD_unif, onSome_runs, runD_eq, runC_eq, codeD_eq, codeC_eq, rowsD_eq, rowD_eq, c.wrd_eq, c.nxt_eq, hz.1, cons1, w3, hX, hsp0])); repeat' first | with_reducible exact True.intro | with_reducible refine And.intro ?_ ?_ | with_reducible intro _ | (((with_reducible refine isCall ?_); first | refine call_b (csp) rfl ?_ ?_ | refine call_d (csp) rfl ?_ | refine call_sb (csp) rfl ?_ ?_ | refine call_s (csp) rfl rfl ?_ | refine call_b (cke) rfl ?_ ?_ | refine call_d (cke) rfl ?_ | refine call_sb (cke) rfl ?_ ?_ | refine call_s (cke) rfl rfl ?_) <;> try (simp -implicitDefEqProofs only [go_sem, hi3, hl0, hma1, hna1, hm, m1, t1, t2, t3, t4, t5, t6, t7, t9, u1, hw, runsD_len, runsD_unif, onSome_runs, runD_eq, runC_eq, codeD_eq, codeC_eq, rowsD_eq, rowD_eq, c.wrd_eq, c.nxt_eq, hz.1, cons1, w3, hX, hsp0])) | (((with_reducible refine vc_b ?_ ?_) <;> intro _) <;> try (simp -implicitDefEqProofs only [go_sem, hi3, hl0, hma1, hna1, hm, m1, t1, t2, t3, t4, t5, t6, t7, t9, u1, hw, runsD_len, runsD_unif, onSome_runs, runD_eq, runC_eq, codeD_eq, codeC_eq, rowsD_eq, rowD_eq, c.wrd_eq, c.nxt_eq, hz.1, cons1, w3, hX, hsp0])) | simp (disch := omega) only [wrapI, wrapU, shl1, shl1', shl1'', shrN, shrN', and_one] | ((with_reducible refine isEx4 ?_); refine ⟨(_, _, _, _), rfl, ?_, ?_⟩) | ((with_reducible refine isEx3 ?_); refine ⟨(_, _, _), rfl, ?_, ?_⟩) | ((with_reducible refine isEx2 ?_); refine ⟨(_, _), rfl, ?_, ?_⟩)
                      all_goals first | omega | (simp; omega) | trace_state
                    | some r =>
                      obtain ⟨r1, r2, r3⟩ := r
                      have hsc := scan_stp (c := c) (r := (ma, mz, false)) hz hs
                      rw [hXe] at hsc
                      have hrok := stp_ok h hmok hword hs
                      rw [hs] at u4 cke
                      simp only [Option.isSome_some, Option.bind_some] at u4 cke
                      obtain ⟨g1, g2⟩ := Prod.mk.injEq .. ▸ hsc
                      have g1' : c.nxt ma w = r1 := g1
                      have g2' : scanB X 0 false = (r2, r3) := by rw [← g2]
                      (try (simp -implicitDefEqProofs only [go_sem, hi3, hl0, hma1, hna1, hm, m1, t1, t2, t3, t4, t5, t6, t7, t9, u1, hw, runsD_len, runsD_unif, onSome_runs, runD_eq, runC_eq, codeD_eq, codeC_eq, rowsD_eq, rowD_eq, c.wrd_eq, c.nxt_eq, hz.1, cons1, w3, hX, hsp0, g1'])); repeat' first | with_reducible exact True.intro | with_reducible refine And.intro ?_ ?_ | with_reducible intro _ | (((with_reducible refine isCall ?_); first | refine call_b (csp) rfl ?_ ?_ | refine call_d (csp) rfl ?_ | refine call_sb (csp) rfl ?_ ?_ | refine call_s (csp) rfl rfl ?_ | refine call_b (cke) rfl ?_ ?_ | refine call_d (cke) rfl ?_ | refine call_sb (cke) rfl ?_ ?_ | refine call_s (cke) rfl rfl ?_) <;> try (simp -implicitDefEqProofs only [go_sem, hi3, hl0, hma1, hna1, hm, m1, t1, t2, t3, t4, t5, t6, t7, t9, u1, hw, runsD_len, runsD_unif, onSome_runs, runD_eq, runC_eq, codeD_eq, codeC_eq, rowsD_eq, rowD_eq, c.wrd_eq, c.nxt_eq, hz.1, cons1, w3, hX, hsp0, g1'])) | (((with_reducible refine vc_b ?_ ?_) <;> intro _) <;> try (simp -implicitDefEqProofs only [go_sem, hi3, hl0, hma1, hna1, hm, m1, t1, t2, t3, t4, t5, t6, t7, t9, u1, hw, runsD_len, runsD_unif, onSome_runs, runD_eq, runC_eq, codeD_eq, codeC_eq, rowsD_eq, rowD_eq, c.wrd_eq, c.nxt_eq, hz.1, cons1, w3, hX, hsp0, g1'])) | simp (disch := omega) only [wrapI, wrapU, shl1, shl1', shl1'', shrN, shrN', and_one] | ((with_reducible refine isEx4 ?_); refine ⟨(_, _, _, _), rfl, ?_, ?_⟩) | ((with_reducible refine isEx3 ?_); refine ⟨(_, _, _), rfl, ?_, ?_⟩) | ((with_reducible refine isEx2 ?_); refine ⟨(_, _), rfl, ?_, ?_⟩)
                      all_goals (first | omega | (simp; omega) | skip)
                      refine pw_loopS (α := Int × Int × Bool) (l0 := ?l8) (m0 := ?m8) (fun x => [(14, .d (.int .i64 x.1))]) (fun x => [(13, .cells [.d (.int .i64 r1), .d (.int .i64 x.2.1), .d (.bool x.2.2)])]) (fun x => (0 ≤ x.1 ∧ x.1 ≤ X.length) ∧ (0 ≤ x.2.1 ∧ x.2.1 ≤ x.1) ∧ scanB (X.drop x.1.toNat) x.2.1 x.2.2 = (r2, r3)) (fun x => (X.length - x.1).toNat) (?a8_0, ?a8_1, ?a8_2) ?h08 ?he8 ?he28 ?hI8 ?step8
                      case h08 => (simp -implicitDefEqProofs only [go_sem, cons1, runsD_len]; rfl)
                      case he8 => rfl
                      case he28 => rfl
                      case' step8 => (rintro ⟨j, z2, o2⟩ hI7; try dsimp only at hI7)
                      case' hI8 => try dsimp only
                      · exact ⟨⟨by omega, by omega⟩, ⟨by omega, by omega⟩, g2'⟩
                      · obtain ⟨⟨v1, v2⟩, ⟨v3, v4⟩, v5⟩ := hI7
                        by_cases hj : j < X.length
                        · have w4 : IntKind.i64.wrap (j + 1) = j + 1 := wrapI _ (by omega)
                          have w5 : IntKind.i64.wrap (z2 + 1) = z2 + 1 := wrapI _ (by omega)
                          rw [scanB_at v1 hj] at v5
                          by_cases hb1 : X[j.toNat]?.getD 0 = 1
                          · rw [if_pos hb1] at v5
                            (try (simp -implicitDefEqProofs only [go_sem, hj, v1, w4, w5, eq_true hb1])); repeat' first | with_reducible exact True.intro | with_reducible refine And.intro ?_ ?_ | with_reducible intro _ | (((with_reducible refine vc_b ?_ ?_) <;> intro _) <;> try (simp -implicitDefEqProofs only [go_sem, hj, v1, w4, w5, eq_true hb1])) | simp (disch := omega) only [wrapI, wrapU, shl1, shl1', shl1'', shrN, shrN', and_one] | ((with_reducible refine isEx4 ?_); refine ⟨(_, _, _, _), rfl, ?_, ?_⟩) | ((with_reducible refine isEx3 ?_); refine ⟨(_, _, _), rfl, ?_, ?_⟩) | ((with_reducible refine isEx2 ?_); refine ⟨(_, _), rfl, ?_, ?_⟩)
                            all_goals first | omega | exact v5 | trace_state
                          · rw [if_neg hb1] at v5
                            (try (simp -implicitDefEqProofs only [go_sem, hj, v1, w4, w5, hb1])); repeat' first | with_reducible exact True.intro | with_reducible refine And.intro ?_ ?_ | with_reducible intro _ | (((with_reducible refine vc_b ?_ ?_) <;> intro _) <;> try (simp -implicitDefEqProofs only [go_sem, hj, v1, w4, w5, hb1])) | simp (disch := omega) only [wrapI, wrapU, shl1, shl1', shl1'', shrN, shrN', and_one] | ((with_reducible refine isEx4 ?_); refine ⟨(_, _, _, _), rfl, ?_, ?_⟩) | ((with_reducible refine isEx3 ?_); refine ⟨(_, _, _), rfl, ?_, ?_⟩) | ((with_reducible refine isEx2 ?_); refine ⟨(_, _), rfl, ?_, ?_⟩)
                            all_goals first | omega | exact v5 | trace_state
                        · rw [List.drop_eq_nil_of_le (by omega), scanB] at v5
                          obtain ⟨rfl, rfl⟩ := Prod.mk.inj v5
                          have hnxl := runs_len h u5 u6
                          (try (simp -implicitDefEqProofs only [go_sem, hj, runsD_len])); repeat' first | with_reducible exact True.intro | with_reducible refine And.intro ?_ ?_ | with_reducible intro _ | (((with_reducible refine vc_b ?_ ?_) <;> intro _) <;> try (simp -implicitDefEqProofs only [go_sem, hj, runsD_len])) | simp (disch := omega) only [wrapI, wrapU, shl1, shl1', shl1'', shrN, shrN', and_one] | ((with_reducible refine isEx4 ?_); refine ⟨(_, _, _, _), rfl, ?_, ?_⟩) | ((with_reducible refine isEx3 ?_); refine ⟨(_, _, _), rfl, ?_, ?_⟩) | ((with_reducible refine isEx2 ?_); refine ⟨(_, _), rfl, ?_, ?_⟩)
                          all_goals (try omega)
                          refine pw_loopS (α := Int × Bool) (l0 := ?l9) (m0 := ?m9) (fun x => [(16, .d (.int .i64 x.1)), (15, .d (.bool x.2))]) (fun x => []) (fun x => (0 ≤ x.1 ∧ x.1 ≤ nx.length) ∧ x.2 = decide ((r1, z2, o2) ∈ nx.take x.1.toNat)) (fun x => (nx.length - x.1).toNat) (?a9_0, ?a9_1) ?h09 ?he9 ?he29 ?hI9 ?step9
                          case h09 => (simp -implicitDefEqProofs only [go_sem, runsD_len]; rfl)
                          case he9 => rfl
                          case he29 => rfl
                          case' step9 => (rintro ⟨k, kn⟩ hI8; try dsimp only at hI8)
                          case' hI9 => try dsimp only
                          · exact ⟨⟨by omega, by omega⟩, by simp⟩
                          · obtain ⟨⟨y1, y2⟩, y3⟩ := hI8
                            by_cases hk : k < nx.length
                            · have w6 : IntKind.i64.wrap (k + 1) = k + 1 := wrapI _ (by omega)
                              have hmt := mem_take_next (l := nx) (r := (r1, z2, o2)) y1 hk
                              rw [← y3] at hmt
                              obtain ⟨⟨x1, x2, x3⟩, hxe⟩ : ∃ x, nx[k.toNat]?.getD default = x := ⟨_, rfl⟩
                              rw [hxe] at hmt
                              cases kn with
                              | true =>
                                rw [Bool.true_or] at hmt
                                (try (simp -implicitDefEqProofs only [go_sem, hk, y1, w6, runsD_len])); repeat' first | with_reducible exact True.intro | with_reducible refine And.intro ?_ ?_ | with_reducible intro _ | (((with_reducible refine vc_b ?_ ?_) <;> intro _) <;> try (simp -implicitDefEqProofs only [go_sem, hk, y1, w6, runsD_len])) | simp (disch := omega) only [wrapI, wrapU, shl1, shl1', shl1'', shrN, shrN', and_one] | ((with_reducible refine isEx4 ?_); refine ⟨(_, _, _, _), rfl, ?_, ?_⟩) | ((with_reducible refine isEx3 ?_); refine ⟨(_, _, _), rfl, ?_, ?_⟩) | ((with_reducible refine isEx2 ?_); refine ⟨(_, _), rfl, ?_, ?_⟩)
                                all_goals first | omega | exact hmt.symm | trace_state
                              | false =>
                                rw [Bool.false_or] at hmt
                                by_cases heq : x1 = r1 ∧ x2 = z2 ∧ x3 = o2
                                · rw [show decide (((x1, x2, x3) : GRun) = (r1, z2, o2)) = true from decide_eq_true (by rw [heq.1, heq.2.1, heq.2.2])] at hmt
                                  have e1 := heq.1; have e2 := heq.2.1; have e3 := heq.2.2
                                  subst e1 e2 e3
                                  (try (simp -implicitDefEqProofs only [go_sem, hk, y1, w6, runsD_len, runsD_unif, onSome_runs, hxe, runD_eq, runC_eq])); repeat' first | with_reducible exact True.intro | with_reducible refine And.intro ?_ ?_ | with_reducible intro _ | (((with_reducible refine vc_b ?_ ?_) <;> intro _) <;> try (simp -implicitDefEqProofs only [go_sem, hk, y1, w6, runsD_len, runsD_unif, onSome_runs, hxe, runD_eq, runC_eq])) | simp (disch := omega) only [wrapI, wrapU, shl1, shl1', shl1'', shrN, shrN', and_one] | ((with_reducible refine isEx4 ?_); refine ⟨(_, _, _, _), rfl, ?_, ?_⟩) | ((with_reducible refine isEx3 ?_); refine ⟨(_, _, _), rfl, ?_, ?_⟩) | ((with_reducible refine isEx2 ?_); refine ⟨(_, _), rfl, ?_, ?_⟩)
                                  all_goals first | omega | exact hmt.symm | (simp; done) | trace_state
                                · rw [show decide (((x1, x2, x3) : GRun) = (r1, z2, o2)) = false from decide_eq_false (fun hh => heq (by simpa using hh))] at hmt
                                  (try (simp -implicitDefEqProofs only [go_sem, hk, y1, w6, runsD_len, runsD_unif, onSome_runs, hxe, runD_eq, runC_eq, heq])); repeat' first | with_reducible exact True.intro | with_reducible refine And.intro ?_ ?_ | with_reducible intro _ | (((with_reducible refine vc_b ?_ ?_) <;> intro _) <;> try (simp -implicitDefEqProofs only [go_sem, hk, y1, w6, runsD_len, runsD_unif, onSome_runs, hxe, runD_eq, runC_eq, heq])) | simp (disch := omega) only [wrapI, wrapU, shl1, shl1', shl1'', shrN, shrN', and_one] | ((with_reducible refine isEx4 ?_); refine ⟨(_, _, _, _), rfl, ?_, ?_⟩) | ((with_reducible refine isEx3 ?_); refine ⟨(_, _, _), rfl, ?_, ?_⟩) | ((with_reducible refine isEx2 ?_); refine ⟨(_, _), rfl, ?_, ?_⟩)
                                  all_goals first | omega | exact hmt.symm | (simp; done) | trace_state
                            · rw [List.take_of_length_le (by omega)] at y3
                              by_cases hin : (r1, z2, o2) ∈ nx
                              · rw [decide_eq_true hin] at y3
                                subst y3
                                rw [if_pos hin] at u4
                                (try (simp -implicitDefEqProofs only [go_sem, hk, w3, runsD_len])); repeat' first | with_reducible exact True.intro | with_reducible refine And.intro ?_ ?_ | with_reducible intro _ | (((with_reducible refine vc_b ?_ ?_) <;> intro _) <;> try (simp -implicitDefEqProofs only [go_sem, hk, w3, runsD_len])) | simp (disch := omega) only [wrapI, wrapU, shl1, shl1', shl1'', shrN, shrN', and_one] | ((with_reducible refine isEx4 ?_); refine ⟨(_, _, _, _), rfl, ?_, ?_⟩) | ((with_reducible refine isEx3 ?_); refine ⟨(_, _, _), rfl, ?_, ?_⟩) | ((with_reducible refine isEx2 ?_); refine ⟨(_, _), rfl, ?_, ?_⟩)
                                all_goals first | omega | exact u4 | exact u3 | exact u5 | exact u6 _ (by assumption) | trace_state
                              · rw [decide_eq_false hin] at y3
                                subst y3
                                rw [if_neg hin] at u4
                                have nd : (nx ++ [(r1, z2, o2)]).Nodup := by
                                  rw [List.nodup_append]
                                  exact ⟨u5, by simp, fun a ha b hb => by rw [List.mem_singleton.1 hb]; intro e; rw [e] at ha; exact hin ha⟩
                                have nok : ∀ r, r ∈ nx ++ [(r1, z2, o2)] → c.RunOk r := fun r hr => by
                                  rcases List.mem_append.1 hr with e | e
                                  · exact u6 r e
                                  · rw [List.mem_singleton.1 e]; exact hrok
                                (try (simp -implicitDefEqProofs only [go_sem, hk, w3, runsD_len, runsD_unif, runsD_snoc])); repeat' first | with_reducible exact True.intro | with_reducible refine And.intro ?_ ?_ | with_reducible intro _ | (((with_reducible refine vc_b ?_ ?_) <;> intro _) <;> try (simp -implicitDefEqProofs only [go_sem, hk, w3, runsD_len, runsD_unif, runsD_snoc])) | simp (disch := omega) only [wrapI, wrapU, shl1, shl1', shl1'', shrN, shrN', and_one] | ((with_reducible refine isEx4 ?_); refine ⟨(_, _, _, _), rfl, ?_, ?_⟩) | ((with_reducible refine isEx3 ?_); refine ⟨(_, _, _), rfl, ?_, ?_⟩) | ((with_reducible refine isEx2 ?_); refine ⟨(_, _), rfl, ?_, ?_⟩)
                                all_goals first | omega | exact u4 | exact (isEmpty_snocR' _ _).symm | exact nd | exact nok _ (by assumption) | trace_state
                · have hwe : c.W - w.toNat = 0 := by omega
                  rw [hwe, GCode.refW] at u4
                  rw [← u4] at m4
                  simp only [Option.bind_some] at m4
                  (try (simp -implicitDefEqProofs only [go_sem, hl0, hw, show (0 : Nat) < c.words.length by omega, rowsD_eq, rowD_eq, onSome_runs, w2])); repeat' first | with_reducible exact True.intro | with_reducible refine And.intro ?_ ?_ | with_reducible intro _ | (((with_reducible refine vc_b ?_ ?_) <;> intro _) <;> try (simp -implicitDefEqProofs only [go_sem, hl0, hw, show (0 : Nat) < c.words.length by omega, rowsD_eq, rowD_eq, onSome_runs, w2])) | simp (disch := omega) only [wrapI, wrapU, shl1, shl1', shl1'', shrN, shrN', and_one] | ((with_reducible refine isEx4 ?_); refine ⟨(_, _, _, _), rfl, ?_, ?_⟩) | ((with_reducible refine isEx3 ?_); refine ⟨(_, _, _), rfl, ?_, ?_⟩) | ((with_reducible refine isEx2 ?_); refine ⟨(_, _), rfl, ?_, ?_⟩)
                  all_goals first | omega | exact m4 | exact u3 | exact u5 | exact u6 _ (by assumption) | trace_state
            · rw [List.drop_eq_nil_of_le (by omega), GCode.refM] at m4
              rw [← m4] at n3
              simp only [Option.elim_some] at n3
              (try (simp -implicitDefEqProofs only [go_sem, hi3, runsD_len, w1])); repeat' first | with_reducible exact True.intro | with_reducible refine And.intro ?_ ?_ | with_reducible intro _ | (((with_reducible refine vc_b ?_ ?_) <;> intro _) <;> try (simp -implicitDefEqProofs only [go_sem, hi3, runsD_len, w1])) | simp (disch := omega) only [wrapI, wrapU, shl1, shl1', shl1'', shrN, shrN', and_one] | ((with_reducible refine isEx4 ?_); refine ⟨(_, _, _, _), rfl, ?_, ?_⟩) | ((with_reducible refine isEx3 ?_); refine ⟨(_, _, _), rfl, ?_, ?_⟩) | ((with_reducible refine isEx2 ?_); refine ⟨(_, _), rfl, ?_, ?_⟩)
              all_goals (first | omega | skip)
              refine ⟨(n + 1, k', nx, b), rfl, ⟨show 1 ≤ n + 1 by omega, show n + 1 + (k' : Int) = 15 by omega, n3, m5, m6⟩, Nat.lt_succ_self _⟩
        · have hk0 : k = 0 := by omega
          subst hk0
          have hr0 : R = 0 := n3.symm
          rw [hr0]
          (try (simp -implicitDefEqProofs only [go_sem, hn])); repeat' first | with_reducible exact True.intro | with_reducible refine And.intro ?_ ?_ | with_reducible intro _ | (((with_reducible refine vc_b ?_ ?_) <;> intro _) <;> try (simp -implicitDefEqProofs only [go_sem, hn])) | simp (disch := omega) only [wrapI, wrapU, shl1, shl1', shl1'', shrN, shrN', and_one] | ((with_reducible refine isEx4 ?_); refine ⟨(_, _, _, _), rfl, ?_, ?_⟩) | ((with_reducible refine isEx3 ?_); refine ⟨(_, _, _), rfl, ?_, ?_⟩) | ((with_reducible refine isEx2 ?_); refine ⟨(_, _), rfl, ?_, ?_⟩)
          all_goals first | omega | rfl | trace_state
end Go.Pw
