/- A part of the proof. -/
import Derived.Test.YtgeodifpcminpaaPgCodesN
import Derived.Test.YtgeodifpcminpaaPwLoop
set_option linter.all false
open Go Go.Pw Go.Proofs
namespace Go.Pw
set_option linter.unusedSimpArgs false
set_option linter.unusedVariables false
set_option maxRecDepth 100000
set_option maxHeartbeats 1600000

def pd_ref04_nearest : PC :=
  .seq (.reg [] (
    ⟨some 2, none, .box, [.t 0]⟩ ::
    ⟨some 4, none, .mov, [.k (.d (.list true []))]⟩ ::
    []) [1, 2])
  (.seq (.reg [] (
    ⟨some 11, none, .mov, [.t 1]⟩ ::
    ⟨some 12, none, .len false, [.t 11]⟩ ::
    ⟨some 13, none, .bin .add, [.t 12, .k (.d (.int .i64 1))]⟩ ::
    ⟨some 14, none, .mksl 25 1 (.list true []) true, [.t 13, .t 13]⟩ ::
    ⟨some 5, none, .mov, [.t 14]⟩ ::
    []) [1, 2, 5])
  (.seq (.reg [] (
    ⟨some 15, none, .mov, [.t 5]⟩ ::
    ⟨some 16, none, .mov, [.t 1]⟩ ::
    ⟨some 17, none, .len false, [.t 16]⟩ ::
    ⟨some 18, none, .faddr 4, [.t 2]⟩ ::
    ⟨some 19, none, .load false 1, [.t 18]⟩ ::
    ⟨some 20, none, .len false, [.t 19]⟩ ::
    ⟨some 21, none, .mksl 3 1 (.int .i64 0) true, [.t 20, .t 20]⟩ ::
    ⟨some 22, none, .iaddrS 1, [.t 15, .t 17]⟩ ::
    ⟨none, none, .store 1, [.t 22, .t 21]⟩ ::
    []) [1, 2, 5])
  (.seq (.seq (.reg [] (
    ⟨some 23, none, .mov, [.t 1]⟩ ::
    ⟨some 24, none, .len false, [.t 23]⟩ ::
    ⟨some 25, none, .bin .sub, [.t 24, .k (.d (.int .i64 1))]⟩ ::
    ⟨some 6, none, .mov, [.t 25]⟩ ::
    []) [1, 2, 5, 6])
  (.block 0
    (.loop [.frzH 5] [1, 2, 5, 6] [2, 14, 900000, 900001, 901000, 901001]
      (.seq (.seq (.reg [] (
        ⟨some 26, none, .mov, [.t 6]⟩ ::
        ⟨some 27, none, .bin .geq, [.t 26, .k (.d (.int .i64 0))]⟩ ::
        []) [1, 2, 5, 6, 27])
      (.cond (.t 27)
        (.skip)
        (.exit 0)))
      (.seq (.block 1
        (.seq (.reg [] (
          ⟨some 7, none, .mov, [.k (.d (.int .i64 0))]⟩ ::
          []) [1, 2, 5, 6, 7])
        (.block 2
          (.loop [] [1, 2, 5, 6, 7] [2, 14, 100, 900000, 900001, 901000, 901001]
            (.seq (.seq (.reg [] (
              ⟨some 30, none, .mov, [.t 7]⟩ ::
              ⟨some 31, none, .faddr 4, [.t 2]⟩ ::
              ⟨some 32, none, .load false 1, [.t 31]⟩ ::
              ⟨some 33, none, .len false, [.t 32]⟩ ::
              ⟨some 34, none, .bin .lss, [.t 30, .t 33]⟩ ::
              []) [1, 2, 5, 6, 7, 34])
            (.cond (.t 34)
              (.skip)
              (.exit 2)))
            (.seq (.block 3
              (.seq (.reg [] (
                ⟨some 37, none, .mov, [.t 1]⟩ ::
                ⟨some 38, none, .len false, [.t 37]⟩ ::
                ⟨some 8, none, .mov, [.t 38]⟩ ::
                []) [1, 2, 5, 6, 7, 8])
              (.seq (.seq (.reg [] (
                ⟨some 9, none, .mov, [.k (.d (.int .i64 0))]⟩ ::
                []) [1, 2, 5, 6, 7, 8, 9])
              (.block 4
                (.loop [] [1, 2, 5, 6, 7, 8, 9] [2, 14, 100, 900000, 900001, 901000, 901001]
                  (.seq (.seq (.reg [] (
                    ⟨some 39, none, .mov, [.t 9]⟩ ::
                    ⟨some 40, none, .faddr 4, [.t 2]⟩ ::
                    ⟨some 41, none, .load false 1, [.t 40]⟩ ::
                    ⟨some 42, none, .mov, [.t 7]⟩ ::
                    ⟨some 43, none, .iaddrS 1, [.t 41, .t 42]⟩ ::
                    ⟨some 44, none, .load false 1, [.t 43]⟩ ::
                    ⟨some 45, none, .len false, [.t 44]⟩ ::
                    ⟨some 46, none, .bin .lss, [.t 39, .t 45]⟩ ::
                    []) [1, 2, 5, 6, 7, 8, 9, 46])
                  (.cond (.t 46)
                    (.skip)
                    (.exit 4)))
                  (.seq (.block 5
                    (.seq (.reg [] (
                      ⟨some 49, none, .faddr 1, [.t 2]⟩ ::
                      ⟨some 50, none, .load false 1, [.t 49]⟩ ::
                      ⟨some 51, none, .mov, [.t 1]⟩ ::
                      ⟨some 52, none, .len false, [.t 51]⟩ ::
                      ⟨some 53, none, .mov, [.t 6]⟩ ::
                      ⟨some 54, none, .bin .sub, [.t 52, .t 53]⟩ ::
                      ⟨some 55, none, .minmax false, [.t 50, .t 54]⟩ ::
                      ⟨some 10, none, .mov, [.t 55]⟩ ::
                      []) [1, 2, 5, 6, 7, 8, 9, 10])
                    (.draw [] (
                      (⟨some 56, none, .mov, [.t 8]⟩, []) ::
                      (⟨some 57, none, .mov, [.t 1]⟩, []) ::
                      (⟨some 58, none, .mov, [.t 6]⟩, []) ::
                      (⟨some 59, none, .mov, [.t 6]⟩, []) ::
                      (⟨some 60, none, .mov, [.t 10]⟩, []) ::
                      (⟨some 61, none, .bin .add, [.t 59, .t 60]⟩, []) ::
                      (⟨some 62, none, .slice 1 true true false, [.t 57, .t 58, .t 61]⟩, []) ::
                      (⟨some 63, none, .load true 6, [.t 2]⟩, [6]) ::
                      (⟨some 64, none, .faddr 4, [.t 2]⟩, []) ::
                      (⟨some 65, none, .load false 1, [.t 64]⟩, [6]) ::
                      (⟨some 66, none, .mov, [.t 7]⟩, []) ::
                      (⟨some 67, none, .iaddrS 1, [.t 65, .t 66]⟩, [6]) ::
                      (⟨some 68, none, .load false 1, [.t 67]⟩, [6]) ::
                      (⟨some 69, none, .mov, [.t 9]⟩, []) ::
                      (⟨some 70, none, .iaddrS 1, [.t 68, .t 69]⟩, [6]) ::
                      (⟨some 71, none, .load false 1, [.t 70]⟩, [6]) ::
                      (⟨some 72, none, .call 56, [.t 63, .t 71]⟩, [6]) ::
                      (⟨some 73, none, .call 26, [.t 62, .t 72, .k (.d (.int .i64 0))]⟩, []) ::
                      (⟨some 74, none, .mov, [.t 5]⟩, []) ::
                      (⟨some 75, none, .mov, [.t 6]⟩, []) ::
                      (⟨some 76, none, .mov, [.t 10]⟩, []) ::
                      (⟨some 77, none, .bin .add, [.t 75, .t 76]⟩, []) ::
                      (⟨some 78, none, .iaddrS 1, [.t 74, .t 77]⟩, [6, 16, 17]) ::
                      (⟨some 79, none, .load false 1, [.t 78]⟩, [6, 16, 17]) ::
                      (⟨some 80, none, .faddr 5, [.t 2]⟩, []) ::
                      (⟨some 81, none, .load false 1, [.t 80]⟩, [6, 16, 17]) ::
                      (⟨some 82, none, .mov, [.t 7]⟩, []) ::
                      (⟨some 83, none, .iaddrS 1, [.t 81, .t 82]⟩, [6, 16, 17]) ::
                      (⟨some 84, none, .load false 1, [.t 83]⟩, [6, 16, 17]) ::
                      (⟨some 85, none, .mov, [.t 9]⟩, []) ::
                      (⟨some 86, none, .iaddrS 1, [.t 84, .t 85]⟩, [6, 16, 17]) ::
                      (⟨some 87, none, .load false 1, [.t 86]⟩, [6, 16, 17]) ::
                      (⟨some 88, none, .iaddrS 1, [.t 79, .t 87]⟩, [6, 16, 17]) ::
                      (⟨some 89, none, .load false 1, [.t 88]⟩, [6, 16, 17]) ::
                      (⟨some 90, none, .bin .add, [.t 73, .t 89]⟩, []) ::
                      (⟨some 91, none, .minmax false, [.t 56, .t 90]⟩, []) ::
                      (⟨some 8, none, .mov, [.t 91]⟩, []) ::
                      []) [1, 2, 5, 6, 7, 8, 9])))
                  (.reg [] (
                    ⟨some 47, none, .mov, [.t 9]⟩ ::
                    ⟨some 48, none, .bin .add, [.t 47, .k (.d (.int .i64 1))]⟩ ::
                    ⟨some 9, none, .mov, [.t 48]⟩ ::
                    []) [1, 2, 5, 6, 7, 8, 9]))))))
              (.reg [] (
                ⟨some 92, none, .mov, [.t 5]⟩ ::
                ⟨some 93, none, .mov, [.t 6]⟩ ::
                ⟨some 94, none, .mov, [.t 5]⟩ ::
                ⟨some 95, none, .mov, [.t 6]⟩ ::
                ⟨some 96, none, .iaddrS 1, [.t 94, .t 95]⟩ ::
                ⟨some 97, none, .load false 1, [.t 96]⟩ ::
                ⟨some 98, none, .mov, [.t 8]⟩ ::
                ⟨some 99, none, .mkrow 1 (.int .i64 0) 1 [0], [.t 98]⟩ ::
                ⟨some 100, none, .app 3 1 none true, [.t 97, .t 99]⟩ ::
                ⟨some 101, none, .iaddrS 1, [.t 92, .t 93]⟩ ::
                ⟨none, none, .store 1, [.t 101, .t 100]⟩ ::
                []) [1, 2, 5, 6, 7]))))
            (.reg [] (
              ⟨some 35, none, .mov, [.t 7]⟩ ::
              ⟨some 36, none, .bin .add, [.t 35, .k (.d (.int .i64 1))]⟩ ::
              ⟨some 7, none, .mov, [.t 36]⟩ ::
              []) [1, 2, 5, 6, 7])))))))
      (.reg [] (
        ⟨some 28, none, .mov, [.t 6]⟩ ::
        ⟨some 29, none, .bin .sub, [.t 28, .k (.d (.int .i64 1))]⟩ ::
        ⟨some 6, none, .mov, [.t 29]⟩ ::
        []) [1, 2, 5, 6]))))))
  (.seq (.reg [] (
    ⟨some 102, none, .mov, [.t 5]⟩ ::
    ⟨some 4, none, .mov, [.t 102]⟩ ::
    []) [4])
  (.ret)))))
theorem ded_ref04_nearest : Fun E0 F_ref04_nearest pd_ref04_nearest [.t 4] 103 := fun_of_dec (fl := []) (by kernel_rfl)

/-- The least distance from a place of the mark and a state on. -/
def GCode.nearL (c : GCode) (mark : List Int) (j : Nat) : List Int := (List.range c.words.length).map fun s : Nat => c.apP 16 s 0 (mark.drop j)
/-- The table once the rows behind 'i' are done. -/
def GCode.tabR (c : GCode) (mark : List Int) (i : Int) : Rows := (List.range (mark.length + 1)).map fun j : Nat => if i < j then (false, c.nearL mark j) else (true, [])
theorem nearL_len (c : GCode) (mark : List Int) (j : Nat) : (c.nearL mark j).length = c.words.length := by simp [GCode.nearL]
theorem nearL_get (c : GCode) (mark : List Int) (j : Nat) {s : Int} (h0 : 0 ≤ s) (h : s < c.words.length) : (c.nearL mark j)[s.toNat]?.getD 0 = c.apP 16 s 0 (mark.drop j) := by
  have : s.toNat < c.words.length := by omega
  simp [GCode.nearL, this, Int.toNat_of_nonneg h0]
theorem nearL_get? (c : GCode) (mark : List Int) (j : Nat) {s : Int} (h0 : 0 ≤ s) (h : s < c.words.length) : (c.nearL mark j)[s.toNat]? = some (c.apP 16 s 0 (mark.drop j)) := by
  have : s.toNat < c.words.length := by omega
  simp [GCode.nearL, this, Int.toNat_of_nonneg h0]
theorem tabR_len (c : GCode) (mark : List Int) (i : Int) : (c.tabR mark i).length = mark.length + 1 := by simp [GCode.tabR]
theorem tabR_get (c : GCode) (mark : List Int) (i : Int) {j : Nat} (h : j ≤ mark.length) : (c.tabR mark i)[j]?.getD default = if i < j then (false, c.nearL mark j) else (true, []) := by
  have : j < mark.length + 1 := by omega
  simp [GCode.tabR, this]
theorem tabR_next (c : GCode) (mark : List Int) {i : Int} (h0 : 0 ≤ i) (h : i ≤ mark.length) : (c.tabR mark i).set i.toNat (false, c.nearL mark i.toNat) = c.tabR mark (i - 1) := by
  apply List.ext_getElem?
  intro k
  rw [List.getElem?_set]
  by_cases hk : k < mark.length + 1
  · by_cases he : i.toNat = k
    · subst he
      rw [if_pos rfl, if_pos (by rw [tabR_len]; exact hk)]
      simp only [GCode.tabR, List.getElem?_map, List.getElem?_range hk, Option.map_some]
      rw [if_pos (by omega)]
    · rw [if_neg he]
      simp only [GCode.tabR, List.getElem?_map, List.getElem?_range hk, Option.map_some]
      by_cases hik : i < k
      · rw [if_pos hik, if_pos (by omega)]
      · rw [if_neg hik, if_neg (by omega)]
  · rw [if_neg (by omega), List.getElem?_eq_none (by rw [tabR_len]; omega), List.getElem?_eq_none (by rw [tabR_len]; omega)]
theorem tabR_first (c : GCode) (mark : List Int) : (List.replicate (mark.length + 1) (D.list true [])).set mark.length (.list false (List.replicate c.words.length (.int .i64 0))) = rowsD (c.tabR mark (mark.length - 1)) := by
  have h1 : List.replicate (mark.length + 1) (D.list true []) = rowsD (c.tabR mark mark.length) := by
    apply List.ext_getElem?
    intro k
    simp only [rowsD, GCode.tabR, List.map_map, List.getElem?_map]
    by_cases hk : k < mark.length + 1
    · rw [List.getElem?_range hk, List.getElem?_replicate, if_pos hk]
      simp only [Option.map_some, Function.comp]
      rw [if_neg (by omega)]; rfl
    · rw [List.getElem?_eq_none (by simp; omega), List.getElem?_eq_none (by simp; omega)]; rfl
  have h2 : D.list false (List.replicate c.words.length (.int .i64 0)) = rowD (false, c.nearL mark mark.length) := by
    have : c.nearL mark mark.length = List.replicate c.words.length 0 := by
      rw [List.eq_replicate_iff]
      refine ⟨nearL_len _ _ _, fun b hb => ?_⟩
      simp only [GCode.nearL, List.mem_map] at hb
      obtain ⟨s, _, rfl⟩ := hb
      simp [GCode.apP]
    rw [this]; simp [rowD, ints]
  rw [h1, h2, rowsD_eq, ← List.map_set, ← rowsD_eq]
  have := tabR_next c mark (i := mark.length) (by omega) (by omega)
  rw [Int.toNat_natCast] at this
  rw [this]

theorem tabR_zero (c : GCode) (mark : List Int) : List.replicate (mark.length + 1) (D.list true []) = rowsD (c.tabR mark mark.length) := by
  apply List.ext_getElem?
  intro k
  simp only [rowsD, GCode.tabR, List.map_map, List.getElem?_map]
  by_cases hk : k < mark.length + 1
  · rw [List.getElem?_range hk, List.getElem?_replicate, if_pos hk]
    simp only [Option.map_some, Function.comp]
    rw [if_neg (by omega)]; rfl
  · rw [List.getElem?_eq_none (by simp; omega), List.getElem?_eq_none (by simp; omega)]; rfl
def GCode.apR (c : GCode) (s : Int) (mk : List Int) : Int := c.apP 16 s 0 mk
theorem apPW_min (c : GCode) {r : Int → List Int → Int} {s f : Int} {mark : List Int} : ∀ (n : Nat) (w a b : Int), c.apPW r s f mark n w (min a b) = min a (c.apPW r s f mark n w b)
  | 0, w, a, b => rfl
  | n + 1, w, a, b => by
    simp only [GCode.apPW]
    rw [Int.min_assoc, apPW_min c n]
/-- What the innermost loop finds is the least distance. -/
theorem apPW_near (c : GCode) (h : c.ok = true) {mk : List Int} (hm : mk ≠ []) (hl : mk.length ≤ 16) {m : Nat} (h1 : mk.length ≤ m) (h2 : m ≤ 16) (s : Int) : c.apPW c.apR s 0 mk c.W 0 m = c.apP 16 s 0 mk := by
  have hd := GCode.ok_head h
  have e1 : c.apPW c.apR s 0 mk c.W 0 16 = c.apP 16 s 0 mk := by
    rw [show (16 : Nat) = 15 + 1 from rfl, GCode.apP, if_neg hm]
    refine apPW_congr c (fun s' k hk => ?_) hm (by simp; omega) _ _ _
    have hkl : (mk.drop k).length ≤ 15 := by simp; omega
    show c.apP 16 s' 0 (mk.drop k) = c.apP 15 s' 0 (mk.drop k)
    rw [apP_fuel c 16 s' 0 _ (by omega) (by simp; omega), apP_fuel c 15 s' 0 _ hkl (by simp; omega)]
  have e2 := apPW_min c (r := c.apR) (s := s) (f := 0) (mark := mk) c.W 0 m 16
  rw [show min (m : Int) 16 = m by omega, e1] at e2
  have := apP_high c (by omega) 16 s 0 mk (by omega) (by omega)
  rw [e2]; omega

theorem near_step (c : GCode) (hok : c.ok = true) {mark : List Int} {i s w least n : Int} (h0 : 0 ≤ i) (hi : i < mark.length) (hw : 0 ≤ w) (hw2 : w < c.W) (hn : min c.out (mark.length - i) = n) :
    c.apPW c.apR s 0 (mark.drop i.toNat) (c.W - w.toNat) w least = c.apPW c.apR s 0 (mark.drop i.toNat) (c.W - (w + 1).toNat) (w + 1) (min least (dist (List.take ((i + n).toNat - i.toNat) (List.drop i.toNat mark)) (List.drop (Int.toNat 0) (bitsOf c.out.toNat (c.wrd s w))) + c.apP 16 (c.nxt s w) 0 (mark.drop (i + n).toNat))) := by
  have hd := GCode.ok_head hok
  have hl := bitsOf_length c.out.toNat (c.wrd s w)
  rw [show c.W - w.toNat = (c.W - (w + 1).toNat) + 1 by omega]
  simp only [GCode.apPW]
  have e1 : min (mark.drop i.toNat).length ((bitsOf c.out.toNat (c.wrd s w)).drop (Int.toNat 0)).length = (i + n).toNat - i.toNat := by
    simp [hl]; omega
  rw [e1, List.drop_drop, show i.toNat + ((i + n).toNat - i.toNat) = (i + n).toNat by omega]
  rfl
theorem near_end (c : GCode) (hok : c.ok = true) {mark : List Int} (h16 : mark.length ≤ 16) {i s w least : Int} (h0 : 0 ≤ i) (hi : i < mark.length) (hw : ¬ w < c.W) (hw0 : 0 ≤ w)
    (h : c.apPW c.apR s 0 (mark.drop i.toNat) (c.W - w.toNat) w least = c.apPW c.apR s 0 (mark.drop i.toNat) c.W 0 mark.length) : least = c.apP 16 s 0 (mark.drop i.toNat) := by
  rw [show c.W - w.toNat = 0 by omega, GCode.apPW] at h
  have hne : mark.drop i.toNat ≠ [] := by intro e; have := congrArg List.length e; simp at this; omega
  rw [h, apPW_near c hok hne (by simp; omega) (by simp) h16]
theorem nearL_take (c : GCode) (mark : List Int) (j : Nat) {s : Int} (h0 : 0 ≤ s) (h : s < c.words.length) : (c.nearL mark j).take s.toNat ++ [c.apP 16 s 0 (mark.drop j)] = (c.nearL mark j).take (s + 1).toNat := by
  rw [show (s + 1).toNat = s.toNat + 1 by omega, List.take_add_one, nearL_get? c mark j h0 h]; rfl
theorem apP_pos (c : GCode) : ∀ (n : Nat) (s f : Int) (mk : List Int), 0 ≤ c.apP n s f mk := by
  intro n
  induction n with
  | zero => intro s f mk; simp [GCode.apP]
  | succ n ih =>
    intro s f mk
    simp only [GCode.apP]
    split
    · exact Int.le_refl _
    · have : ∀ (k : Nat) (w l : Int), 0 ≤ l → 0 ≤ c.apPW (fun s' mk => c.apP n s' 0 mk) s f mk k w l := by
        intro k
        induction k with
        | zero => intro w l hl; exact hl
        | succ k ih2 =>
          intro w l hl
          simp only [GCode.apPW]
          refine ih2 _ _ ?_
          have h1 := ih (c.nxt s w) 0 (mk.drop (min mk.length ((bitsOf c.out.toNat (c.wrd s w)).drop f.toNat).length))
          have h2 := dist_bound (mk.take (min mk.length ((bitsOf c.out.toNat (c.wrd s w)).drop f.toNat).length)) ((bitsOf c.out.toNat (c.wrd s w)).drop f.toNat)
          omega
      exact this _ _ _ (by omega)
attribute [local congr] cg_pw cg_seqI cg_seqE cg_stepI cg_ev cg_evBin cg_condB cg_condV cg_thenQ cg_blockQ cg_onSome cg_onCells cg_onRow cg_onRow2 cg_frhV cg_frhO cg_onMap cg_onOpt cg_ghosts cg_ghost cg_evCall cg_part cg_rng cg_guardV cg_frzV cg_frpV cg_ownV cg_owcV cg_occV cg_occX cg_resK cg_res1 cg_yldP cg_rndE cg_onlyN cg_onHist
attribute [local irreducible] IntKind.wrap bitsOp Option.getD and or

theorem ref04_Spread_ret (c : GCode) (y0 : Int) (h : 0 ≤ c.out ∧ c.out ≤ 5) (hx : 0 ≤ y0 ∧ y0 ≤ 1000) : Ret E0 F_ref04_Spread [codeD c, .int .i64 y0] (.list (bitsOf c.out.toNat y0).isEmpty (ints (bitsOf c.out.toNat y0))) := by
  refine ret_of_pw dec_ref04_Spread mixed (by simp) fun hwf => ?_
  rw [enter_eq]; unfold pc_ref04_Spread
  (try (simp -implicitDefEqProofs only [go_sem, codeD_eq, codeC_eq, rowsD_eq])); repeat' first | with_reducible exact True.intro | with_reducible refine And.intro ?_ ?_ | with_reducible intro _ | (((with_reducible refine vc_b ?_ ?_) <;> intro _) <;> try (simp -implicitDefEqProofs only [go_sem, codeD_eq, codeC_eq, rowsD_eq])) | simp (disch := omega) only [wrapI, wrapU, shl1, shl1', shl1'', shrN, shrN', and_one] | ((with_reducible refine isEx3 ?_); refine ⟨(_, _, _), rfl, ?_, ?_⟩)
  all_goals (try simp (disch := omega) only [wrapI, wrapU, shl1, shl1', shl1'', shrN, shrN', and_one] at *)
  refine pw_loopS (α := Int × Bool × (List Int)) (l0 := ?l1) (m0 := ?m1) (fun x => [(6, .d (.int .i64 x.1))]) (fun x => [(21, .row T_int 1 x.2.1 (ints x.2.2))]) (fun x => -1 ≤ x.1 ∧ x.1 < c.out ∧ x.2.2.length + x.1 = c.out - 1 ∧ x.2.1 = x.2.2.isEmpty ∧ x.2.2 ++ bitsOf (x.1+1).toNat y0 = bitsOf c.out.toNat y0) (fun x => (x.1+1).toNat) (?a1_0, ?a1_1, []) ?h01 ?he1 ?he21 ?hI1 ?step1
  case h01 => (simp -implicitDefEqProofs only [go_sem]; rfl)
  case he1 => rfl
  case he21 => rfl
  case' step1 => (rintro ⟨i, nl, acc⟩ hI; try dsimp only at hI)
  case' hI1 => try dsimp only
  · simp; (try omega)
  · obtain ⟨h1, h2, h3, h4, h5⟩ := hI
    by_cases hi : 0 ≤ i
    · have hb : bitsOf (i + 1).toNat y0 = (y0 / 2 ^ i.toNat % 2) :: bitsOf i.toNat y0 := by rw [show (i + 1).toNat = i.toNat + 1 by omega, bitsOf]
      rw [hb] at h5
      have hu : IntKind.u64.wrap i = i := wrapU _ (by omega)
      (try (simp -implicitDefEqProofs only [go_sem, hu])); repeat' first | with_reducible exact True.intro | with_reducible refine And.intro ?_ ?_ | with_reducible intro _ | (((with_reducible refine vc_b ?_ ?_) <;> intro _) <;> try (simp -implicitDefEqProofs only [go_sem, hu])) | simp (disch := omega) only [wrapI, wrapU, shl1, shl1', shl1'', shrN, shrN', and_one] | ((with_reducible refine isEx3 ?_); refine ⟨(_, _, _), rfl, ?_, ?_⟩)
      all_goals (try simp (disch := omega) only [wrapI, wrapU, shl1, shl1', shl1'', shrN, shrN', and_one] at *)
      all_goals first | omega | (simp; done) | (simp; omega) | skip
      all_goals (rw [← h5, show (i - 1 + 1).toNat = i.toNat by omega]; simp)
    · have h0 : (i + 1).toNat = 0 := by omega
      rw [h0, bitsOf, List.append_nil] at h5
      (try (simp -implicitDefEqProofs only [go_sem])); repeat' first | with_reducible exact True.intro | with_reducible refine And.intro ?_ ?_ | with_reducible intro _ | (((with_reducible refine vc_b ?_ ?_) <;> intro _) <;> try (simp -implicitDefEqProofs only [go_sem])) | simp (disch := omega) only [wrapI, wrapU, shl1, shl1', shl1'', shrN, shrN', and_one] | ((with_reducible refine isEx3 ?_); refine ⟨(_, _, _), rfl, ?_, ?_⟩)
      all_goals first | omega | (simp; done) | (simp; omega) | skip
      all_goals (rw [← h5, h4])


theorem ref04_Find_ret (n1 n2 : Bool) (mark bits : List Int) (e : Int) : Ret E0 F_ref04_Find [.list n1 (ints mark), .list n2 (ints bits), .int .i64 e]
    (.tup [.list (findR mark bits e).1.isEmpty (ints (findR mark bits e).1), .int .i64 (findR mark bits e).2]) := by
  refine ret_of_pw dec_ref04_Find mixed (by simp) fun hwf => ?_
  simp only [wf_int, wf_bool, wf_ints, wf_list, wf_agg, wf_ptr, wf_fn, wf_tup, wf_all_cons, wf_all_nil, wf_all_map, inK_i64, maxLen_eq, List.length_map, ints_len, true_and, and_true] at hwf
  have bad : (isMarkB mark && decide (bits.length ≤ 128) && areBits bits && inR e 0 16) = false → findR mark bits e = ([], 1) := fun h => by simp only [findR, h]; rfl
  have bad2 : ¬ bits.length ≤ 128 → findR mark bits e = ([], 1) := fun h => bad (by have : decide (bits.length ≤ 128) = false := by simpa using h
                                                                                    simp [this])
  rw [enter_eq]; unfold pc_ref04_Find
  (try (simp -implicitDefEqProofs only [go_sem])); repeat' first | with_reducible exact True.intro | with_reducible refine And.intro ?_ ?_ | with_reducible intro _ | (((with_reducible refine isCall ?_); first | refine call_b (ref04_IsMark_ret _ _) rfl ?_ ?_ | refine call_d (ref04_IsMark_ret _ _) rfl ?_ | refine call_sb (ref04_IsMark_ret _ _) rfl ?_ ?_ | refine call_s (ref04_IsMark_ret _ _) rfl rfl ?_ | refine call_b (ref04_AreBits_ret _ _) rfl ?_ ?_ | refine call_d (ref04_AreBits_ret _ _) rfl ?_ | refine call_sb (ref04_AreBits_ret _ _) rfl ?_ ?_ | refine call_s (ref04_AreBits_ret _ _) rfl rfl ?_ | refine call_b (ref04_within_ret _ _ _) rfl ?_ ?_ | refine call_d (ref04_within_ret _ _ _) rfl ?_ | refine call_sb (ref04_within_ret _ _ _) rfl ?_ ?_ | refine call_s (ref04_within_ret _ _ _) rfl rfl ?_) <;> try (simp -implicitDefEqProofs only [go_sem])) | (((with_reducible refine vc_b ?_ ?_) <;> intro _) <;> try (simp -implicitDefEqProofs only [go_sem])) | simp (disch := omega) only [wrapI, wrapU, shl1, shl1', shl1'', shrN, shrN', and_one] | ((with_reducible refine isEx3 ?_); refine ⟨(_, _, _), rfl, ?_, ?_⟩)
  all_goals first | (have hx : ¬ bits.length ≤ 128 := by omega
                     rw [bad2 hx]; rfl) | skip
  all_goals first | (have hx : (isMarkB mark && decide (bits.length ≤ 128) && areBits bits && inR e 0 16) = false := by (simp_all [isMarkB]; done)
                     rw [bad hx]; rfl) | skip
  have hm : isMarkB mark = true := by assumption
  have hb : areBits bits = true := by assumption
  have h128 : bits.length ≤ 128 := by omega
  have hgood : findR mark bits e = (findF mark bits e (bits.length + 1 - mark.length) 0, 0) := by simp only [findR]; simp_all
  have hmb : areBits mark = true := by simp only [isMarkB, Bool.and_eq_true] at hm; exact hm.2
  have hm1 : 1 ≤ mark.length ∧ mark.length ≤ 16 := by simp [isMarkB, inR] at hm; omega
  rw [hgood]
  refine pw_loopS (α := Int × Bool × (List Int)) (l0 := ?l2) (m0 := ?m2) (fun x => [(9, .d (.int .i64 x.1))]) (fun x => [(46, .row T_int 1 x.2.1 (ints x.2.2))]) (fun x => 0 ≤ x.1 ∧ x.1 ≤ max 0 (bits.length - mark.length + 1 : Int) ∧ x.2.2.length ≤ x.1 ∧ x.2.1 = x.2.2.isEmpty ∧ x.2.2 ++ findF mark bits e (bits.length + 1 - mark.length - x.1.toNat) x.1 = findF mark bits e (bits.length + 1 - mark.length) 0) (fun x => (max 0 (bits.length - mark.length + 1 : Int) - x.1).toNat) (?a2_0, ?a2_1, []) ?h02 ?he2 ?he22 ?hI2 ?step2
  case h02 => (simp -implicitDefEqProofs only [go_sem]; rfl)
  case he2 => rfl
  case he22 => rfl
  case' step2 => (rintro ⟨i, nl, acc⟩ hI; try dsimp only at hI)
  case' hI2 => try dsimp only
  · simp; omega
  · have hwr : IntKind.i64.wrap (i + mark.length) = i + mark.length := wrapI _ (by omega)
    by_cases hi : i < max 0 (bits.length - mark.length + 1 : Int)
    · have hle : i + mark.length ≤ (bits.length : Int) := by omega
      have hstep : findF mark bits e (bits.length + 1 - mark.length - i.toNat) i = if dist mark (bits.drop i.toNat) ≤ e then i :: findF mark bits e (bits.length + 1 - mark.length - (i + 1).toNat) (i + 1) else findF mark bits e (bits.length + 1 - mark.length - (i + 1).toNat) (i + 1) := by
        rw [show bits.length + 1 - mark.length - i.toNat = (bits.length + 1 - mark.length - (i + 1).toNat) + 1 by omega, findF]
      have cd := fun n1 n2 => ref04_Distance_ret n1 n2 mark bits i (by omega) (by omega) (by omega) (by omega)
      (try (simp -implicitDefEqProofs only [go_sem, hwr, hle])); repeat' first | with_reducible exact True.intro | with_reducible refine And.intro ?_ ?_ | with_reducible intro _ | (((with_reducible refine isCall ?_); first | refine call_b (cd _ _) rfl ?_ ?_ | refine call_d (cd _ _) rfl ?_ | refine call_sb (cd _ _) rfl ?_ ?_ | refine call_s (cd _ _) rfl rfl ?_) <;> try (simp -implicitDefEqProofs only [go_sem, hwr, hle])) | (((with_reducible refine vc_b ?_ ?_) <;> intro _) <;> try (simp -implicitDefEqProofs only [go_sem, hwr, hle])) | simp (disch := omega) only [wrapI, wrapU, shl1, shl1', shl1'', shrN, shrN', and_one] | ((with_reducible refine isEx3 ?_); refine ⟨(_, _, _), rfl, ?_, ?_⟩)
      all_goals first | omega | (simp; done) | (simp; omega) | skip
      · rw [← hI.2.2.2.2, hstep, if_pos (by assumption)]; simp
      · exact hI.2.2.2.1
      · rw [← hI.2.2.2.2, hstep, if_neg (by assumption)]
    · have hle : ¬ i + mark.length ≤ (bits.length : Int) := by omega
      (try (simp -implicitDefEqProofs only [go_sem, hwr, hle])); repeat' first | with_reducible exact True.intro | with_reducible refine And.intro ?_ ?_ | with_reducible intro _ | (((with_reducible refine vc_b ?_ ?_) <;> intro _) <;> try (simp -implicitDefEqProofs only [go_sem, hwr, hle])) | simp (disch := omega) only [wrapI, wrapU, shl1, shl1', shl1'', shrN, shrN', and_one] | ((with_reducible refine isEx3 ?_); refine ⟨(_, _, _), rfl, ?_, ?_⟩)
      all_goals first | omega | (simp; done) | (simp; omega) | skip
      have h0 : bits.length + 1 - mark.length - i.toNat = 0 := by omega
      have h1 := hI.2.2.2.2
      rw [h0, findF, List.append_nil] at h1
      rw [← h1, hI.2.2.2.1]

theorem ref04_nearest_ret (c : GCode) (hok : c.ok = true) (nl : Bool) (mark : List Int) (hmb : areBits mark = true) (hm1 : 1 ≤ mark.length ∧ mark.length ≤ 16) : Ret E0 F_ref04_nearest [codeD c, .list nl (ints mark)] (.list false (rowsD (c.tabR mark (-1)))) := by
  refine ret_of_pw ded_ref04_nearest mixed (by simp) fun hwf => ?_
  have hd := GCode.ok_head hok
  have hWp := GCode.W_pos c
  have hW4 : c.W ≤ 4 := by
    have : c.bits.toNat = 1 ∨ c.bits.toNat = 2 := by omega
    unfold GCode.W; rcases this with e | e <;> rw [e] <;> decide
  have hT := tabR_first c mark
  have hT' : List.replicate (mark.length + 1) (D.list true []) = rowsD (c.tabR mark mark.length) := tabR_zero c mark
  rw [enter_eq]; unfold pd_ref04_nearest
  (try (simp -implicitDefEqProofs only [go_sem, codeD_eq, codeC_eq, rowsD_eq])); repeat' first | with_reducible exact True.intro | with_reducible refine And.intro ?_ ?_ | with_reducible intro _ | (((with_reducible refine vc_b ?_ ?_) <;> intro _) <;> try (simp -implicitDefEqProofs only [go_sem, codeD_eq, codeC_eq, rowsD_eq])) | simp (disch := omega) only [wrapI, wrapU, shl1, shl1', shl1'', shrN, shrN', and_one] | ((with_reducible refine isEx2 ?_); refine ⟨(_, _), rfl, ?_, ?_⟩) | ((with_reducible refine isEx ?_); refine ⟨_, rfl, ?_, ?_⟩)
  all_goals first | omega | (simp; done) | (simp; omega) | skip
  all_goals try (simp only [List.length_replicate]; omega)
  rw [show ((mark.length : Int) + 1).toNat = mark.length + 1 by omega, hT']
  have hT2 : (List.map rowD (c.tabR mark mark.length)).set mark.length (D.list false (ints (List.replicate c.words.length 0))) = List.map rowD (c.tabR mark (mark.length - 1)) := by
    rw [hT', rowsD_eq, rowsD_eq] at hT
    rw [← hT]; simp [ints]
  refine pw_loopS (α := Int) (l0 := ?l3) (m0 := ?m3) (fun x => [(6, .d (.int .i64 x))]) (fun x => [(14, .row 25 1 false (List.map rowD (c.tabR mark x)))]) (fun x => -1 ≤ x ∧ x < mark.length) (fun x => (x + 1).toNat) ?a3_0 ?h03 ?he3 ?he23 ?hI3 ?step3
  case h03 => (simp -implicitDefEqProofs only [go_sem, rowsD_eq, hT2]; rfl)
  case he3 => rfl
  case he23 => rfl
  case' step3 => (rintro i hI; try dsimp only at hI)
  case' hI3 => try dsimp only
  · first | omega | (simp; omega) | simp
  · obtain ⟨hi0, hi1⟩ := hI
    have hwm : IntKind.i64.wrap (i - 1) = i - 1 := wrapI _ (by omega)
    have hwr : IntKind.i64.wrap (0 + 1) = 1 := wrapI _ (by omega)
    by_cases hi : 0 ≤ i
    · (try (simp -implicitDefEqProofs only [go_sem, rowsD_eq, hi])); repeat' first | with_reducible exact True.intro | with_reducible refine And.intro ?_ ?_ | with_reducible intro _ | (((with_reducible refine vc_b ?_ ?_) <;> intro _) <;> try (simp -implicitDefEqProofs only [go_sem, rowsD_eq, hi])) | simp (disch := omega) only [wrapI, wrapU, shl1, shl1', shl1'', shrN, shrN', and_one] | ((with_reducible refine isEx2 ?_); refine ⟨(_, _), rfl, ?_, ?_⟩) | ((with_reducible refine isEx ?_); refine ⟨_, rfl, ?_, ?_⟩)
      refine pw_loopP (S0 := ⟨look ?lA, ⟨lookO ?mA, fun _ => 1⟩⟩) (α := Int × List Int) (fun x => [(7, .d (.int .i64 x.1))]) (fun x => [(14, .rowH 25 (List.map rowD (c.tabR mark i)) i.toNat 100 0), (100, .row 3 1 false (ints x.2))]) (fun x => (1 ≤ x.1 ∧ x.1 ≤ c.words.length) ∧ x.2 = (c.nearL mark i.toNat).take x.1.toNat) (fun x => (c.words.length - x.1).toNat) c.words.length
        [(1, .d (.list nl (ints mark))), (2, .ptr 2 0 0), (5, .own 14 0), (6, .d (.int .i64 i)), (7, .undef)] [(2, (0, .cells [.d (.int .i64 c.bits), .d (.int .i64 c.out), .d (.int .i64 c.least), .d (.int .i64 c.most), .d (.list c.nw (List.map rowD c.words)), .d (.list c.nn (List.map rowD c.next))])), (14, (0, .row 25 1 false [])), (100, (0, .row 3 1 false []))] ?h0 ?first ?step
      case h0 => (simp -implicitDefEqProofs only [go_sem, rowsD_eq]; rfl)
      case first =>
        have hS : (0 : Int) < c.words.length := by omega
        (try (simp -implicitDefEqProofs only [go_sem, rowsD_eq, hS])); repeat' first | with_reducible exact True.intro | with_reducible refine And.intro ?_ ?_ | with_reducible intro _ | (((with_reducible refine vc_b ?_ ?_) <;> intro _) <;> try (simp -implicitDefEqProofs only [go_sem, rowsD_eq, hS])) | simp (disch := omega) only [wrapI, wrapU, shl1, shl1', shl1'', shrN, shrN', and_one] | ((with_reducible refine isEx2 ?_); refine ⟨(_, _), rfl, ?_, ?_⟩) | ((with_reducible refine isEx ?_); refine ⟨_, rfl, ?_, ?_⟩)
        refine pw_loopS (α := Int × Int) (l0 := ?l4) (m0 := ?m4) (fun x => [(9, .d (.int .i64 x.1)), (8, .d (.int .i64 x.2))]) (fun x => []) (fun x => (0 ≤ x.1 ∧ x.1 ≤ c.W) ∧ (0 ≤ x.2 ∧ x.2 ≤ mark.length) ∧ c.apPW c.apR 0 0 (mark.drop i.toNat) (c.W - x.1.toNat) x.1 x.2 = c.apPW c.apR 0 0 (mark.drop i.toNat) c.W 0 mark.length) (fun x => (c.W - x.1).toNat) (?a4_0, ?a4_1) ?h04 ?he4 ?he24 ?hI4 ?step4
        case h04 => (simp -implicitDefEqProofs only [go_sem, rowsD_eq]; rfl)
        case he4 => rfl
        case he24 => rfl
        case' step4 => (rintro ⟨w, least⟩ hI2; try dsimp only at hI2)
        case' hI4 => try dsimp only
        · refine ⟨⟨by omega, by omega⟩, ?_, rfl⟩; simp
        · obtain ⟨⟨w0, w1⟩, ⟨l0, l1⟩, heq⟩ := hI2
          have hws := GCode.ok_words hok 0 (by omega)
          have hns := GCode.ok_next hok 0 (by omega)
          have hwl : (c.words[0]?.getD default).2.length = c.W := hws.1
          have hnl : (c.next[0]?.getD default).2.length = c.W := hns.1
          have hS1 : 0 < c.words.length := by omega
          have hN1 : 0 < c.next.length := by omega
          have hN2 : 0 < (c.next.length : Int) := by omega
          have hz : (0 : Int).toNat = 0 := rfl
          have htl := tabR_len c mark i
          by_cases hw : w < c.W
          · have hwt : w.toNat < c.W := by omega
            have hmn : IntKind.i64.wrap (mark.length - i) = mark.length - i := wrapI _ (by omega)
            have hww : IntKind.i64.wrap (w + 1) = w + 1 := wrapI _ (by omega)
            obtain ⟨n, hn⟩ : ∃ n, min c.out (mark.length - i) = n := ⟨_, rfl⟩
            rw [near_step c hok hi hi1 w0 hw hn] at heq
            have hin : IntKind.i64.wrap (i + n) = i + n := wrapI _ (by omega)
            have hb1 : i ≤ i + n := by omega
            have hb2 : i + n ≤ (mark.length : Int) := by omega
            have hb0 : 0 ≤ i + n := by omega
            have hb3 : i + n < ((mark.length + 1 : Nat) : Int) := by omega
            have hb4 : (i + n).toNat < mark.length + 1 := by omega
            have h2o : (2 : Int) ^ c.out.toNat ≤ 32 := by
              have : c.out.toNat = 1 ∨ c.out.toNat = 2 ∨ c.out.toNat = 3 ∨ c.out.toNat = 4 ∨ c.out.toNat = 5 := by omega
              rcases this with e | e | e | e | e <;> rw [e] <;> decide
            have hwv := hws.2 _ (getD_mem0 (i := w.toNat) (by omega))
            have hwd : (c.words[0]?.getD default).2[w.toNat]?.getD 0 = c.wrd 0 w := rfl
            rw [hwd] at hwv
            have csp := ref04_Spread_ret c (c.wrd 0 w) (by omega) ⟨hwv.1, by omega⟩
            have hspl := bitsOf_length c.out.toNat (c.wrd 0 w)
            have hsp0 : (bitsOf c.out.toNat (c.wrd 0 w)).isEmpty = false := by
              cases hx : bitsOf c.out.toNat (c.wrd 0 w) with
              | nil => rw [hx] at hspl; simp at hspl; omega
              | cons _ _ => rfl
            rw [hsp0] at csp
            have cd := ref04_Distance_ret nl false (List.take ((i + n).toNat - i.toNat) (List.drop i.toNat mark)) (bitsOf c.out.toNat (c.wrd 0 w)) 0 (by omega) (by rw [hspl]; simp; omega) (by simp; omega) (by rw [hspl]; omega)
            have hdb := dist_bound (List.take ((i + n).toNat - i.toNat) (List.drop i.toNat mark)) (List.drop (Int.toNat 0) (bitsOf c.out.toNat (c.wrd 0 w)))
            have hxl : (List.take ((i + n).toNat - i.toNat) (List.drop i.toNat mark)).length ≤ 16 := by simp; omega
            generalize dist (List.take ((i + n).toNat - i.toNat) (List.drop i.toNat mark)) (List.drop (Int.toNat 0) (bitsOf c.out.toNat (c.wrd 0 w))) = dv at *
            have hg : (c.tabR mark i)[(i + n).toNat]?.getD default = (false, c.nearL mark (i + n).toNat) := by rw [tabR_get c mark i (by omega), if_pos (by omega)]
            have hnv := hns.2 _ (getD_mem0 (i := w.toNat) (by omega))
            have hnd : (c.next[0]?.getD default).2[w.toNat]?.getD 0 = c.nxt 0 w := rfl
            rw [hnd] at hnv
            generalize c.nxt 0 w = q at *
            have hq0 := hnv.1
            have hq1 : q < (c.words.length : Int) := by omega
            have hq2 : q.toNat < c.words.length := by omega
            have hnq := nearL_get c mark (i + n).toNat hq0 hq1
            have hap := apP_pos c 16 q 0 (mark.drop (i + n).toNat)
            have hah := apP_high c (by omega) 16 q 0 (mark.drop (i + n).toNat) (by omega) (by omega)
            have hal : (mark.drop (i + n).toNat).length ≤ 16 := by simp; omega
            have hNl := nearL_len c mark (i + n).toNat
            generalize c.apP 16 q 0 (mark.drop (i + n).toNat) = av at *
            have hsm : IntKind.i64.wrap (dv + av) = dv + av := wrapI _ (by omega)
            (try (simp -implicitDefEqProofs only [go_sem, rowsD_eq, rowD_eq, hS1, hS, hN1, hN2, hwl, hnl, hwt, hw, w0, hz, hi, hmn, hww, hn, hin, hb0, hb1, hb2, hb3, hb4, hwd, hnd, hg, hq0, hq1, hq2, hnq, hNl, hsm, htl])); repeat' first | with_reducible exact True.intro | with_reducible refine And.intro ?_ ?_ | with_reducible intro _ | (((with_reducible refine isCall ?_); first | refine call_b (csp) rfl ?_ ?_ | refine call_d (csp) rfl ?_ | refine call_sb (csp) rfl ?_ ?_ | refine call_s (csp) rfl rfl ?_ | refine call_b (cd) rfl ?_ ?_ | refine call_d (cd) rfl ?_ | refine call_sb (cd) rfl ?_ ?_ | refine call_s (cd) rfl rfl ?_) <;> try (simp -implicitDefEqProofs only [go_sem, rowsD_eq, rowD_eq, hS1, hS, hN1, hN2, hwl, hnl, hwt, hw, w0, hz, hi, hmn, hww, hn, hin, hb0, hb1, hb2, hb3, hb4, hwd, hnd, hg, hq0, hq1, hq2, hnq, hNl, hsm, htl])) | (((with_reducible refine vc_b ?_ ?_) <;> intro _) <;> try (simp -implicitDefEqProofs only [go_sem, rowsD_eq, rowD_eq, hS1, hS, hN1, hN2, hwl, hnl, hwt, hw, w0, hz, hi, hmn, hww, hn, hin, hb0, hb1, hb2, hb3, hb4, hwd, hnd, hg, hq0, hq1, hq2, hnq, hNl, hsm, htl])) | simp (disch := omega) only [wrapI, wrapU, shl1, shl1', shl1'', shrN, shrN', and_one] | ((with_reducible refine isEx2 ?_); refine ⟨(_, _), rfl, ?_, ?_⟩) | ((with_reducible refine isEx ?_); refine ⟨_, rfl, ?_, ?_⟩)
            all_goals (try omega)
            all_goals first | exact heq | trace_state
          · have hle := near_end c hok hm1.2 hi hi1 hw w0 heq
            have hgi : (c.tabR mark i)[i.toNat]?.getD default = (true, []) := by rw [tabR_get c mark i (by omega), if_neg (by omega)]
            have hnil : ints [] = [] := rfl
            have hi3 : i < ((mark.length + 1 : Nat) : Int) := by omega
            have hi4 : i.toNat < mark.length + 1 := by omega
            (try (simp -implicitDefEqProofs only [go_sem, rowsD_eq, rowD_eq, hS1, hS, hN1, hN2, hwl, hnl, hw, w0, hz, hi, htl, hgi, hi3, hi4, hwr, hnil])); repeat' first | with_reducible exact True.intro | with_reducible refine And.intro ?_ ?_ | with_reducible intro _ | (((with_reducible refine vc_b ?_ ?_) <;> intro _) <;> try (simp -implicitDefEqProofs only [go_sem, rowsD_eq, rowD_eq, hS1, hS, hN1, hN2, hwl, hnl, hw, w0, hz, hi, htl, hgi, hi3, hi4, hwr, hnil])) | simp (disch := omega) only [wrapI, wrapU, shl1, shl1', shl1'', shrN, shrN', and_one] | ((with_reducible refine isEx2 ?_); refine ⟨(_, _), rfl, ?_, ?_⟩) | ((with_reducible refine isEx ?_); refine ⟨_, rfl, ?_, ?_⟩)
            all_goals (try omega)
            refine ⟨(1, [least]), rfl, ⟨⟨by omega, by omega⟩, ?_⟩, by omega⟩
            have := nearL_take c mark i.toNat (s := 0) (by omega) (by omega)
            rw [hle]; exact this
      case step =>
        rintro ⟨s, acc⟩ ⟨⟨q1, q2⟩, q3⟩
        dsimp only at q1 q2 q3
        have hi3 : i < ((mark.length + 1 : Nat) : Int) := by omega
        have hi4 : i.toNat < mark.length + 1 := by omega
        have htl := tabR_len c mark i
        have hsr : IntKind.i64.wrap (s + 1) = s + 1 := wrapI _ (by omega)
        by_cases hS : s < c.words.length
        · (try (simp -implicitDefEqProofs only [go_sem, rowsD_eq, hS])); repeat' first | with_reducible exact True.intro | with_reducible refine And.intro ?_ ?_ | with_reducible intro _ | (((with_reducible refine vc_b ?_ ?_) <;> intro _) <;> try (simp -implicitDefEqProofs only [go_sem, rowsD_eq, hS])) | simp (disch := omega) only [wrapI, wrapU, shl1, shl1', shl1'', shrN, shrN', and_one] | ((with_reducible refine isEx2 ?_); refine ⟨(_, _), rfl, ?_, ?_⟩) | ((with_reducible refine isEx ?_); refine ⟨_, rfl, ?_, ?_⟩)
          refine pw_loopS (α := Int × Int) (l0 := ?l5) (m0 := ?m5) (fun x => [(9, .d (.int .i64 x.1)), (8, .d (.int .i64 x.2))]) (fun x => []) (fun x => (0 ≤ x.1 ∧ x.1 ≤ c.W) ∧ (0 ≤ x.2 ∧ x.2 ≤ mark.length) ∧ c.apPW c.apR s 0 (mark.drop i.toNat) (c.W - x.1.toNat) x.1 x.2 = c.apPW c.apR s 0 (mark.drop i.toNat) c.W 0 mark.length) (fun x => (c.W - x.1).toNat) (?a5_0, ?a5_1) ?h05 ?he5 ?he25 ?hI5 ?step5
          case h05 => (simp -implicitDefEqProofs only [go_sem, rowsD_eq]; rfl)
          case he5 => rfl
          case he25 => rfl
          case' step5 => (rintro ⟨w, least⟩ hI3; try dsimp only at hI3)
          case' hI5 => try dsimp only
          · refine ⟨⟨by omega, by omega⟩, ?_, rfl⟩; simp
          · obtain ⟨⟨w0, w1⟩, ⟨l0, l1⟩, heq⟩ := hI3
            have hws := GCode.ok_words hok s.toNat (by omega)
            have hns := GCode.ok_next hok s.toNat (by omega)
            have hwl : (c.words[s.toNat]?.getD default).2.length = c.W := hws.1
            have hnl : (c.next[s.toNat]?.getD default).2.length = c.W := hns.1
            have hS1 : s.toNat < c.words.length := by omega
            have hN1 : s.toNat < c.next.length := by omega
            have hN2 : s < (c.next.length : Int) := by omega
            have hz : (0 : Int).toNat = 0 := rfl
            have htl := tabR_len c mark i
            by_cases hw : w < c.W
            · have hwt : w.toNat < c.W := by omega
              have hmn : IntKind.i64.wrap (mark.length - i) = mark.length - i := wrapI _ (by omega)
              have hww : IntKind.i64.wrap (w + 1) = w + 1 := wrapI _ (by omega)
              obtain ⟨n, hn⟩ : ∃ n, min c.out (mark.length - i) = n := ⟨_, rfl⟩
              rw [near_step c hok hi hi1 w0 hw hn] at heq
              have hin : IntKind.i64.wrap (i + n) = i + n := wrapI _ (by omega)
              have hb1 : i ≤ i + n := by omega
              have hb2 : i + n ≤ (mark.length : Int) := by omega
              have hb0 : 0 ≤ i + n := by omega
              have hb3 : i + n < ((mark.length + 1 : Nat) : Int) := by omega
              have hb4 : (i + n).toNat < mark.length + 1 := by omega
              have h2o : (2 : Int) ^ c.out.toNat ≤ 32 := by
                have : c.out.toNat = 1 ∨ c.out.toNat = 2 ∨ c.out.toNat = 3 ∨ c.out.toNat = 4 ∨ c.out.toNat = 5 := by omega
                rcases this with e | e | e | e | e <;> rw [e] <;> decide
              have hwv := hws.2 _ (getD_mem0 (i := w.toNat) (by omega))
              have hwd : (c.words[s.toNat]?.getD default).2[w.toNat]?.getD 0 = c.wrd s w := rfl
              rw [hwd] at hwv
              have csp := ref04_Spread_ret c (c.wrd s w) (by omega) ⟨hwv.1, by omega⟩
              have hspl := bitsOf_length c.out.toNat (c.wrd s w)
              have hsp0 : (bitsOf c.out.toNat (c.wrd s w)).isEmpty = false := by
                cases hx : bitsOf c.out.toNat (c.wrd s w) with
                | nil => rw [hx] at hspl; simp at hspl; omega
                | cons _ _ => rfl
              rw [hsp0] at csp
              have cd := ref04_Distance_ret nl false (List.take ((i + n).toNat - i.toNat) (List.drop i.toNat mark)) (bitsOf c.out.toNat (c.wrd s w)) 0 (by omega) (by rw [hspl]; simp; omega) (by simp; omega) (by rw [hspl]; omega)
              have hdb := dist_bound (List.take ((i + n).toNat - i.toNat) (List.drop i.toNat mark)) (List.drop (Int.toNat 0) (bitsOf c.out.toNat (c.wrd s w)))
              have hxl : (List.take ((i + n).toNat - i.toNat) (List.drop i.toNat mark)).length ≤ 16 := by simp; omega
              generalize dist (List.take ((i + n).toNat - i.toNat) (List.drop i.toNat mark)) (List.drop (Int.toNat 0) (bitsOf c.out.toNat (c.wrd s w))) = dv at *
              have hg : (c.tabR mark i)[(i + n).toNat]?.getD default = (false, c.nearL mark (i + n).toNat) := by rw [tabR_get c mark i (by omega), if_pos (by omega)]
              have hnv := hns.2 _ (getD_mem0 (i := w.toNat) (by omega))
              have hnd : (c.next[s.toNat]?.getD default).2[w.toNat]?.getD 0 = c.nxt s w := rfl
              rw [hnd] at hnv
              generalize c.nxt s w = q at *
              have hq0 := hnv.1
              have hq1 : q < (c.words.length : Int) := by omega
              have hq2 : q.toNat < c.words.length := by omega
              have hnq := nearL_get c mark (i + n).toNat hq0 hq1
              have hap := apP_pos c 16 q 0 (mark.drop (i + n).toNat)
              have hah := apP_high c (by omega) 16 q 0 (mark.drop (i + n).toNat) (by omega) (by omega)
              have hal : (mark.drop (i + n).toNat).length ≤ 16 := by simp; omega
              have hNl := nearL_len c mark (i + n).toNat
              generalize c.apP 16 q 0 (mark.drop (i + n).toNat) = av at *
              have hsm : IntKind.i64.wrap (dv + av) = dv + av := wrapI _ (by omega)
              have hne : ¬ (i + n).toNat = i.toNat := by omega
              (try (simp -implicitDefEqProofs only [go_sem, rowsD_eq, rowD_eq, hS1, hS, hN1, hN2, hwl, hnl, hwt, hw, w0, hz, hi, hmn, hww, hn, hin, hb0, hb1, hb2, hb3, hb4, hwd, hnd, hg, hq0, hq1, hq2, hnq, hNl, hsm, htl, hne])); repeat' first | with_reducible exact True.intro | with_reducible refine And.intro ?_ ?_ | with_reducible intro _ | (((with_reducible refine isCall ?_); first | refine call_b (csp) rfl ?_ ?_ | refine call_d (csp) rfl ?_ | refine call_sb (csp) rfl ?_ ?_ | refine call_s (csp) rfl rfl ?_ | refine call_b (cd) rfl ?_ ?_ | refine call_d (cd) rfl ?_ | refine call_sb (cd) rfl ?_ ?_ | refine call_s (cd) rfl rfl ?_) <;> try (simp -implicitDefEqProofs only [go_sem, rowsD_eq, rowD_eq, hS1, hS, hN1, hN2, hwl, hnl, hwt, hw, w0, hz, hi, hmn, hww, hn, hin, hb0, hb1, hb2, hb3, hb4, hwd, hnd, hg, hq0, hq1, hq2, hnq, hNl, hsm, htl, hne])) | (((with_reducible refine vc_b ?_ ?_) <;> intro _) <;> try (simp -implicitDefEqProofs only [go_sem, rowsD_eq, rowD_eq, hS1, hS, hN1, hN2, hwl, hnl, hwt, hw, w0, hz, hi, hmn, hww, hn, hin, hb0, hb1, hb2, hb3, hb4, hwd, hnd, hg, hq0, hq1, hq2, hnq, hNl, hsm, htl, hne])) | simp (disch := omega) only [wrapI, wrapU, shl1, shl1', shl1'', shrN, shrN', and_one] | ((with_reducible refine isEx2 ?_); refine ⟨(_, _), rfl, ?_, ?_⟩) | ((with_reducible refine isEx ?_); refine ⟨_, rfl, ?_, ?_⟩)
              all_goals (try omega)
              all_goals first | exact heq | trace_state
            · have hle := near_end c hok hm1.2 hi hi1 hw w0 heq
              have hacc : acc.length ≤ 4 := by rw [q3]; simp [nearL_len]; omega
              have hnx : acc ++ [least] = (c.nearL mark i.toNat).take (s + 1).toNat := by rw [q3, hle]; exact nearL_take c mark i.toNat (by omega) hS
              (try (simp -implicitDefEqProofs only [go_sem, rowsD_eq, rowD_eq, hS1, hS, hN1, hN2, hwl, hnl, hw, w0, hz, hi, htl, hi3, hi4, hsr])); repeat' first | with_reducible exact True.intro | with_reducible refine And.intro ?_ ?_ | with_reducible intro _ | (((with_reducible refine vc_b ?_ ?_) <;> intro _) <;> try (simp -implicitDefEqProofs only [go_sem, rowsD_eq, rowD_eq, hS1, hS, hN1, hN2, hwl, hnl, hw, w0, hz, hi, htl, hi3, hi4, hsr])) | simp (disch := omega) only [wrapI, wrapU, shl1, shl1', shl1'', shrN, shrN', and_one] | ((with_reducible refine isEx2 ?_); refine ⟨(_, _), rfl, ?_, ?_⟩) | ((with_reducible refine isEx ?_); refine ⟨_, rfl, ?_, ?_⟩)
              all_goals (try omega)
              all_goals first | exact hnx | (simp; omega) | trace_state
        · have hse : s = c.words.length := by omega
          subst hse
          have hfull : acc = c.nearL mark i.toNat := by rw [q3, Int.toNat_natCast]; exact List.take_of_length_le (by rw [nearL_len]; omega)
          subst hfull
          have hset : (List.map rowD (c.tabR mark i)).set i.toNat (D.list false (ints (c.nearL mark i.toNat))) = List.map rowD (c.tabR mark (i - 1)) := by
            rw [show D.list false (ints (c.nearL mark i.toNat)) = rowD (false, c.nearL mark i.toNat) from rfl, ← List.map_set, tabR_next c mark hi (by omega)]
          have hSn : ¬ (c.words.length : Int) < c.words.length := by omega
          (try (simp -implicitDefEqProofs only [go_sem, rowsD_eq, hset, hwm, hSn])); repeat' first | with_reducible exact True.intro | with_reducible refine And.intro ?_ ?_ | with_reducible intro _ | (((with_reducible refine vc_b ?_ ?_) <;> intro _) <;> try (simp -implicitDefEqProofs only [go_sem, rowsD_eq, hset, hwm, hSn])) | simp (disch := omega) only [wrapI, wrapU, shl1, shl1', shl1'', shrN, shrN', and_one] | ((with_reducible refine isEx2 ?_); refine ⟨(_, _), rfl, ?_, ?_⟩) | ((with_reducible refine isEx ?_); refine ⟨_, rfl, ?_, ?_⟩)
          all_goals (try omega)
    · have : i = -1 := by omega
      subst this
      (try (simp -implicitDefEqProofs only [go_sem, rowsD_eq])); repeat' first | with_reducible exact True.intro | with_reducible refine And.intro ?_ ?_ | with_reducible intro _ | (((with_reducible refine vc_b ?_ ?_) <;> intro _) <;> try (simp -implicitDefEqProofs only [go_sem, rowsD_eq])) | simp (disch := omega) only [wrapI, wrapU, shl1, shl1', shl1'', shrN, shrN', and_one] | ((with_reducible refine isEx2 ?_); refine ⟨(_, _), rfl, ?_, ?_⟩) | ((with_reducible refine isEx ?_); refine ⟨_, rfl, ?_, ?_⟩)
end Go.Pw
