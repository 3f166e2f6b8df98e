/- A part of the proof. -/
import Derived.Test.YtlmkpaimjpdhiaaDoorPgCorrectJ
set_option linter.all false
namespace Go.Pw
set_option linter.unusedSimpArgs false
set_option linter.unusedVariables false

theorem dot_set (x : F) : ∀ (w c : List F) (j : Nat), j < w.length → w.length ≤ c.length → dot (w.set j x) c = fa (dot w c) (fm (fa (w[j]?.getD 0) x) (c[j]?.getD 0))
  | a :: w, b :: c, 0, _, _ => by
    show fa (fm x b) (dot w c) = fa (fa (fm a b) (dot w c)) (fm (fa a x) b)
    rw [fa_fm, fa_comm (fm a b) (dot w c), fa_assoc, ← fa_assoc (fm a b), fa_self, zero_fa, fa_comm]
  | a :: w, b :: c, j + 1, h, hl => by
    have ih := dot_set x w c j (by simpa using h) (by simpa using hl)
    show fa (fm a b) (dot (w.set j x) c) = fa (fa (fm a b) (dot w c)) (fm (fa (w[j]?.getD 0) x) (c[j]?.getD 0))
    rw [ih, fa_assoc]
theorem adds_set (w : List F) (j : Nat) (x : F) : ∀ (js : List Nat) (xs : List F), j ∉ js → adds (w.set j x) js xs = adds w js xs
  | [], xs, _ => rfl
  | k :: js, [], _ => rfl
  | k :: js, y :: xs, h => by
    have ih := adds_set w j x js xs fun e => h (by simp [e])
    show fa ((w.set j x)[k]?.getD 0) y :: adds (w.set j x) js xs = fa (w[k]?.getD 0) y :: adds w js xs
    rw [ih, List.getElem?_set_ne fun e => h (by simp [e])]
theorem dot_withW (c : List F) : ∀ (at_ : List Nat) (xs w : List F), at_.Nodup → at_.length = xs.length → (∀ j, j ∈ at_ → j < w.length) → w.length ≤ c.length →
    dot (withW w at_ xs) c = fa (dot w c) (dot (at_.map fun j => c[j]?.getD 0) (adds w at_ xs))
  | [], xs, w, _, _, _, _ => by rw [withW_nil]; simp [dot_nil, fa_zero]
  | j :: js, x :: xs, w, hn, hl, hlt, hc => by
    rw [List.nodup_cons] at hn
    have hj := hlt j (by simp)
    have ih := dot_withW c js xs (w.set j x) hn.2 (by simpa using hl) (fun k hk => by simpa using hlt k (by simp [hk])) (by simpa using hc)
    show dot (withW (w.set j x) js xs) c = fa (dot w c) (fa (fm (c[j]?.getD 0) (fa (w[j]?.getD 0) x)) (dot (js.map fun j => c[j]?.getD 0) (adds w js xs)))
    rw [ih, dot_set x w c j hj hc, adds_set _ _ _ _ _ hn.1, fa_assoc, fm_comm (c[j]?.getD 0)]
theorem map_cof (L i : Nat) (at_ : List Nat) (h : ∀ j, j ∈ at_ → j < L) : (at_.map fun j => (cof L i)[j]?.getD 0) = at_.map fun j => fac L i j :=
  List.map_congr_left fun j hj => cof_get L i j (h j hj)
theorem synd_withW {L P : Nat} {w xs : List F} {at_ : List Nat} (hw : w.length = L) (hp : Pos L at_) (hl : at_.length = xs.length) (i : Nat) (h : i < P) :
    at0 (synd L P (withW w at_ xs)) i = fa (at0 (synd L P w) i) (dot (at_.map fun j => fac L i j) (adds w at_ xs)) := by
  show (synd L P (withW w at_ xs))[i]?.getD 0 = fa ((synd L P w)[i]?.getD 0) _
  rw [synd_get _ _ _ _ h, synd_get _ _ _ _ h, dot_withW (cof L i) at_ xs w hp.nd hl (fun j hj => by rw [hw]; exact hp.lt j hj) (by rw [cof_len]; omega), map_cof L i at_ hp.lt]
theorem sat_iff {L P : Nat} {at_ : List Nat} {s v : List F} (hv : v.length = at_.length) : Sat 1 (eqs L P at_ s) v ↔ ∀ i, i < P → fa (at0 s i) (dot (at_.map fun j => fac L i j) v) = 0 := by
  have hl := (eqs_shp L P at_ s).len
  constructor
  · intro h i hi
    have := h i (by omega)
    rwa [dot_eqs _ _ _ _ _ _ hv i hi, fm_one, fa_comm] at this
  · intro h i hi
    rw [dot_eqs _ _ _ _ _ _ hv i (by omega), fm_one, fa_comm]; exact h i (by omega)

/-- A code word. -/
def Cod (L P : Nat) (w : List F) : Prop := ∀ i, i < P → at0 (synd L P w) i = 0
theorem adds_adds (w : List F) : ∀ (at_ : List Nat) (v : List F), at_.length = v.length → adds w at_ (adds w at_ v) = v
  | [], [], _ => rfl
  | j :: js, x :: v, h => by
    have ih := adds_adds w js v (by simpa using h)
    show fa (w[j]?.getD 0) (fa (w[j]?.getD 0) x) :: adds w js (adds w js v) = x :: v
    rw [ih, ← fa_assoc, fa_self, zero_fa]
theorem hit_code {L P : Nat} {w r : List F} {mk l : List Nat} (hw : w.length = L) (hp : Pos L (mk ++ l)) (h : hit L P w mk l = some r) : Cod L P r ∧ r.length = L ∧ ∀ j, j ∉ mk ++ l → r[j]?.getD 0 = w[j]?.getD 0 := by
  unfold hit at h
  rw [Option.map_eq_some_iff] at h
  obtain ⟨v, hv, rfl⟩ := h
  obtain ⟨h1, h2⟩ := solM_spec hv
  refine ⟨fun i hi => ?_, by rw [withW_len]; exact hw, fun j hj => withW_get _ _ _ _ hj⟩
  rw [synd_withW hw hp (by rw [adds_len _ _ _ h1.symm]) i hi, adds_adds _ _ _ h1.symm]
  exact (sat_iff h1).1 h2 i hi
theorem withW_at : ∀ (at_ : List Nat) (w c : List F), at_.Nodup → c.length = w.length → (∀ j, j ∈ at_ → j < w.length) → (∀ j, j ∉ at_ → c[j]?.getD 0 = w[j]?.getD 0) → withW w at_ (at_.map fun j => c[j]?.getD 0) = c
  | [], w, c, _, hl, _, h => by
    rw [withW_nil]
    exact (ext0 hl fun j _ => h j (by simp)).symm
  | j :: js, w, c, hn, hl, hlt, h => by
    rw [List.nodup_cons] at hn
    show withW (w.set j (c[j]?.getD 0)) js (js.map fun j => c[j]?.getD 0) = c
    refine withW_at js _ c hn.2 (by simpa using hl) (fun k hk => by simpa using hlt k (by simp [hk])) fun k hk => ?_
    by_cases hkj : k = j
    · subst hkj
      have := hlt k (by simp)
      rw [List.getElem?_set_self this]; rfl
    · rw [List.getElem?_set_ne (fun e => hkj e.symm)]
      exact h k (by simp [hk, hkj])
theorem hit_of {L P : Nat} (hL : L ≤ 15) {w c : List F} {mk l : List Nat} (hw : w.length = L) (hc : c.length = L) (hp : Pos L (mk ++ l)) (hm : (mk ++ l).length ≤ P) (hcode : Cod L P c) (h : ∀ j, j ∉ mk ++ l → c[j]?.getD 0 = w[j]?.getD 0) : hit L P w mk l = some c := by
  obtain ⟨A, hA⟩ : ∃ A, mk ++ l = A := ⟨_, rfl⟩
  unfold hit
  rw [hA] at hp hm h ⊢
  obtain ⟨ys, hys⟩ : ∃ ys, (A.map fun j => c[j]?.getD 0) = ys := ⟨_, rfl⟩
  have hyl : A.length = ys.length := by rw [← hys]; simp
  have hc2 : withW w A ys = c := by
    rw [← hys]; exact withW_at A w c hp.nd (by omega) (fun j hj => by rw [hw]; exact hp.lt j hj) h
  have hal := adds_len w A ys hyl
  have hs : solM L P A (synd L P w) = some (adds w A ys) := by
    refine solM_some hL hp hm hal ((sat_iff hal).2 fun i hi => ?_)
    rw [← synd_withW hw hp hyl i hi, hc2]
    exact hcode i hi
  rw [hs, Option.map_some, adds_adds _ _ _ hyl, hc2]
/-- TWO CODE WORDS THAT DIFFER AT SO FEW POSITIONS ARE ONE. -/
theorem code_uniq {L P : Nat} (hL : L ≤ 15) {c d : List F} {at_ : List Nat} (hc : c.length = L) (hd : d.length = L) (hp : Pos L at_) (hm : at_.length ≤ P) (h1 : Cod L P c) (h2 : Cod L P d) (h : ∀ j, j ∉ at_ → c[j]?.getD 0 = d[j]?.getD 0) : c = d := by
  have e1 : hit L P d [] at_ = some c := hit_of hL hd hc (by simpa using hp) (by simpa using hm) h1 (by simpa using h)
  have e2 : hit L P d [] at_ = some d := hit_of hL hd hd (by simpa using hp) (by simpa using hm) h2 (fun _ _ => rfl)
  rw [e1] at e2
  simpa using e2

/-- All sets of so many positions from one on that are not marked. -/
def setsS (L : Nat) (mk : List Nat) : Nat → Nat → List (List Nat)
  | 0, _ => [[]]
  | m + 1, fr => ((List.range' fr (L - fr)).filter fun j => !mk.contains j).flatMap fun j => (setsS L mk m (j + 1)).map (j :: ·)
structure IsSet (L : Nat) (mk : List Nat) (fr : Nat) (l : List Nat) : Prop where
  asc : l.Pairwise (· < ·)
  ge : ∀ j, j ∈ l → fr ≤ j
  lt : ∀ j, j ∈ l → j < L
  un : ∀ j, j ∈ l → j ∉ mk
theorem sets_spec (L : Nat) (mk : List Nat) : ∀ (m fr : Nat) (l : List Nat), l ∈ setsS L mk m fr → l.length = m ∧ IsSet L mk fr l
  | 0, fr, l, h => by
    simp [setsS] at h; subst h
    exact ⟨rfl, .nil, by simp, by simp, by simp⟩
  | m + 1, fr, l, h => by
    simp only [setsS, List.mem_flatMap, List.mem_filter, List.mem_range'_1, List.mem_map] at h
    obtain ⟨j, ⟨hj, hjm⟩, l', hl', rfl⟩ := h
    obtain ⟨h1, h2⟩ := sets_spec L mk m (j + 1) l' hl'
    refine ⟨by simp [h1], List.pairwise_cons.2 ⟨fun k hk => by have := h2.ge k hk; omega, h2.asc⟩, fun k hk => ?_, fun k hk => ?_, fun k hk => ?_⟩
    · rcases List.mem_cons.1 hk with rfl | hk
      · omega
      · have := h2.ge k hk; omega
    · rcases List.mem_cons.1 hk with rfl | hk
      · omega
      · exact h2.lt k hk
    · rcases List.mem_cons.1 hk with rfl | hk
      · simpa using hjm
      · exact h2.un k hk
theorem sets_mem (L : Nat) (mk : List Nat) : ∀ (l : List Nat) (fr : Nat), IsSet L mk fr l → l ∈ setsS L mk l.length fr
  | [], fr, _ => by simp [setsS]
  | j :: l, fr, h => by
    have h1 := List.pairwise_cons.1 h.asc
    have ih := sets_mem L mk l (j + 1) ⟨h1.2, fun k hk => h1.1 k hk, fun k hk => h.lt k (by simp [hk]), fun k hk => h.un k (by simp [hk])⟩
    simp only [List.length_cons, setsS, List.mem_flatMap, List.mem_filter, List.mem_range'_1, List.mem_map]
    refine ⟨j, ⟨⟨h.ge j (by simp), ?_⟩, ?_⟩, l, ih, rfl⟩
    · have := h.ge j (by simp); have := h.lt j (by simp); omega
    · have := h.un j (by simp)
      simpa using this
/-- Marks. -/
structure Mks (L : Nat) (mk : List Nat) : Prop where
  asc : mk.Pairwise (· < ·)
  lt : ∀ j, j ∈ mk → j < L
theorem asc_nodup {l : List Nat} (h : l.Pairwise (· < ·)) : l.Nodup := h.imp fun h => Nat.ne_of_lt h
theorem set_pos {L fr : Nat} {mk l : List Nat} (hm : Mks L mk) (h : IsSet L mk fr l) : Pos L (mk ++ l) := by
  refine ⟨List.nodup_append.2 ⟨asc_nodup hm.asc, asc_nodup h.asc, fun a ha b hb e => h.un b hb (e ▸ ha)⟩, fun j hj => ?_⟩
  rcases List.mem_append.1 hj with hj | hj
  · exact hm.lt j hj
  · exact h.lt j hj

/-- THE CODE WORD WITHIN THE BOUND. -/
noncomputable def decS (L P : Nat) (w : List F) (mk : List Nat) : Option (List F) :=
  if mk.length ≤ P then (List.range ((P - mk.length) / 2 + 1)).findSome? fun e => (setsS L mk e 0).findSome? (hit L P w mk) else none
/-- At how many positions that are not marked two words differ. -/
def dif (L : Nat) (a b : List F) (mk : List Nat) : List Nat := (List.range L).filter fun j => decide (a[j]?.getD 0 ≠ b[j]?.getD 0) && !mk.contains j
theorem dif_set (L : Nat) (a b : List F) (mk : List Nat) : IsSet L mk 0 (dif L a b mk) := by
  refine ⟨List.Pairwise.filter _ List.pairwise_lt_range, fun _ _ => Nat.zero_le _, fun j hj => ?_, fun j hj => ?_⟩
  · simp [dif] at hj; exact hj.1
  · simp [dif] at hj; exact hj.2.2
theorem dif_out {L : Nat} {a b : List F} {mk : List Nat} (ha : a.length = L) (hb : b.length = L) {j : Nat} (h : j ∉ mk ++ dif L a b mk) : a[j]?.getD 0 = b[j]?.getD 0 := by
  by_cases hj : j < L
  · simp only [List.mem_append, not_or] at h
    by_cases he : a[j]?.getD 0 = b[j]?.getD 0
    · exact he
    · exact absurd (by simp [dif, hj, h.1]; exact he) h.2
  · rw [List.getElem?_eq_none (by omega), List.getElem?_eq_none (by omega)]
theorem nodup_le : ∀ (l k : List Nat), l.Nodup → (∀ j, j ∈ l → j ∈ k) → l.length ≤ k.length
  | [], k, _, _ => Nat.zero_le _
  | x :: l, k, hn, h => by
    rw [List.nodup_cons] at hn
    have hx := h x (by simp)
    have ih := nodup_le l (k.erase x) hn.2 fun j hj => (List.mem_erase_of_ne (show j ≠ x from fun e => hn.1 (by rw [← e]; exact hj))).2 (h j (by simp [hj]))
    rw [List.length_erase_of_mem hx] at ih
    have : 0 < k.length := List.length_pos_of_mem hx
    simp only [List.length_cons]
    omega
theorem dif_le {L fr : Nat} {a b : List F} {mk l : List Nat} (hs : IsSet L mk fr l) (h : ∀ j, j ∉ mk ++ l → a[j]?.getD 0 = b[j]?.getD 0) : (dif L a b mk).length ≤ l.length := by
  have hsub : ∀ j, j ∈ dif L a b mk → j ∈ l := fun j hj => by
    simp [dif] at hj
    by_cases hjl : j ∈ l
    · exact hjl
    · exact absurd (h j (by simp [hj.2.2, hjl])) hj.2.1
  exact nodup_le _ _ (asc_nodup (dif_set L a b mk).asc) hsub

theorem findSome_some {α β : Type} {f : α → Option β} {l : List α} {r : β} (h : l.findSome? f = some r) : ∃ x, x ∈ l ∧ f x = some r := by
  rw [List.findSome?_eq_some_iff] at h
  obtain ⟨l1, a, l2, rfl, h2, _⟩ := h
  exact ⟨a, by simp, h2⟩
theorem dec_some {L P : Nat} {w r : List F} {mk : List Nat} (hw : w.length = L) (hm : Mks L mk) (h : decS L P w mk = some r) :
    Cod L P r ∧ r.length = L ∧ 2 * (dif L r w mk).length + mk.length ≤ P := by
  unfold decS at h
  split at h
  · rename_i hle
    obtain ⟨e, he, h⟩ := findSome_some h
    obtain ⟨l, hl, h⟩ := findSome_some h
    obtain ⟨h1, h2⟩ := sets_spec L mk e 0 l hl
    obtain ⟨h3, h4, h5⟩ := hit_code hw (set_pos hm h2) h
    refine ⟨h3, h4, ?_⟩
    have := dif_le h2 h5
    simp at he
    omega
  · cases h
/-- WITHIN THE BOUND THERE IS AT MOST ONE, AND IT IS FOUND. -/
theorem dec_of {L P : Nat} (hL : L ≤ 15) {w c : List F} {mk : List Nat} (hw : w.length = L) (hc : c.length = L) (hm : Mks L mk) (hcode : Cod L P c) (h : 2 * (dif L c w mk).length + mk.length ≤ P) : decS L P w mk = some c := by
  have hs := dif_set L c w mk
  have hp := set_pos hm hs
  have hhit : hit L P w mk (dif L c w mk) = some c := hit_of hL hw hc hp (by simp; omega) hcode fun j hj => dif_out hc hw hj
  have hfound : ∃ r, decS L P w mk = some r := by
    unfold decS
    rw [if_pos (by omega)]
    cases hf : (List.range ((P - mk.length) / 2 + 1)).findSome? fun e => (setsS L mk e 0).findSome? (hit L P w mk) with
    | some r => exact ⟨r, rfl⟩
    | none =>
      rw [List.findSome?_eq_none_iff] at hf
      have h1 := hf (dif L c w mk).length (by simp; omega)
      rw [List.findSome?_eq_none_iff] at h1
      have h2 := h1 _ (sets_mem L mk _ 0 hs)
      rw [hhit] at h2; cases h2
  obtain ⟨r, hr⟩ := hfound
  rw [hr]
  congr 1
  obtain ⟨h1, h2, h3⟩ := dec_some hw hm hr
  have hs2 := dif_set L r w mk
  -- the positions where one of them differs
  obtain ⟨at_, hat⟩ : ∃ at_, mk ++ ((dif L r w mk) ++ (dif L c w mk).filter fun j => !(dif L r w mk).contains j) = at_ := ⟨_, rfl⟩
  refine code_uniq hL (at_ := at_) h2 hc ?_ ?_ h1 hcode fun j hj => ?_
  · rw [← hat]
    refine ⟨List.nodup_append.2 ⟨asc_nodup hm.asc, List.nodup_append.2 ⟨asc_nodup hs2.asc, (asc_nodup hs.asc).filter _, fun a ha b hb e => ?_⟩, fun a ha b hb e => ?_⟩, fun j hj => ?_⟩
    · simp at hb; exact hb.2 (e ▸ ha)
    · subst e
      rcases List.mem_append.1 hb with hb | hb
      · exact hs2.un a hb ha
      · exact hs.un a (List.mem_filter.1 hb).1 ha
    · rcases List.mem_append.1 hj with hj | hj
      · exact hm.lt j hj
      · rcases List.mem_append.1 hj with hj | hj
        · exact hs2.lt j hj
        · exact hs.lt j (List.mem_filter.1 hj).1
  · rw [← hat]
    have := List.length_filter_le (fun j => !(dif L r w mk).contains j) (dif L c w mk)
    simp only [List.length_append]
    omega
  · rw [← hat] at hj
    simp only [List.mem_append, not_or, List.mem_filter] at hj
    obtain ⟨j1, j2, j3⟩ := hj
    have j4 : j ∉ dif L c w mk := fun hh => j3 ⟨hh, by simpa using j2⟩
    exact (dif_out h2 hw (fun e => (List.mem_append.1 e).elim j1 j2)).trans (dif_out hc hw (fun e => (List.mem_append.1 e).elim j1 j4)).symm
end Go.Pw
