/- A part of the proof. -/
import Derived.Test.YtgeodifpcminpaaCodesN
import Derived.Test.YtgeodifpcminpaaCodesJ
set_option linter.all false
open Go Go.Pw Go.Proofs
namespace Go.Pw
set_option linter.unusedSimpArgs false
set_option linter.unusedVariables false

def GCode.apPW (c : GCode) (rec : Int → List Int → Int) (s first : Int) (mark : List Int) : Nat → Int → Int → Int
  | 0, _, least => least
  | k + 1, w, least =>
    let bits := (bitsOf c.out.toNat (c.wrd s w)).drop first.toNat
    let n := min mark.length bits.length
    c.apPW rec s first mark k (w + 1) (min least (dist (mark.take n) bits + rec (c.nxt s w) (mark.drop n)))
def GCode.apP (c : GCode) : Nat → Int → Int → List Int → Int
  | 0, _, _, _ => 0
  | n + 1, s, first, mark => if mark = [] then 0 else c.apPW (fun s' mk => c.apP n s' 0 mk) s first mark c.W 0 16

theorem apPW_congr (c : GCode) {r r' : Int → List Int → Int} {s f : Int} {mark : List Int} (h : ∀ s' k, 1 ≤ k → r s' (mark.drop k) = r' s' (mark.drop k)) (hm : mark ≠ []) (hf : f.toNat < c.out.toNat) : ∀ (n : Nat) (w least : Int), c.apPW r s f mark n w least = c.apPW r' s f mark n w least
  | 0, _, _ => rfl
  | n + 1, w, least => by
    simp only [GCode.apPW]
    have h1 := List.length_pos_iff.2 hm
    have h2 := bitsOf_length c.out.toNat (c.wrd s w)
    rw [h _ _ (by simp [h2]; omega), apPW_congr c h hm hf n]

theorem apP_fuel (c : GCode) : ∀ (n : Nat) (s f : Int) (mark : List Int), mark.length ≤ n → f.toNat < c.out.toNat → c.apP n s f mark = c.apP mark.length s f mark := by
  intro n
  induction n using Nat.strongRecOn with
  | _ n ih =>
    intro s f mark hl hf
    cases n with
    | zero => rw [show mark.length = 0 by omega]
    | succ n =>
      by_cases hm : mark = []
      · subst hm; simp [GCode.apP]
      · obtain ⟨k, hk⟩ : ∃ k, mark.length = k + 1 := ⟨mark.length - 1, by have := List.length_pos_iff.2 hm; omega⟩
        rw [hk]
        simp only [GCode.apP, hm, if_false]
        refine apPW_congr c (fun s' j hj => ?_) hm hf _ _ _
        rw [ih n (by omega) s' 0 (mark.drop j) (by simp; omega) (by simp; omega)]
        by_cases hkn : k = n
        · subst hkn; exact (ih k (by omega) s' 0 (mark.drop j) (by simp; omega) (by simp; omega)).symm
        · exact (ih k (by omega) s' 0 (mark.drop j) (by simp; omega) (by simp; omega)).symm

/-- What the table says is right. -/
def GCode.MemGood (c : GCode) (M : List Int) (m : Memo) : Prop := ∀ e, e ∈ m → 0 ≤ e.1.2 ∧ e.1.2 ≤ M.length ∧ e.2 = c.apP e.1.2.toNat e.1.1 0 (M.drop (M.length - e.1.2.toNat))

theorem apW_eq (c : GCode) {M : List Int} {rec : Int → List Int → Memo → Int × Memo} {r : Int → List Int → Int} {s f : Int} {mark : List Int}
    (h : ∀ s' k m, 1 ≤ k → c.MemGood M m → (rec s' (mark.drop k) m).1 = r s' (mark.drop k) ∧ c.MemGood M (rec s' (mark.drop k) m).2) (hm : mark ≠ []) (hf : f.toNat < c.out.toNat) :
    ∀ (n : Nat) (w least : Int) (m : Memo), c.MemGood M m → (c.apW rec s f mark n w least m).1 = c.apPW r s f mark n w least ∧ c.MemGood M (c.apW rec s f mark n w least m).2
  | 0, _, _, m, hg => ⟨rfl, hg⟩
  | n + 1, w, least, m, hg => by
    simp only [GCode.apPW, GCode.apW]
    have h1 := List.length_pos_iff.2 hm
    have h2 := bitsOf_length c.out.toNat (c.wrd s w)
    obtain ⟨h3, h4⟩ := h (c.nxt s w) (min mark.length ((bitsOf c.out.toNat (c.wrd s w)).drop f.toNat).length) m (by simp [h2]; omega) hg
    rw [h3]
    exact apW_eq c h hm hf n _ _ _ h4

theorem drop_suffix {mark M : List Int} (h1 : mark = M.drop (M.length - mark.length)) (h2 : mark.length ≤ M.length) (k : Nat) : mark.drop k = M.drop (M.length - (mark.drop k).length) := by
  rw [List.length_drop]
  obtain ⟨j, hj⟩ : ∃ j, M.length - mark.length = j := ⟨_, rfl⟩
  obtain ⟨len, hlen⟩ : ∃ len, mark.length = len := ⟨_, rfl⟩
  rw [hj] at h1
  rw [hlen] at h2 hj ⊢
  by_cases hk : k ≤ len
  · rw [h1, List.drop_drop]; congr 1; omega
  · rw [List.drop_eq_nil_of_le (by omega), List.drop_eq_nil_of_le (by omega)]

theorem apM_eq (c : GCode) {M : List Int} (ho : 1 ≤ c.out) : ∀ (n : Nat) (s f : Int) (mark : List Int) (m : Memo), mark = M.drop (M.length - mark.length) → mark.length ≤ M.length → mark.length ≤ n → 0 ≤ f → f < c.out → c.MemGood M m →
    (c.apM n s f mark m).1 = c.apP n s f mark ∧ c.MemGood M (c.apM n s f mark m).2
  | 0, s, f, mark, m, h1, h2, h3, h4, h5, hg => ⟨rfl, hg⟩
  | n + 1, s, f, mark, m, h1, h2, h3, h4, h5, hg => by
    by_cases hm : mark = []
    · subst hm; simp only [GCode.apM, GCode.apP, if_true, true_and]; exact hg
    have hw := apW_eq c (M := M) (rec := fun s' mk m' => c.apM n s' 0 mk m') (r := fun s' mk => c.apP n s' 0 mk) (s := s) (f := f) (mark := mark) (fun s' k m' hk hm' =>
      apM_eq c ho n s' 0 (mark.drop k) m' (drop_suffix h1 h2 k) (by simp; omega) (by simp; omega) (by omega) (by omega) hm') hm (by omega) c.W 0 16 m hg
    have hpp : c.apP (n + 1) s f mark = c.apPW (fun s' mk => c.apP n s' 0 mk) s f mark c.W 0 16 := by simp only [GCode.apP, hm, if_false]
    rw [hpp]
    have hA : c.apP (n + 1) s 0 mark = c.apP mark.length s 0 mark := apP_fuel c (n + 1) s 0 mark h3 (by simp; omega)
    cases hlk : lookM (s, mark.length) m with
    | some v =>
      by_cases hf : f = 0
      · subst hf
        have hv := (hg _ (lookM_mem hlk)).2.2
        simp only [Int.toNat_natCast] at hv
        rw [← h1, ← hA, hpp] at hv
        have : c.apM (n + 1) s 0 mark m = (v, m) := by simp only [GCode.apM, hm, if_false, hlk, if_true]
        rw [this]
        exact ⟨hv, hg⟩
      · have : c.apM (n + 1) s f mark m = c.apW (fun s' mk m' => c.apM n s' 0 mk m') s f mark c.W 0 16 m := by simp only [GCode.apM, hm, if_false, hlk, hf]
        rw [this]; exact hw
    | none =>
      by_cases hf : f = 0
      · subst hf
        have : c.apM (n + 1) s 0 mark m = ((c.apW (fun s' mk m' => c.apM n s' 0 mk m') s 0 mark c.W 0 16 m).1, setM (s, mark.length) (c.apW (fun s' mk m' => c.apM n s' 0 mk m') s 0 mark c.W 0 16 m).1 (c.apW (fun s' mk m' => c.apM n s' 0 mk m') s 0 mark c.W 0 16 m).2) := by simp only [GCode.apM, hm, if_false, hlk, if_true]
        rw [this]
        refine ⟨hw.1, fun e he => ?_⟩
        rcases setM_mem he with rfl | he
        · refine ⟨by simp, by simp only; omega, ?_⟩
          simp only [Int.toNat_natCast]
          rw [← h1, ← hA, hpp, hw.1]
        · exact hw.2 e he
      · have : c.apM (n + 1) s f mark m = c.apW (fun s' mk m' => c.apM n s' 0 mk m') s f mark c.W 0 16 m := by simp only [GCode.apM, hm, if_false, hlk, hf]
        rw [this]; exact hw

theorem apPW_le (c : GCode) {r : Int → List Int → Int} {s f : Int} {mark : List Int} : ∀ (n : Nat) (w least : Int), c.apPW r s f mark n w least ≤ least ∧
    ∀ w', w ≤ w' → w' < w + n → c.apPW r s f mark n w least ≤ dist (mark.take (min mark.length ((bitsOf c.out.toNat (c.wrd s w')).drop f.toNat).length)) ((bitsOf c.out.toNat (c.wrd s w')).drop f.toNat) + r (c.nxt s w') (mark.drop (min mark.length ((bitsOf c.out.toNat (c.wrd s w')).drop f.toNat).length))
  | 0, w, least => ⟨by simp [GCode.apPW], fun w' h1 h2 => by omega⟩
  | n + 1, w, least => by
    simp only [GCode.apPW]
    obtain ⟨h1, h2⟩ := apPW_le c (r := r) (s := s) (f := f) (mark := mark) n (w + 1) (min least (dist (mark.take (min mark.length ((bitsOf c.out.toNat (c.wrd s w)).drop f.toNat).length)) ((bitsOf c.out.toNat (c.wrd s w)).drop f.toNat) + r (c.nxt s w) (mark.drop (min mark.length ((bitsOf c.out.toNat (c.wrd s w)).drop f.toNat).length))))
    refine ⟨by omega, fun w' h3 h4 => ?_⟩
    by_cases hw : w' = w
    · subst hw; omega
    · exact h2 w' (by omega) (by omega)

theorem dist_split : ∀ (mk B R : List Int), dist mk (B ++ R) = dist (mk.take (min mk.length B.length)) B + dist (mk.drop (min mk.length B.length)) R
  | [], B, R => by simp [dist]
  | x :: mk, [], R => by simp [dist]
  | x :: mk, y :: B, R => by
    have := dist_split mk B R
    simp only [List.cons_append, dist, List.length_cons, Nat.add_min_add_right, List.take_succ_cons, List.drop_succ_cons]
    omega

theorem GCode.W_pos (c : GCode) : 1 ≤ c.W := Nat.one_le_two_pow

theorem apP_low (c : GCode) (h : c.ok = true) : ∀ (n : Nat) (s f : Int) (mark l : List Int), (∀ w, w ∈ l → c.isWord w = true) → 0 ≤ f → f < c.out → mark.length ≤ n → mark.length + f.toNat ≤ (c.stream s l).1.length →
    c.apP n s f mark ≤ dist mark ((c.stream s l).1.drop f.toNat)
  | 0, s, f, mark, l, hw, hf0, hf, hn, hl => by
    have : mark = [] := List.length_eq_zero_iff.1 (by omega)
    subst this; simp [GCode.apP, dist]
  | n + 1, s, f, mark, l, hw, hf0, hf, hn, hl => by
    by_cases hm : mark = []
    · subst hm; simp [GCode.apP, dist]
    have hm1 := List.length_pos_iff.2 hm
    cases l with
    | nil => simp only [GCode.stream, List.length_nil] at hl; omega
    | cons w l =>
      have hww := hw w (by simp)
      simp only [GCode.isWord, inR, decide_eq_true_eq] at hww
      have hWe := GCode.W_eq' c
      simp only [GCode.stream] at hl ⊢
      have h2 := bitsOf_length c.out.toNat (c.wrd s w)
      rw [List.drop_append_of_le_length (by omega), dist_split]
      simp only [GCode.apP, hm, if_false]
      have := (apPW_le c (r := fun s' mk => c.apP n s' 0 mk) (s := s) (f := f) (mark := mark) c.W 0 16).2 w (by omega) (by omega)
      refine Int.le_trans this (Int.add_le_add_left ?_ _)
      have hB : ((bitsOf c.out.toNat (c.wrd s w)).drop f.toNat).length = c.out.toNat - f.toNat := by simp [h2]
      rw [hB]
      have hl2 : mark.length + f.toNat ≤ c.out.toNat + (c.stream (c.nxt s w) l).1.length := by simpa [h2] using hl
      have := apP_low c h n (c.nxt s w) 0 (mark.drop (min mark.length (c.out.toNat - f.toNat))) l (fun w' hw' => hw w' (by simp [hw'])) (by omega) (by omega) (by simp; omega) (by simp; omega)
      simpa using this

theorem apP_high (c : GCode) (ho : 1 ≤ c.out) : ∀ (n : Nat) (s f : Int) (mark : List Int), 0 ≤ f → f < c.out → c.apP n s f mark ≤ mark.length
  | 0, s, f, mark, _, _ => by simp only [GCode.apP]; omega
  | n + 1, s, f, mark, hf0, hf => by
    by_cases hm : mark = []
    · subst hm; simp [GCode.apP]
    simp only [GCode.apP, hm, if_false]
    have h1 := (apPW_le c (r := fun s' mk => c.apP n s' 0 mk) (s := s) (f := f) (mark := mark) c.W 0 16).2 0 (by omega) (by have := c.W_pos; omega)
    have h2 := bitsOf_length c.out.toNat (c.wrd s 0)
    have hB : ((bitsOf c.out.toNat (c.wrd s 0)).drop f.toNat).length = c.out.toNat - f.toNat := by simp [h2]
    rw [hB] at h1
    have h3 := dist_bound (mark.take (min mark.length (c.out.toNat - f.toNat))) ((bitsOf c.out.toNat (c.wrd s 0)).drop f.toNat)
    have h4 := apP_high c ho n (c.nxt s 0) 0 (mark.drop (min mark.length (c.out.toNat - f.toNat))) (by omega) (by omega)
    simp at h3 h4
    omega

theorem apFirst_le (c : GCode) (ho : 1 ≤ c.out) {mark : List Int} (hl : mark.length ≤ 16) {s : Int} : ∀ (n : Nat) (f least : Int) (m : Memo), 0 ≤ f → f + n ≤ c.out → c.MemGood mark m →
    c.MemGood mark (c.apFirst mark s n f least m).2 ∧ (c.apFirst mark s n f least m).1 ≤ least ∧ ∀ f', f ≤ f' → f' < f + n → (c.apFirst mark s n f least m).1 ≤ c.apP 16 s f' mark
  | 0, f, least, m, _, _, hg => ⟨hg, Int.le_refl _, fun f' h1 h2 => by omega⟩
  | n + 1, f, least, m, h0, h1, hg => by
    simp only [GCode.apFirst]
    obtain ⟨k1, k2⟩ := apM_eq c (M := mark) ho 16 s f mark m (by simp) (Nat.le_refl _) hl h0 (by omega) hg
    obtain ⟨i1, i2, i3⟩ := apFirst_le c ho hl (s := s) n (f + 1) (min least (c.apM 16 s f mark m).1) (c.apM 16 s f mark m).2 (by omega) (by omega) k2
    refine ⟨i1, by omega, fun f' h2 h3 => ?_⟩
    by_cases hf : f' = f
    · subst hf; rw [← k1]; omega
    · exact i3 f' (by omega) (by omega)

theorem apStates_le (c : GCode) (ho : 1 ≤ c.out) {mark : List Int} (hl : mark.length ≤ 16) : ∀ (n : Nat) (s least : Int) (m : Memo), c.MemGood mark m →
    (c.apStates mark n s least m).1 ≤ least ∧ ∀ s', s ≤ s' → s' < s + n → ∀ f, 0 ≤ f → f < c.out → (c.apStates mark n s least m).1 ≤ c.apP 16 s' f mark
  | 0, s, least, m, hg => ⟨Int.le_refl _, fun s' h1 h2 => by omega⟩
  | n + 1, s, least, m, hg => by
    simp only [GCode.apStates]
    obtain ⟨k1, k2, k3⟩ := apFirst_le c ho hl (s := s) c.out.toNat 0 least m (by omega) (by omega) hg
    obtain ⟨i1, i2⟩ := apStates_le c ho hl n (s + 1) (c.apFirst mark s c.out.toNat 0 least m).1 (c.apFirst mark s c.out.toNat 0 least m).2 k1
    refine ⟨by omega, fun s' h1 h2 f h3 h4 => ?_⟩
    by_cases hs : s' = s
    · subst hs; have := k3 f (by omega) (by omega); omega
    · exact i2 s' (by omega) (by omega) f h3 h4

theorem apart_le (c : GCode) (h : c.ok = true) {mark : List Int} (hl : mark.length ≤ 16) {s f : Int} (hs : c.isState s = true) (h0 : 0 ≤ f) (hf : f < c.out) : c.apart mark ≤ c.apP 16 s f mark := by
  have hd := GCode.ok_head h
  simp only [GCode.isState, inR, decide_eq_true_eq] at hs
  exact (apStates_le c (by omega) hl c.words.length 0 16 [] (fun e he => by cases he)).2 s (by omega) (by omega) f h0 hf

theorem apart_high (c : GCode) (h : c.ok = true) {mark : List Int} (hl : mark.length ≤ 16) : c.apart mark ≤ mark.length := by
  have hd := GCode.ok_head h
  have h1 := apart_le c h hl (s := 0) (f := 0) (by simp [GCode.isState, inR]; omega) (by omega) (by omega)
  have h2 := apP_high c (by omega) 16 0 0 mark (by omega) (by omega)
  omega
theorem apart_pos (c : GCode) (mark : List Int) : 0 ≤ c.apart mark := (apStates_bound c mark c.words.length 0 16 [] (by omega) fun e he => by cases he).1

theorem apart_dist (c : GCode) (h : c.ok = true) {mark l : List Int} (hl : mark.length ≤ 16) {s : Int} (hs : c.isState s = true) (hw : ∀ w, w ∈ l → c.isWord w = true) (a : Nat) (ha : a + mark.length ≤ (c.stream s l).1.length) (h1 : 1 ≤ mark.length) :
    c.apart mark ≤ dist mark ((c.stream s l).1.drop a) := by
  have hd := GCode.ok_head h
  have hlen := stream_len c l s
  obtain ⟨q, hq⟩ : ∃ q, a / c.out.toNat = q := ⟨_, rfl⟩
  have hpos : 0 < c.out.toNat := by omega
  have hdm := Nat.div_add_mod a c.out.toNat
  have hml := Nat.mod_lt a hpos
  rw [hq, Nat.mul_comm] at hdm
  have hql : q ≤ l.length := by
    have e1 : q * c.out.toNat ≤ l.length * c.out.toNat := by omega
    exact Nat.le_of_mul_le_mul_right e1 hpos
  have hsp := stream_append c (l.take q) s (l.drop q)
  rw [List.take_append_drop] at hsp
  have hA := stream_len c (l.take q) s
  have hAl : (c.stream s (l.take q)).1.length = q * c.out.toNat := by rw [hA, List.length_take, Nat.min_eq_left hql]
  have hst := stream_state c h (l.take q) s hs fun w hw' => hw w (List.mem_of_mem_take hw')
  have e : (c.stream s l).1 = (c.stream s (l.take q)).1 ++ (c.stream (c.stream s (l.take q)).2 (l.drop q)).1 := by rw [hsp]
  have hdr : (c.stream s l).1.drop a = (c.stream (c.stream s (l.take q)).2 (l.drop q)).1.drop (a % c.out.toNat) := by
    rw [e, ← hdm, ← hAl, ← List.drop_drop, List.drop_left]
    congr 1
    rw [hAl]; simp [Nat.add_mod, Nat.mul_mod_left]
  have hlen2 : (c.stream s l).1.length = q * c.out.toNat + (c.stream (c.stream s (l.take q)).2 (l.drop q)).1.length := by rw [e]; simp [hAl]
  rw [hdr]
  refine Int.le_trans (apart_le c h hl hst (f := ((a % c.out.toNat : Nat) : Int)) (by omega) (by omega)) ?_
  have := apP_low c h 16 (c.stream s (l.take q)).2 ((a % c.out.toNat : Nat) : Int) mark (l.drop q) (fun w hw' => hw w (List.mem_of_mem_drop hw')) (by omega) (by omega) hl (by simp only [Int.toNat_natCast]; omega)
  rw [Int.toNat_natCast] at this
  exact this

/-! places that are found -/
theorem findF_mem {mark bits : List Int} {e : Int} : ∀ (n : Nat) (i j : Int), j ∈ findF mark bits e n i ↔ (i ≤ j ∧ j < i + n ∧ dist mark (bits.drop j.toNat) ≤ e)
  | 0, i, j => by simp [findF]; intro h1 h2; omega
  | n + 1, i, j => by
    have ih := findF_mem (mark := mark) (bits := bits) (e := e) n (i + 1) j
    simp only [findF]
    split
    · rename_i hd
      rw [List.mem_cons, ih]
      constructor
      · rintro (rfl | ⟨h1, h2, h3⟩)
        · exact ⟨by omega, by omega, hd⟩
        · exact ⟨by omega, by omega, h3⟩
      · rintro ⟨h1, h2, h3⟩
        by_cases hj : j = i
        · exact .inl hj
        · exact .inr ⟨by omega, by omega, h3⟩
    · rename_i hd
      rw [ih]
      constructor
      · rintro ⟨h1, h2, h3⟩; exact ⟨by omega, by omega, h3⟩
      · rintro ⟨h1, h2, h3⟩
        by_cases hj : j = i
        · subst hj; exact absurd h3 hd
        · exact ⟨by omega, by omega, h3⟩
theorem findF_len {mark bits : List Int} {e e' : Int} (h : e ≤ e') : ∀ (n : Nat) (i : Int), (findF mark bits e n i).length ≤ (findF mark bits e' n i).length
  | 0, i => by simp [findF]
  | n + 1, i => by
    have := findF_len (mark := mark) (bits := bits) h n (i + 1)
    simp only [findF]
    split <;> split <;> simp <;> omega

theorem dist_set : ∀ (xs ys : List Int) (i : Nat) (v : Int), dist xs ys - 1 ≤ dist xs (ys.set i v) ∧ dist xs (ys.set i v) ≤ dist xs ys + 1
  | [], ys, i, v => by simp [dist]
  | x :: xs, [], i, v => by simp [dist]
  | x :: xs, y :: ys, 0, v => by simp only [List.set_cons_zero, dist]; split <;> split <;> omega
  | x :: xs, y :: ys, i + 1, v => by
    have := dist_set xs ys i v
    simp only [List.set_cons_succ, dist]; omega
theorem dist_set_drop (xs ys : List Int) (a i : Nat) (v : Int) : dist xs (ys.drop a) - 1 ≤ dist xs ((ys.set i v).drop a) ∧ dist xs ((ys.set i v).drop a) ≤ dist xs (ys.drop a) + 1 := by
  by_cases h : a ≤ i
  · rw [List.drop_set, if_neg (by omega)]; exact dist_set xs _ _ v
  · rw [List.drop_set, if_pos (by omega)]; omega
theorem dist_stain (bits xs : List Int) (a : Nat) : ∀ (l out : List Int), dist xs (out.drop a) - l.length ≤ dist xs ((stainF bits out l).drop a) ∧ dist xs ((stainF bits out l).drop a) ≤ dist xs (out.drop a) + l.length
  | [], out => by simp [stainF]
  | s :: l, out => by
    simp only [stainF, List.length_cons]
    split
    · have h1 := dist_stain bits xs a l (out.set s.toNat (1 - bits[s.toNat]?.getD 0))
      have h2 := dist_set_drop xs out a s.toNat (1 - bits[s.toNat]?.getD 0)
      omega
    · have h1 := dist_stain bits xs a l out
      omega
theorem areBits_set {xs : List Int} (h : areBits xs = true) (i : Nat) {v : Int} (hv : inR v 0 1 = true) : areBits (xs.set i v) = true := by
  simp only [areBits, List.all_eq_true] at *
  intro x hx
  rcases List.mem_or_eq_of_mem_set hx with h1 | rfl
  · exact h x h1
  · exact hv
theorem stain_bits {bits : List Int} (hb : areBits bits = true) : ∀ (l out : List Int), areBits out = true → areBits (stainF bits out l) = true
  | [], out, h => h
  | s :: l, out, h => by
    simp only [stainF]
    split
    · rename_i hs
      refine stain_bits hb l _ (areBits_set h _ ?_)
      have := areBits_get hb (i := s.toNat) (by omega)
      simp only [inR, decide_eq_true_eq]; omega
    · exact stain_bits hb l _ h
theorem dist_self : ∀ xs : List Int, dist xs xs = 0
  | [] => rfl
  | x :: xs => by simp [dist, dist_self xs]
end Go.Pw
