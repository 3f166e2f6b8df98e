/- A part of the proof. -/
import Derived.Test.YtgeodifpcminpaaCodesT
import Derived.Test.YtgeodifpcminpaaCodesE
set_option linter.all false
open Go Go.Pw Go.Proofs
namespace Go.Pw
set_option linter.unusedSimpArgs false
set_option linter.unusedVariables false

theorem bits_inj0 : ∀ n : Fin 6, ∀ x y : Fin 32, (x.val < 2 ^ n.val ∧ y.val < 2 ^ n.val ∧ bitsOf n.val x.val = bitsOf n.val y.val) → x = y := by decide +kernel
theorem bits_inj {n : Nat} (hn : n ≤ 5) {x y : Int} (hx : 0 ≤ x ∧ x ≤ 2 ^ n - 1) (hy : 0 ≤ y ∧ y ≤ 2 ^ n - 1) (h : bitsOf n x = bitsOf n y) : x = y := by
  have h32 : (2 : Int) ^ n ≤ 32 := by
    have : n = 0 ∨ n = 1 ∨ n = 2 ∨ n = 3 ∨ n = 4 ∨ n = 5 := by omega
    rcases this with h | h | h | h | h | h <;> rw [h] <;> decide
  have hc : ((2 ^ n : Nat) : Int) = 2 ^ n := by simp
  have e1 : ((x.toNat : Nat) : Int) = x := by omega
  have e2 : ((y.toNat : Nat) : Int) = y := by omega
  have := bits_inj0 ⟨n, by omega⟩ ⟨x.toNat, by omega⟩ ⟨y.toNat, by omega⟩ ⟨by simp only; omega, by simp only; omega, by simp only [e1, e2]; exact h⟩
  have := congrArg Fin.val this
  simp only at this; omega

theorem foldN_mem {f : List Pair → Int → List Pair} {z : Pair} (hm : ∀ out x, z ∈ out → z ∈ f out x) : ∀ (n : Nat) (i : Int) (out : List Pair), (z ∈ out ∨ ∃ j, i ≤ j ∧ j < i + n ∧ ∀ out, z ∈ f out j) → z ∈ foldN f n i out
  | 0, i, out, h => by
    rcases h with h | ⟨j, h1, h2, _⟩
    · exact h
    · omega
  | n + 1, i, out, h => by
    simp only [foldN]
    refine foldN_mem hm n (i + 1) _ ?_
    rcases h with h | ⟨j, h1, h2, h3⟩
    · exact .inl (hm _ _ h)
    · by_cases hj : j = i
      · subst hj; exact .inl (h3 _)
      · exact .inr ⟨j, by omega, by omega, h3⟩
theorem foldl_mem {f : List Pair → Pair → List Pair} {z p : Pair} (hm : ∀ out x, z ∈ out → z ∈ f out x) (hp : ∀ out, z ∈ f out p) : ∀ (l out : List Pair), (z ∈ out ∨ p ∈ l) → z ∈ l.foldl f out
  | [], out, h => by
    rcases h with h | h
    · exact h
    · cases h
  | x :: l, out, h => by
    simp only [List.foldl_cons]
    refine foldl_mem hm hp l _ ?_
    rcases h with h | h
    · exact .inl (hm _ _ h)
    · rcases List.mem_cons.1 h with rfl | h
      · exact .inl (hp _)
      · exact .inr h
theorem lvl_mono (c : GCode) {d : Bool} {p : Pair} {a : Int} {out : List Pair} {b : Int} {z : Pair} (h : z ∈ out) : z ∈ c.lvl d p a out b := by
  unfold GCode.lvl; split
  · exact List.mem_append_left _ h
  · exact h
theorem lvlA_mono (c : GCode) {d : Bool} {p : Pair} {out : List Pair} {a : Int} {z : Pair} (h : z ∈ out) : z ∈ c.lvlA d p out a :=
  foldN_mem (fun _ _ h => lvl_mono c h) _ _ _ (.inl h)
theorem lvlP_mono (c : GCode) {d : Bool} {p : Pair} {out : List Pair} {z : Pair} (h : z ∈ out) : z ∈ c.lvlP d out p :=
  foldN_mem (fun _ _ h => lvlA_mono c h) _ _ _ (.inl h)
theorem level_mem (c : GCode) {d : Bool} {l : List Pair} {p : Pair} {a b : Int} (hp : p ∈ l) (ha : 0 ≤ a ∧ a < c.W) (hb : 0 ≤ b ∧ b < c.W) (he : c.wrd p.1 a = c.wrd p.2 b) (hd : a ≠ b ∨ d = false) : (c.nxt p.1 a, c.nxt p.2 b) ∈ c.level l d := by
  refine foldl_mem (p := p) (fun _ _ h => lvlP_mono c h) (fun out => ?_) l [] (.inr hp)
  refine foldN_mem (fun _ _ h => lvlA_mono c h) _ _ _ (.inr ⟨a, by omega, by omega, fun out => ?_⟩)
  refine foldN_mem (fun _ _ h => lvl_mono c h) _ _ _ (.inr ⟨b, by omega, by omega, fun out => ?_⟩)
  unfold GCode.lvl
  by_cases hin : (c.nxt p.1 a, c.nxt p.2 b) ∈ out
  · rw [if_neg fun h => h.2.2 hin]; exact hin
  · rw [if_pos ⟨he, hd, hin⟩]; simp

/-- The levels. -/
def GCode.lev (c : GCode) : Nat → List Pair
  | 0 => c.pairs0
  | j + 1 => c.level (c.lev j) (decide ((j : Int) + 1 = 1))

theorem orderF_lev (c : GCode) : ∀ (n : Nat) (k : Nat) (now : List Pair) (r : Int), now = c.lev k → c.orderF n ((k : Int) + 1) now = (r, 0) → 1 ≤ r ∧ c.lev r.toNat = []
  | 0, k, now, r, hn, h => by simp [GCode.orderF] at h
  | n + 1, k, now, r, hn, h => by
    simp only [GCode.orderF] at h
    have hl : c.level now (decide ((k : Int) + 1 = 1)) = c.lev (k + 1) := by rw [hn]; rfl
    rw [hl] at h
    split at h
    · rename_i he
      simp at h; subst h
      exact ⟨by omega, by rw [show ((k : Int) + 1).toNat = k + 1 by omega]; exact he⟩
    · exact orderF_lev c n (k + 1) _ r rfl (by simpa using h)
theorem order_bound (c : GCode) (h : c.ok = true) : 0 ≤ c.order.1 ∧ c.order.1 ≤ 18 := by
  have : ∀ (n : Nat) (k : Int) (now : List Pair), 0 ≤ k → 0 ≤ (c.orderF n k now).1 ∧ (c.orderF n k now).1 ≤ k + n := by
    intro n
    induction n with
    | zero => intro k now hk; simp only [GCode.orderF]; omega
    | succ n ih =>
      intro k now hk; simp only [GCode.orderF]; split
      · simp only; omega
      · have := ih (k + 1) (c.level now (decide (k = 1))) (by omega); omega
  have hd := GCode.ok_head h
  have hN : c.words.length * c.words.length ≤ 16 := by
    have : c.words.length = 1 ∨ c.words.length = 2 ∨ c.words.length = 3 ∨ c.words.length = 4 := by omega
    rcases this with h | h | h | h <;> rw [h] <;> omega
  have ho : c.order = c.orderF (c.words.length * c.words.length + 1) 1 c.pairs0 := by simp [GCode.order, h]
  have := this (c.words.length * c.words.length + 1) 1 c.pairs0 (by omega)
  rw [ho]; omega
theorem order_err (c : GCode) (h : c.ok = true) : c.order.2 = 0 ∨ c.order.2 = 3 := by
  have : ∀ (n : Nat) (k : Int) (now : List Pair), (c.orderF n k now).2 = 0 ∨ (c.orderF n k now).2 = 3 := by
    intro n
    induction n with
    | zero => intro k now; exact .inr rfl
    | succ n ih => intro k now; simp only [GCode.orderF]; split
                   · exact .inl rfl
                   · exact ih _ _
  simp only [GCode.order, h]; exact this _ _ _
theorem order_lev (c : GCode) (h : c.ok = true) (he : c.order.2 = 0) : 1 ≤ c.order.1 ∧ c.lev c.order.1.toNat = [] := by
  have ho : c.order = c.orderF (c.words.length * c.words.length + 1) 1 c.pairs0 := by simp [GCode.order, h]
  refine orderF_lev c (c.words.length * c.words.length + 1) 0 c.pairs0 c.order.1 rfl ?_
  rw [show ((0 : Nat) : Int) + 1 = 1 by omega, ← ho, ← he]

theorem GCode.wrd_range (c : GCode) (h : c.ok = true) {s w : Int} (hs : c.isState s = true) (hw : c.isWord w = true) : 0 ≤ c.wrd s w ∧ c.wrd s w ≤ 2 ^ c.out.toNat - 1 := by
  have hd := GCode.ok_head h
  have hWe := GCode.W_eq' c
  simp only [GCode.isState, GCode.isWord, inR, decide_eq_true_eq] at hs hw
  obtain ⟨h1, h2⟩ := GCode.ok_words h s.toNat (by omega)
  refine h2 _ (getD_mem0 ?_)
  rw [h1]
  have : ((2 ^ c.bits.toNat : Nat) : Int) = 2 ^ c.bits.toNat := by simp
  omega

theorem chain (c : GCode) (h : c.ok = true) : ∀ (l d : List Int) (j : Nat) (s1 s2 : Int), (s1, s2) ∈ c.lev j → c.isState s1 = true → c.isState s2 = true → (j = 0 → l[0]? ≠ d[0]? ∨ l = []) → l.length = d.length → (c.stream s1 l).1 = (c.stream s2 d).1 →
    (∀ w, w ∈ l → c.isWord w = true) → (∀ w, w ∈ d → c.isWord w = true) → ∀ i, i ≤ l.length → c.lev (j + i) ≠ []
  | l, d, j, s1, s2, hp, hs1, hs2, hh, hl, hst, hwl, hwd, 0, _ => fun e => by simp at e; rw [e] at hp; cases hp
  | [], _, _, _, _, _, _, _, _, _, _, _, _, i + 1, hi => by simp at hi
  | a :: l, [], _, _, _, _, _, _, _, hl, _, _, _, i + 1, hi => by simp at hl
  | a :: l, b :: d, j, s1, s2, hp, hs1, hs2, hh, hl, hst, hwl, hwd, i + 1, hi => by
    have hd := GCode.ok_head h
    have hWe := GCode.W_eq' c
    have ha := hwl a (by simp)
    have hb := hwd b (by simp)
    simp only [GCode.stream] at hst
    have h1 := bitsOf_length c.out.toNat (c.wrd s1 a)
    have h2 := bitsOf_length c.out.toNat (c.wrd s2 b)
    have hst2 := List.append_inj hst (by rw [h1, h2])
    have he := bits_inj (by omega) (GCode.wrd_range c h hs1 ha) (GCode.wrd_range c h hs2 hb) hst2.1
    have hd' : a ≠ b ∨ decide ((j : Int) + 1 = 1) = false := by
      by_cases hj : j = 0
      · rcases hh hj with h | h
        · exact .inl fun e => h (by simp [e])
        · cases h
      · exact .inr (by simp; omega)
    have haw := ha
    have hbw := hb
    simp only [GCode.isWord, inR, decide_eq_true_eq] at haw hbw
    have hm := level_mem c hp (a := a) (b := b) (d := decide ((j : Int) + 1 = 1)) (by omega) (by omega) he hd'
    have := chain c h l d (j + 1) (c.nxt s1 a) (c.nxt s2 b) hm (GCode.nxt_state h hs1 ha) (GCode.nxt_state h hs2 hb) (fun hj => by omega) (by simpa using hl) hst2.2 (fun w hw => hwl w (by simp [hw])) (fun w hw => hwd w (by simp [hw])) i (by simpa using hi)
    rwa [show j + (i + 1) = j + 1 + i by omega]

/-- Data with the same stream begin with the same words, but for the last ones. -/
theorem read_same (c : GCode) (h : c.ok = true) (he : c.order.2 = 0) : ∀ (l d : List Int) (s : Int), c.isState s = true → l.length = d.length → (c.stream s l).1 = (c.stream s d).1 → (∀ w, w ∈ l → c.isWord w = true) → (∀ w, w ∈ d → c.isWord w = true) →
    ∀ i : Nat, (i : Int) < l.length - (c.order.1 - 1) → l[i]?.getD 0 = d[i]?.getD 0
  | [], d, s, _, _, _, _, _, i, hi => by
    have := (order_lev c h he).1
    simp at hi; omega
  | a :: l, [], s, _, hl, _, _, _, i, hi => by simp at hl
  | a :: l, b :: d, s, hs, hl, hst, hwl, hwd, i, hi => by
    obtain ⟨ho1, ho2⟩ := order_lev c h he
    have hab : a = b := by
      refine Classical.byContradiction fun hne => ?_
      have hp : (s, s) ∈ c.lev 0 := by
        simp only [GCode.isState, inR, decide_eq_true_eq] at hs
        simp only [GCode.lev, GCode.pairs0, List.mem_map, List.mem_range]
        exact ⟨s.toNat, by omega, by rw [Prod.mk.injEq]; omega⟩
      have := chain c h (a :: l) (b :: d) 0 s s hp hs hs (fun _ => .inl (by simpa using hne)) hl hst hwl hwd c.order.1.toNat (by simp only [List.length_cons] at hi ⊢; omega)
      rw [Nat.zero_add] at this
      exact this ho2
    subst hab
    cases i with
    | zero => rfl
    | succ i =>
      simp only [GCode.stream] at hst
      have hst2 := List.append_inj hst rfl
      have := read_same c h he l d (c.nxt s a) (GCode.nxt_state h hs (hwl a (by simp))) (by simpa using hl) hst2.2 (fun w hw => hwl w (by simp [hw])) (fun w hw => hwd w (by simp [hw])) i (by simp only [List.length_cons] at hi; omega)
      simpa using this
end Go.Pw
