/- A part of the proof. -/
import Derived.Test.YtgeodifpcminpaaPgCodesJ
set_option linter.all false
namespace Go.Pw
set_option linter.unusedVariables false
open GCode
/-- The place of a pair of states. -/
def prI (m : Int) (p q : Int) : Nat := (p * m + q).toNat
def GCode.oB (c : GCode) (p q : Int) (differ : Bool) (a : Int) (B : List Bool) (b : Int) : List Bool :=
  if c.wrd p a = c.wrd q b ∧ (a ≠ b ∨ differ = false) then B.set (prI c.words.length (c.nxt p a) (c.nxt q b)) true else B
def GCode.oA (c : GCode) (p q : Int) (differ : Bool) (B : List Bool) (a : Int) : List Bool := foldN (c.oB p q differ a) c.W 0 B
def GCode.oP (c : GCode) (p q : Int) (differ : Bool) (B : List Bool) : List Bool := foldN (c.oA p q differ) c.W 0 B
/-- The first pairs. -/
def GCode.oS (c : GCode) (B : List Bool) (s : Int) : List Bool := c.oP s s true B
def GCode.ord0 (c : GCode) : List Bool := foldN c.oS c.words.length 0 (List.replicate (c.words.length * c.words.length) false)
def GCode.oI (c : GCode) (old : List Bool) (B : List Bool) (i : Int) : List Bool := if old[i.toNat]?.getD false then c.oP (i / c.words.length) (i % c.words.length) false B else B
def GCode.ordN (c : GCode) (old : List Bool) : List Bool := foldN (c.oI old) old.length 0 (List.replicate (c.words.length * c.words.length) false)
def GCode.ordF (c : GCode) : Nat → Int → List Bool → Int × Int
  | 0, _, _ => (0, 3)
  | k + 1, n, B => if B.all (fun b => !b) then (n, 0) else ordF c k (n + 1) (c.ordN B)
def GCode.ordR (c : GCode) : Int × Int := if !c.ok then (0, 40) else c.ordF (c.words.length * c.words.length + 1) 1 c.ord0

/-- A fold that only puts true. -/
theorem foldB {f : List Bool → Int → List Bool} {P : Int → Nat → Prop} (hl : ∀ B x, (f B x).length = B.length) :
    ∀ (n : Nat) (i : Int) (B : List Bool), (∀ B x k, i ≤ x → x < i + n → B.length ≤ B.length → k < B.length → ((f B x)[k]?.getD false = true ↔ B[k]?.getD false = true ∨ P x k)) →
      (foldN f n i B).length = B.length ∧ ∀ k, k < B.length → ((foldN f n i B)[k]?.getD false = true ↔ B[k]?.getD false = true ∨ ∃ x, i ≤ x ∧ x < i + n ∧ P x k)
  | 0, i, B, h => ⟨rfl, fun k hk => ⟨.inl, fun h => h.elim id fun ⟨x, h1, h2, _⟩ => by omega⟩⟩
  | n + 1, i, B, h => by
    rw [foldN]
    obtain ⟨h1, h2⟩ := foldB hl n (i + 1) (f B i) fun B x k hx1 hx2 hb hk => h B x k (by omega) (by omega) hb hk
    rw [hl] at h1
    refine ⟨h1, fun k hk => ?_⟩
    rw [h2 k (by rw [hl]; exact hk), h B i k (by omega) (by omega) (Nat.le_refl _) hk]
    constructor
    · rintro ((h3 | h3) | ⟨x, h3, h4, h5⟩)
      · exact .inl h3
      · exact .inr ⟨i, by omega, by omega, h3⟩
      · exact .inr ⟨x, by omega, by omega, h5⟩
    · rintro (h3 | ⟨x, h3, h4, h5⟩)
      · exact .inl (.inl h3)
      · by_cases hx : x = i
        · rw [hx] at h5; exact .inl (.inr h5)
        · exact .inr ⟨x, by omega, by omega, h5⟩
theorem setB_get {B : List Bool} {p k : Nat} (hk : k < B.length) : (B.set p true)[k]?.getD false = true ↔ B[k]?.getD false = true ∨ k = p := by
  rw [List.getElem?_set]
  by_cases h : p = k
  · subst h; simp [hk]
  · rw [if_neg h]
    constructor
    · exact .inl
    · rintro (h1 | h1)
      · exact h1
      · exact absurd h1.symm h
theorem oB_len (c : GCode) (p q : Int) (d : Bool) (a : Int) (B : List Bool) (b : Int) : (c.oB p q d a B b).length = B.length := by unfold oB; split <;> simp
theorem foldN_len {f : List Bool → Int → List Bool} (hl : ∀ B x, (f B x).length = B.length) : ∀ (n : Nat) (i : Int) (B : List Bool), (foldN f n i B).length = B.length
  | 0, i, B => rfl
  | n + 1, i, B => by rw [foldN, foldN_len hl n, hl]
theorem oA_len (c : GCode) (p q : Int) (d : Bool) (B : List Bool) (a : Int) : (c.oA p q d B a).length = B.length := foldN_len (oB_len c p q d a) _ _ _
theorem oP_len (c : GCode) (p q : Int) (d : Bool) (B : List Bool) : (c.oP p q d B).length = B.length := foldN_len (oA_len c p q d) _ _ _
theorem oS_len (c : GCode) (B : List Bool) (s : Int) : (c.oS B s).length = B.length := oP_len c s s true B
theorem oI_len (c : GCode) (old B : List Bool) (i : Int) : (c.oI old B i).length = B.length := by
  unfold oI; split
  · exact oP_len _ _ _ _ _
  · rfl
theorem ord0_len (c : GCode) : c.ord0.length = c.words.length * c.words.length := by unfold ord0; rw [foldN_len (oS_len c)]; simp
theorem ordN_len (c : GCode) (old : List Bool) : (c.ordN old).length = c.words.length * c.words.length := by unfold ordN; rw [foldN_len (oI_len c old)]; simp
/-- What a pair leads to. -/
def GCode.To (c : GCode) (d : Bool) (p q : Int) (r : Pair) : Prop := ∃ a b, c.isWord a = true ∧ c.isWord b = true ∧ c.wrd p a = c.wrd q b ∧ (a ≠ b ∨ d = false) ∧ r = (c.nxt p a, c.nxt q b)
theorem oP_get (c : GCode) (p q : Int) (d : Bool) (B : List Bool) (k : Nat) (hk : k < B.length) : (c.oP p q d B)[k]?.getD false = true ↔ B[k]?.getD false = true ∨ ∃ r, c.To d p q r ∧ k = prI c.words.length r.1 r.2 := by
  have h1 : ∀ a B k, k < B.length → ((c.oA p q d B a)[k]?.getD false = true ↔ B[k]?.getD false = true ∨ ∃ b, 0 ≤ b ∧ b < 0 + (c.W : Int) ∧ ((c.wrd p a = c.wrd q b ∧ (a ≠ b ∨ d = false)) ∧ k = prI c.words.length (c.nxt p a) (c.nxt q b))) := fun a B k hk => by
    refine (foldB (P := fun b k => (c.wrd p a = c.wrd q b ∧ (a ≠ b ∨ d = false)) ∧ k = prI c.words.length (c.nxt p a) (c.nxt q b)) (oB_len c p q d a) c.W 0 B (fun B b k _ _ _ hk => ?_)).2 k hk
    unfold oB
    split
    · rename_i h
      rw [setB_get hk]
      constructor
      · exact fun h2 => h2.imp id fun h3 => ⟨h, h3⟩
      · exact fun h2 => h2.imp id fun h3 => h3.2
    · rename_i h
      constructor
      · exact .inl
      · rintro (h2 | h2)
        · exact h2
        · exact absurd h2.1 h
  have h2 := (foldB (P := fun a k => ∃ b, 0 ≤ b ∧ b < 0 + (c.W : Int) ∧ ((c.wrd p a = c.wrd q b ∧ (a ≠ b ∨ d = false)) ∧ k = prI c.words.length (c.nxt p a) (c.nxt q b))) (oA_len c p q d) c.W 0 B (fun B a k _ _ _ hk => h1 a B k hk)).2 k hk
  unfold oP
  rw [h2]
  constructor
  · rintro (h3 | ⟨a, h3, h4, b, h5, h6, h7, h8⟩)
    · exact .inl h3
    · exact .inr ⟨_, ⟨a, b, word_iff.1 ⟨h3, h4⟩, word_iff.1 ⟨h5, h6⟩, h7.1, h7.2, rfl⟩, h8⟩
  · rintro (h3 | ⟨r, ⟨a, b, h4, h5, h6, h7, rfl⟩, h8⟩)
    · exact .inl h3
    · exact .inr ⟨a, (word_iff.2 h4).1, (word_iff.2 h4).2, b, (word_iff.2 h5).1, (word_iff.2 h5).2, ⟨h6, h7⟩, h8⟩
/-- The bits tell the same pairs as a list. -/
def GCode.Tells (c : GCode) (B : List Bool) (l : List Pair) : Prop := B.length = c.words.length * c.words.length ∧ ∀ p q, c.isState p = true → c.isState q = true → (B[prI c.words.length p q]?.getD false = true ↔ (p, q) ∈ l)
theorem prI_lt {c : GCode} {p q : Int} (hp : c.isState p = true) (hq : c.isState q = true) : prI c.words.length p q < c.words.length * c.words.length := by
  simp only [isState, inR, decide_eq_true_eq] at hp hq
  unfold prI
  have h1 : p * c.words.length ≤ (c.words.length - 1) * c.words.length := Int.mul_le_mul_of_nonneg_right (by omega) (by omega)
  have h2 : ((c.words.length : Int) - 1) * c.words.length = (c.words.length : Int) * c.words.length - c.words.length := by rw [Int.sub_mul, Int.one_mul]
  have h3 : ((c.words.length * c.words.length : Nat) : Int) = (c.words.length : Int) * c.words.length := by simp
  have h4 : 0 ≤ p * (c.words.length : Int) := Int.mul_nonneg (by omega) (by omega)
  omega
theorem prI_inj {c : GCode} {p q p' q' : Int} (hp : c.isState p = true) (hq : c.isState q = true) (hp' : c.isState p' = true) (hq' : c.isState q' = true) (h : prI c.words.length p q = prI c.words.length p' q') : p = p' ∧ q = q' := by
  simp only [isState, inR, decide_eq_true_eq] at hp hq hp' hq'
  unfold prI at h
  have h4 : 0 ≤ p * (c.words.length : Int) := Int.mul_nonneg (by omega) (by omega)
  have h5 : 0 ≤ p' * (c.words.length : Int) := Int.mul_nonneg (by omega) (by omega)
  have h6 : p * (c.words.length : Int) + q = p' * c.words.length + q' := by omega
  have h7 : (p * (c.words.length : Int) + q) / c.words.length = p := by
    rw [Int.add_comm, Int.add_mul_ediv_right _ _ (by omega), Int.ediv_eq_zero_of_lt (by omega) (by omega)]; omega
  have h8 : (p' * (c.words.length : Int) + q') / c.words.length = p' := by
    rw [Int.add_comm, Int.add_mul_ediv_right _ _ (by omega), Int.ediv_eq_zero_of_lt (by omega) (by omega)]; omega
  have h9 : p = p' := by rw [← h7, h6, h8]
  subst h9
  exact ⟨rfl, by omega⟩
theorem to_state {c : GCode} (h : c.ok = true) {d : Bool} {p q : Int} (hp : c.isState p = true) (hq : c.isState q = true) {r : Pair} (hr : c.To d p q r) : c.isState r.1 = true ∧ c.isState r.2 = true := by
  obtain ⟨a, b, h1, h2, h3, h4, rfl⟩ := hr
  exact ⟨nxt_state h hp h1, nxt_state h hq h2⟩
theorem foldN_mem {f : List Pair → Int → List Pair} {P : Int → Pair → Prop} : ∀ (n : Nat) (i : Int) (l : List Pair), (∀ l x r, i ≤ x → x < i + n → (r ∈ f l x ↔ r ∈ l ∨ P x r)) → ∀ r, r ∈ foldN f n i l ↔ r ∈ l ∨ ∃ x, i ≤ x ∧ x < i + n ∧ P x r
  | 0, i, l, h, r => ⟨.inl, fun h => h.elim id fun ⟨x, h1, h2, _⟩ => by omega⟩
  | n + 1, i, l, h, r => by
    rw [foldN, foldN_mem n (i + 1) (f l i) (fun l x r h1 h2 => h l x r (by omega) (by omega)) r, h l i r (by omega) (by omega)]
    constructor
    · rintro ((h3 | h3) | ⟨x, h3, h4, h5⟩)
      · exact .inl h3
      · exact .inr ⟨i, by omega, by omega, h3⟩
      · exact .inr ⟨x, by omega, by omega, h5⟩
    · rintro (h3 | ⟨x, h3, h4, h5⟩)
      · exact .inl (.inl h3)
      · by_cases hx : x = i
        · rw [hx] at h5; exact .inl (.inr h5)
        · exact .inr ⟨x, by omega, by omega, h5⟩
theorem lvlP_mem (c : GCode) (d : Bool) (out : List Pair) (p : Pair) (r : Pair) : r ∈ c.lvlP d out p ↔ r ∈ out ∨ c.To d p.1 p.2 r := by
  have h1 : ∀ a out r, r ∈ c.lvlA d p out a ↔ r ∈ out ∨ ∃ b, 0 ≤ b ∧ b < 0 + (c.W : Int) ∧ ((c.wrd p.1 a = c.wrd p.2 b ∧ (a ≠ b ∨ d = false)) ∧ r = (c.nxt p.1 a, c.nxt p.2 b)) := fun a out r => by
    refine foldN_mem (P := fun b r => (c.wrd p.1 a = c.wrd p.2 b ∧ (a ≠ b ∨ d = false)) ∧ r = (c.nxt p.1 a, c.nxt p.2 b)) c.W 0 out (fun l b r _ _ => ?_) r
    unfold lvl
    split
    · rename_i h
      rw [List.mem_append, List.mem_singleton]
      constructor
      · exact fun h2 => h2.imp id fun h3 => ⟨⟨h.1, h.2.1⟩, h3⟩
      · exact fun h2 => h2.imp id fun h3 => h3.2
    · rename_i h
      constructor
      · exact .inl
      · rintro (h2 | ⟨⟨h3, h4⟩, h5⟩)
        · exact h2
        · by_cases hm : (c.nxt p.1 a, c.nxt p.2 b) ∈ l
          · rw [h5]; exact hm
          · exact absurd ⟨h3, h4, hm⟩ h
  unfold lvlP
  rw [foldN_mem (P := fun a r => ∃ b, 0 ≤ b ∧ b < 0 + (c.W : Int) ∧ ((c.wrd p.1 a = c.wrd p.2 b ∧ (a ≠ b ∨ d = false)) ∧ r = (c.nxt p.1 a, c.nxt p.2 b))) c.W 0 out (fun l a r _ _ => h1 a l r) r]
  constructor
  · rintro (h3 | ⟨a, h3, h4, b, h5, h6, h7, h8⟩)
    · exact .inl h3
    · exact .inr ⟨a, b, word_iff.1 ⟨h3, h4⟩, word_iff.1 ⟨h5, h6⟩, h7.1, h7.2, h8⟩
  · rintro (h3 | ⟨a, b, h4, h5, h6, h7, h8⟩)
    · exact .inl h3
    · exact .inr ⟨a, (word_iff.2 h4).1, (word_iff.2 h4).2, b, (word_iff.2 h5).1, (word_iff.2 h5).2, ⟨h6, h7⟩, h8⟩
theorem level_mem (c : GCode) (d : Bool) (r : Pair) : ∀ (l out : List Pair), r ∈ l.foldl (c.lvlP d) out ↔ r ∈ out ∨ ∃ p, p ∈ l ∧ c.To d p.1 p.2 r
  | [], out => by simp
  | p :: l, out => by
    rw [List.foldl_cons, level_mem c d r l, lvlP_mem]
    constructor
    · rintro ((h | h) | ⟨q, h1, h2⟩)
      · exact .inl h
      · exact .inr ⟨p, by simp, h⟩
      · exact .inr ⟨q, by simp [h1], h2⟩
    · rintro (h | ⟨q, h1, h2⟩)
      · exact .inl (.inl h)
      · rcases List.mem_cons.1 h1 with e | e
        · exact .inl (.inr (by rw [← e]; exact h2))
        · exact .inr ⟨q, e, h2⟩
theorem state_iff {c : GCode} {s : Int} : (0 ≤ s ∧ s < 0 + (c.words.length : Int)) ↔ c.isState s = true := by
  simp only [isState, inR, decide_eq_true_eq]; omega
theorem ord0_tells {c : GCode} (h : c.ok = true) : c.Tells c.ord0 (c.level c.pairs0 true) := by
  refine ⟨ord0_len c, fun p q hp hq => ?_⟩
  have hk := prI_lt hp hq
  have h1 := (foldB (P := fun s k => ∃ r, c.To true s s r ∧ k = prI c.words.length r.1 r.2) (oS_len c) c.words.length 0 (List.replicate (c.words.length * c.words.length) false) (fun B s k _ _ _ hk => oP_get c s s true B k hk)).2 _ (by simpa using hk)
  unfold ord0
  rw [h1]
  unfold level
  rw [level_mem]
  have h0 : (List.replicate (c.words.length * c.words.length) false)[prI c.words.length p q]?.getD false = false := by simp [hk]
  rw [h0]
  constructor
  · rintro (h2 | ⟨s, h2, h3, r, h4, h5⟩)
    · cases h2
    · have hs := state_iff.1 ⟨h2, h3⟩
      have hr := to_state h hs hs h4
      obtain ⟨e1, e2⟩ := prI_inj hp hq hr.1 hr.2 h5
      refine .inr ⟨(s, s), ?_, ?_⟩
      · unfold pairs0; exact List.mem_map.2 ⟨s.toNat, by rw [List.mem_range]; omega, by simp; omega⟩
      · rw [e1, e2]; exact h4
  · rintro (h2 | ⟨u, h2, h3⟩)
    · cases h2
    · unfold pairs0 at h2
      obtain ⟨s, hs, rfl⟩ := List.mem_map.1 h2
      rw [List.mem_range] at hs
      exact .inr ⟨(s : Int), by omega, by omega, (p, q), h3, rfl⟩
theorem ordN_tells {c : GCode} (h : c.ok = true) {B : List Bool} {l : List Pair} (ht : c.Tells B l) (hl : ∀ p, p ∈ l → c.isState p.1 = true ∧ c.isState p.2 = true) : c.Tells (c.ordN B) (c.level l false) := by
  have hd := ok_head h
  refine ⟨ordN_len c B, fun p q hp hq => ?_⟩
  have hk := prI_lt hp hq
  have h1 := (foldB (P := fun i k => B[i.toNat]?.getD false = true ∧ ∃ r, c.To false (i / c.words.length) (i % c.words.length) r ∧ k = prI c.words.length r.1 r.2) (oI_len c B) B.length 0 (List.replicate (c.words.length * c.words.length) false) (fun B' i k _ _ _ hk => by
    unfold oI
    split
    · rename_i hb
      rw [oP_get _ _ _ _ _ _ hk]
      constructor
      · exact fun h2 => h2.imp id fun h3 => ⟨hb, h3⟩
      · exact fun h2 => h2.imp id fun h3 => h3.2
    · rename_i hb
      constructor
      · exact .inl
      · rintro (h2 | h2)
        · exact h2
        · exact absurd h2.1 hb)).2 _ (by simpa using hk)
  unfold ordN
  rw [h1]
  unfold level
  rw [level_mem]
  have h0 : (List.replicate (c.words.length * c.words.length) false)[prI c.words.length p q]?.getD false = false := by simp [hk]
  rw [h0]
  have hm : ((c.words.length * c.words.length : Nat) : Int) = (c.words.length : Int) * c.words.length := by simp
  constructor
  · rintro (h2 | ⟨i, h2, h3, h4, r, h5, h6⟩)
    · cases h2
    · rw [ht.1] at h3
      have s1 : c.isState (i / c.words.length) = true := state_iff.1 ⟨Int.ediv_nonneg h2 (by omega), by
        have := Int.ediv_lt_of_lt_mul (show (0 : Int) < c.words.length by omega) (show i < (c.words.length : Int) * c.words.length by omega); omega⟩
      have s2 : c.isState (i % c.words.length) = true := state_iff.1 ⟨Int.emod_nonneg _ (by omega), by
        have := Int.emod_lt_of_pos i (show (0 : Int) < c.words.length by omega); omega⟩
      have hi : i.toNat = prI c.words.length (i / c.words.length) (i % c.words.length) := by
        unfold prI; rw [Int.ediv_mul_add_emod]
      rw [hi] at h4
      have h7 := (ht.2 _ _ s1 s2).1 h4
      have hr := to_state h s1 s2 h5
      obtain ⟨e1, e2⟩ := prI_inj hp hq hr.1 hr.2 h6
      exact .inr ⟨_, h7, by rw [e1, e2]; exact h5⟩
  · rintro (h2 | ⟨u, h2, h3⟩)
    · cases h2
    · have hu := hl u h2
      have hlt := prI_lt hu.1 hu.2
      have hu1 := state_iff.2 hu.1
      have hu2 := state_iff.2 hu.2
      have hnn : 0 ≤ u.1 * (c.words.length : Int) := Int.mul_nonneg hu1.1 (by omega)
      have e1 : (u.1 * (c.words.length : Int) + u.2) / c.words.length = u.1 := by
        rw [Int.add_comm, Int.add_mul_ediv_right _ _ (by omega), Int.ediv_eq_zero_of_lt (by omega) (by omega)]; omega
      have e2 : (u.1 * (c.words.length : Int) + u.2) % c.words.length = u.2 := by
        rw [Int.add_comm, Int.add_mul_emod_self_right, Int.emod_eq_of_lt (by omega) (by omega)]
      refine .inr ⟨u.1 * (c.words.length : Int) + u.2, by omega, ?_, ?_, (p, q), ?_, rfl⟩
      · rw [ht.1]; unfold prI at hlt; omega
      · exact (ht.2 _ _ hu.1 hu.2).2 h2
      · rw [e1, e2]; exact h3
theorem level_states {c : GCode} (h : c.ok = true) {l : List Pair} {d : Bool} (hl : ∀ p, p ∈ l → c.isState p.1 = true ∧ c.isState p.2 = true) : ∀ p, p ∈ c.level l d → c.isState p.1 = true ∧ c.isState p.2 = true := by
  intro p hp
  unfold level at hp
  rw [level_mem] at hp
  rcases hp with hp | ⟨q, h1, h2⟩
  · cases hp
  · exact to_state h (hl q h1).1 (hl q h1).2 h2
theorem pairs0_states {c : GCode} : ∀ p, p ∈ c.pairs0 → c.isState p.1 = true ∧ c.isState p.2 = true := by
  intro p hp
  unfold pairs0 at hp
  obtain ⟨s, hs, rfl⟩ := List.mem_map.1 hp
  rw [List.mem_range] at hs
  have : c.isState (s : Int) = true := state_iff.1 ⟨by omega, by omega⟩
  exact ⟨this, this⟩
theorem tells_nil {c : GCode} (h : c.ok = true) {B : List Bool} {l : List Pair} (ht : c.Tells B l) (hl : ∀ p, p ∈ l → c.isState p.1 = true ∧ c.isState p.2 = true) : B.all (fun b => !b) = true ↔ l = [] := by
  have hd := ok_head h
  constructor
  · intro hb
    cases l with
    | nil => rfl
    | cons p l =>
      have hp := hl p (by simp)
      have h1 := (ht.2 _ _ hp.1 hp.2).2 (by simp)
      have hlt := prI_lt hp.1 hp.2
      rw [← ht.1] at hlt
      rw [List.getElem?_eq_getElem hlt, Option.getD_some] at h1
      rw [List.all_eq_true] at hb
      have := hb _ (List.getElem_mem hlt)
      rw [h1] at this; cases this
  · intro he
    subst he
    rw [List.all_eq_true]
    intro b hb
    obtain ⟨i, hi, rfl⟩ := List.getElem_of_mem hb
    cases hx : B[i] with
    | false => rfl
    | true =>
      rw [ht.1] at hi
      have hm : ((c.words.length * c.words.length : Nat) : Int) = (c.words.length : Int) * c.words.length := by simp
      have s1 : c.isState ((i : Int) / c.words.length) = true := state_iff.1 ⟨Int.ediv_nonneg (by omega) (by omega), by
        have := Int.ediv_lt_of_lt_mul (show (0 : Int) < c.words.length by omega) (show (i : Int) < (c.words.length : Int) * c.words.length by omega); omega⟩
      have s2 : c.isState ((i : Int) % c.words.length) = true := state_iff.1 ⟨Int.emod_nonneg _ (by omega), by
        have := Int.emod_lt_of_pos (i : Int) (show (0 : Int) < c.words.length by omega); omega⟩
      have hi' : prI c.words.length ((i : Int) / c.words.length) ((i : Int) % c.words.length) = i := by
        unfold prI; rw [Int.ediv_mul_add_emod]; simp
      have := (ht.2 _ _ s1 s2).1 (by rw [hi', List.getElem?_eq_getElem (by rw [ht.1]; exact hi), Option.getD_some, hx])
      cases this
theorem ordF_eq {c : GCode} (h : c.ok = true) : ∀ (k : Nat) (n : Int) (B : List Bool) (l : List Pair), 1 ≤ n → c.Tells B (c.level l (decide (n = 1))) → (∀ p, p ∈ l → c.isState p.1 = true ∧ c.isState p.2 = true) → c.ordF k n B = c.orderF k n l
  | 0, n, B, l, _, _, _ => rfl
  | k + 1, n, B, l, hn, ht, hl => by
    have hl' := level_states h (d := decide (n = 1)) hl
    rw [ordF, orderF]
    by_cases he : c.level l (decide (n = 1)) = []
    · rw [if_pos ((tells_nil h ht hl').2 he), if_pos he]
    · rw [if_neg (fun hh => he ((tells_nil h ht hl').1 hh)), if_neg he]
      refine ordF_eq h k (n + 1) _ _ (by omega) ?_ hl'
      rw [show decide (n + 1 = 1) = false from decide_eq_false (by omega)]
      exact ordN_tells h ht hl'
theorem ordR_eq (c : GCode) : c.ordR = c.order := by
  unfold ordR order
  cases h : c.ok with
  | false => rfl
  | true => exact ordF_eq h _ 1 _ _ (Int.le_refl _) (ord0_tells h) pairs0_states
end Go.Pw
