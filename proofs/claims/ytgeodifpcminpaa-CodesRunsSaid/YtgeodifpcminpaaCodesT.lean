/- A part of the proof. -/
import Derived.Test.YtgeodifpcminpaaCodesS
import Derived.Test.YtgeodifpcminpaaCodesO
set_option linter.all false
open Go Go.Pw Go.Proofs
namespace Go.Pw
set_option linter.unusedSimpArgs false
set_option linter.unusedVariables false

def GCode.ownB (c : GCode) (bits : List Int) (p : Int) : List Int := (bits.drop (p * c.out).toNat).take c.out.toNat
def GCode.decPW (c : GCode) (rec : Int → Option (List Int)) (s : Int) (own : List Int) : Nat → Int → Option (List Int)
  | 0, _ => none
  | n + 1, w =>
    if own = bitsOf c.out.toNat (c.wrd s w) then
      match rec (c.nxt s w) with
      | some l => some (w :: l)
      | none => c.decPW rec s own n (w + 1)
    else c.decPW rec s own n (w + 1)
def GCode.decP (c : GCode) (bits : List Int) : Nat → Int → Int → Option (List Int)
  | 0, _, _ => some []
  | k + 1, s, p => c.decPW (fun s' => c.decP bits k s' (p + 1)) s (c.ownB bits p) c.W 0

/-- What the table says is right. -/
def GCode.TabOk (c : GCode) (bits : List Int) (K : Int) (m : Memo) : Prop := ∀ e, e ∈ m → c.decP bits (K - e.1.2).toNat e.1.1 e.1.2 = none

theorem decW_eq (c : GCode) {bits : List Int} {K : Int} {rec : Int → Memo → Option (List Int) × Memo} {r : Int → Option (List Int)} {s : Int} {own : List Int}
    (h : ∀ s' m, c.TabOk bits K m → (rec s' m).1 = r s' ∧ c.TabOk bits K (rec s' m).2) : ∀ (n : Nat) (w : Int) (m : Memo), c.TabOk bits K m →
    (c.decW rec s own n w m).1 = c.decPW r s own n w ∧ c.TabOk bits K (c.decW rec s own n w m).2
  | 0, w, m, hm => ⟨rfl, hm⟩
  | n + 1, w, m, hm => by
    simp only [GCode.decW, GCode.decPW]
    obtain ⟨h1, h2⟩ := h (c.nxt s w) m hm
    split
    · rw [h1]
      cases hr : r (c.nxt s w) with
      | some l => exact ⟨rfl, h2⟩
      | none => exact decW_eq c h n (w + 1) _ h2
    · exact decW_eq c h n (w + 1) m hm

theorem decM_eq (c : GCode) (bits : List Int) (K : Int) : ∀ (k : Nat) (s p : Int) (m : Memo), p + k = K → c.TabOk bits K m → (c.decM bits k s p m).1 = c.decP bits k s p ∧ c.TabOk bits K (c.decM bits k s p m).2
  | 0, s, p, m, _, hm => ⟨rfl, hm⟩
  | k + 1, s, p, m, hK, hm => by
    simp only [GCode.decM]
    have hp : c.decP bits (k + 1) s p = c.decPW (fun s' => c.decP bits k s' (p + 1)) s (c.ownB bits p) c.W 0 := rfl
    by_cases hl : lookM (s, p) m = none
    · rw [if_pos hl]
      obtain ⟨h1, h2⟩ := decW_eq c (bits := bits) (K := K) (rec := fun s' m' => c.decM bits k s' (p + 1) m') (r := fun s' => c.decP bits k s' (p + 1)) (s := s) (own := c.ownB bits p) (fun s' m' hm' => decM_eq c bits K k s' (p + 1) m' (by omega) hm') c.W 0 m hm
      have hown : (bits.drop (p * c.out).toNat).take c.out.toNat = c.ownB bits p := rfl
      rw [hown, hp, ← h1]
      generalize c.decW (fun s' m' => c.decM bits k s' (p + 1) m') s (c.ownB bits p) c.W 0 m = X at *
      obtain ⟨o, m'⟩ := X
      cases o with
      | some l => exact ⟨rfl, h2⟩
      | none =>
        refine ⟨rfl, fun e he => ?_⟩
        rcases List.mem_append.1 he with he | he
        · exact h2 e he
        · simp at he; subst he
          simp only
          rw [show (K - p).toNat = k + 1 by omega, hp, ← h1]
    · rw [if_neg hl]
      cases hv : lookM (s, p) m with
      | none => exact absurd hv hl
      | some v =>
        have := hm _ (lookM_mem hv)
        simp only at this
        rw [show (K - p).toNat = k + 1 by omega] at this
        exact ⟨this.symm, hm⟩

theorem decPW_some (c : GCode) {r : Int → Option (List Int)} {s : Int} {own : List Int} : ∀ (n : Nat) (w : Int) (l : List Int), 0 ≤ w → c.decPW r s own n w = some l → ∃ w' l', l = w' :: l' ∧ w ≤ w' ∧ w' < w + n ∧ own = bitsOf c.out.toNat (c.wrd s w') ∧ r (c.nxt s w') = some l'
  | 0, w, l, _, h => by simp [GCode.decPW] at h
  | n + 1, w, l, h0, h => by
    simp only [GCode.decPW] at h
    split at h
    · rename_i ho
      split at h
      · rename_i l' hl'
        simp at h; subst h
        exact ⟨w, l', rfl, by omega, by omega, ho, hl'⟩
      · obtain ⟨w', l', h1, h2, h3, h4⟩ := decPW_some c n (w + 1) l (by omega) h
        exact ⟨w', l', h1, by omega, by omega, h4⟩
    · obtain ⟨w', l', h1, h2, h3, h4⟩ := decPW_some c n (w + 1) l (by omega) h
      exact ⟨w', l', h1, by omega, by omega, h4⟩
theorem decPW_none (c : GCode) {r : Int → Option (List Int)} {s : Int} {own : List Int} : ∀ (n : Nat) (w : Int), c.decPW r s own n w = none → ∀ w', w ≤ w' → w' < w + n → own = bitsOf c.out.toNat (c.wrd s w') → r (c.nxt s w') = none
  | 0, w, h, w', h1, h2, _ => by omega
  | n + 1, w, h, w', h1, h2, ho => by
    simp only [GCode.decPW] at h
    by_cases hw : w' = w
    · subst hw
      rw [if_pos ho] at h
      split at h
      · cases h
      · rename_i hn; exact hn
    · split at h
      · split at h
        · cases h
        · exact decPW_none c n (w + 1) h w' (by omega) (by omega) ho
      · exact decPW_none c n (w + 1) h w' (by omega) (by omega) ho

/-- What is found has the bits. -/
theorem decP_some (c : GCode) (h : c.ok = true) (bits : List Int) : ∀ (k : Nat) (s p : Int) (l : List Int), 0 ≤ p → (p + k) * c.out = bits.length → c.decP bits k s p = some l → l.length = k ∧ (∀ w, w ∈ l → c.isWord w = true) ∧ (c.stream s l).1 = bits.drop (p * c.out).toNat
  | 0, s, p, l, h0, hp, hl => by
    simp [GCode.decP] at hl; subst hl
    refine ⟨rfl, fun w hw => (by cases hw), ?_⟩
    simp only [GCode.stream]
    rw [List.drop_eq_nil_of_le]
    simp at hp; omega
  | k + 1, s, p, l, h0, hp, hl => by
    have hd := GCode.ok_head h
    have hWe := GCode.W_eq' c
    obtain ⟨w, l', rfl, h1, h2, h3, h4⟩ := decPW_some c c.W 0 l (by omega) hl
    have hp2 : (p + 1 + (k : Int)) * c.out = bits.length := by rw [← hp]; congr 1; omega
    obtain ⟨i1, i2, i3⟩ := decP_some c h bits k (c.nxt s w) (p + 1) l' (by omega) hp2 h4
    refine ⟨by simp [i1], fun w' hw' => ?_, ?_⟩
    · rcases List.mem_cons.1 hw' with rfl | hw'
      · simp only [GCode.isWord, inR, decide_eq_true_eq]; omega
      · exact i2 w' hw'
    · simp only [GCode.stream]
      rw [i3, ← h3, GCode.ownB]
      have hq : 0 ≤ p * c.out := Int.mul_nonneg h0 (by omega)
      have e : ((p + 1) * c.out).toNat = (p * c.out).toNat + c.out.toNat := by rw [Int.add_mul]; omega
      rw [e, ← List.drop_drop, List.take_append_drop]
/-- What has the bits is not passed over. -/
theorem decP_none (c : GCode) (h : c.ok = true) (bits : List Int) : ∀ (k : Nat) (s p : Int) (l : List Int), 0 ≤ p → l.length = k → (∀ w, w ∈ l → c.isWord w = true) → (c.stream s l).1 = bits.drop (p * c.out).toNat → c.decP bits k s p ≠ none
  | 0, s, p, l, _, _, _, _ => by simp [GCode.decP]
  | k + 1, s, p, [], _, hl, _, _ => by cases hl
  | k + 1, s, p, w :: l, h0, hl, hw, hs => by
    intro hn
    have hd := GCode.ok_head h
    have hWe := GCode.W_eq' c
    have hww := hw w (by simp)
    simp only [GCode.isWord, inR, decide_eq_true_eq] at hww
    have hbl := bitsOf_length c.out.toNat (c.wrd s w)
    simp only [GCode.stream] at hs
    have ho : c.ownB bits p = bitsOf c.out.toNat (c.wrd s w) := by
      rw [GCode.ownB, ← hs, List.take_left' hbl]
    have hr := decPW_none c c.W 0 hn w (by omega) (by omega) ho
    have hq : 0 ≤ p * c.out := Int.mul_nonneg h0 (by omega)
    have e : ((p + 1) * c.out).toNat = (p * c.out).toNat + c.out.toNat := by rw [Int.add_mul]; omega
    refine decP_none c h bits k (c.nxt s w) (p + 1) l (by omega) (by simpa using hl) (fun w' hw' => hw w' (by simp [hw'])) ?_ hr
    rw [e, ← List.drop_drop, ← hs, List.drop_left' hbl]

/-- The stream of data is read. -/
theorem decM_stream (c : GCode) (h : c.ok = true) {s : Int} {data : List Int} (hw : ∀ w, w ∈ data → c.isWord w = true) :
    ∃ l, (c.decM (c.stream s data).1 data.length s 0 []).1 = some l ∧ l.length = data.length ∧ (∀ w, w ∈ l → c.isWord w = true) ∧ (c.stream s l).1 = (c.stream s data).1 := by
  have hd := GCode.ok_head h
  have he := (decM_eq c (c.stream s data).1 data.length data.length s 0 [] (by omega) fun e he => by cases he).1
  have hn := decP_none c h (c.stream s data).1 data.length s 0 data (by omega) rfl hw (by simp)
  cases hp : c.decP (c.stream s data).1 data.length s 0 with
  | none => exact absurd hp hn
  | some l =>
    have hl : ((0 : Int) + (data.length : Nat)) * c.out = ((c.stream s data).1.length : Nat) := by
      rw [stream_len, Int.natCast_mul, Int.zero_add]; congr 1; omega
    obtain ⟨h1, h2, h3⟩ := decP_some c h (c.stream s data).1 data.length s 0 l (by omega) hl hp
    exact ⟨l, by rw [he, hp], h1, h2, by simpa using h3⟩
end Go.Pw
