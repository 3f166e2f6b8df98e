/- A part of the proof. -/
import Derived.Test.YtlmkpaimjpdhiaaDoorCorrectDec
set_option linter.all false
namespace Go.Pw
set_option linter.unusedSimpArgs false
set_option linter.unusedVariables false

theorem cof_succ (n i : Nat) : cof (n + 1) i = gp (i * n) :: cof n i := by
  unfold cof
  rw [List.range_succ_eq_map, List.map_cons, List.map_map]
  congr 1
  apply List.map_congr_left
  intro j hj
  show fac (n + 1) i (j + 1) = fac n i j
  unfold fac
  rw [show n + 1 - 1 - (j + 1) = n - 1 - j by omega]
/-- A word as a polynomial, at a power. -/
def evp (i : Nat) (w : List F) : F := dot w (cof w.length i)
theorem ev_nil (i : Nat) : evp i [] = 0 := rfl
theorem ev_cons (i : Nat) (y : F) (ys : List F) : evp i (y :: ys) = fa (fm y (gp (i * ys.length))) (evp i ys) := by
  show dot (y :: ys) (cof (ys.length + 1) i) = _
  rw [cof_succ]; rfl
theorem ev_set (i : Nat) (l : List F) (o : Nat) (y : F) (h : o < l.length) : evp i (l.set o y) = fa (evp i l) (fm (fa (l[o]?.getD 0) y) (gp (i * (l.length - 1 - o)))) := by
  unfold evp
  rw [List.length_set, dot_set y l _ o h (by rw [cof_len]; omega), cof_get _ _ _ h]; rfl
def addAt : List F → Nat → F → List F → List F
  | l, o, b, [] => l
  | l, o, b, y :: ys => addAt (l.set o (fa (l[o]?.getD 0) (fm b y))) (o + 1) b ys
theorem addAt_len : ∀ (g l : List F) (o : Nat) (b : F), (addAt l o b g).length = l.length
  | [], l, o, b => rfl
  | y :: ys, l, o, b => by show (addAt _ (o + 1) b ys).length = _; rw [addAt_len ys]; simp
theorem addAt_snoc (y : F) : ∀ (g l : List F) (o : Nat) (b : F), addAt l o b (g ++ [y]) = (addAt l o b g).set (o + g.length) (fa ((addAt l o b g)[o + g.length]?.getD 0) (fm b y))
  | [], l, o, b => rfl
  | z :: zs, l, o, b => by
    show addAt _ (o + 1) b (zs ++ [y]) = _
    rw [addAt_snoc y zs]
    show _ = (addAt (l.set o (fa (l[o]?.getD 0) (fm b z))) (o + 1) b zs).set (o + (zs.length + 1)) (fa ((addAt (l.set o (fa (l[o]?.getD 0) (fm b z))) (o + 1) b zs)[o + (zs.length + 1)]?.getD 0) (fm b y))
    rw [show o + 1 + zs.length = o + (zs.length + 1) by omega]
theorem addAt_lt (j : Nat) : ∀ (g l : List F) (o : Nat) (b : F), j < o → (addAt l o b g)[j]?.getD 0 = l[j]?.getD 0
  | [], l, o, b, _ => rfl
  | y :: ys, l, o, b, h => by
    show (addAt _ (o + 1) b ys)[j]?.getD 0 = _
    rw [addAt_lt j ys _ (o + 1) b (by omega), List.getElem?_set_ne (by omega)]
theorem ev_addAt (i : Nat) : ∀ (g l : List F) (o : Nat) (b : F), o + g.length ≤ l.length → evp i (addAt l o b g) = fa (evp i l) (fm (fm b (evp i g)) (gp (i * (l.length - o - g.length))))
  | [], l, o, b, h => by show evp i l = _; rw [ev_nil, fm_zero, zero_fm, fa_zero]
  | y :: ys, l, o, b, h => by
    simp only [List.length_cons] at h
    show evp i (addAt _ (o + 1) b ys) = _
    rw [ev_addAt i ys _ (o + 1) b (by rw [List.length_set]; omega), ev_set i l o _ (by omega), ev_cons, List.length_set, List.length_cons]
    rw [← fa_assoc (l[o]?.getD 0), fa_self, zero_fa, fm_fa, fa_assoc]
    congr 1
    have e1 : l.length - 1 - o = ys.length + (l.length - o - (ys.length + 1)) := by omega
    have e2 : l.length - (o + 1) - ys.length = l.length - o - (ys.length + 1) := by omega
    rw [e1, e2, Nat.mul_add, gp_add, fm_comm (fa _ _), fm_fa, fm_comm (gp (i * (l.length - o - (ys.length + 1)))), fm_comm (gp (i * (l.length - o - (ys.length + 1))))]
    simp only [fm_assoc]
theorem ev_snoc0 (i : Nat) : ∀ a : List F, evp i (a ++ [0]) = fm (evp i a) (gp i)
  | [] => by
    show evp i [0] = _
    rw [ev_cons, zero_fm, ev_nil, zero_fm, fa_zero]
  | y :: ys => by
    show evp i (y :: (ys ++ [0])) = _
    rw [ev_cons, ev_cons, ev_snoc0 i ys, List.length_append, List.length_singleton, Nat.mul_add, Nat.mul_one, gp_add, fm_comm (fa _ _), fm_fa, fm_comm (gp i) (evp i ys), fm_comm (gp i) (fm y _), fm_assoc]
theorem ev_rep0 (i : Nat) (a : List F) (h : evp i a = 0) : ∀ n, evp i (a ++ List.replicate n 0) = 0
  | 0 => by simpa using h
  | n + 1 => by rw [List.replicate_succ', ← List.append_assoc, ev_snoc0, ev_rep0 i a h n, zero_fm]
/-- The divisor. -/
def divS : Nat → List F
  | 0 => [1]
  | i + 1 => addAt (divS i ++ [0]) 1 (gp i) (divS i)
theorem divS_len : ∀ i, (divS i).length = i + 1
  | 0 => rfl
  | i + 1 => by show (addAt (divS i ++ [0]) 1 (gp i) (divS i)).length = _; rw [addAt_len]; simp [divS_len i]
theorem divS_0 : ∀ i, (divS i)[0]?.getD 0 = 1
  | 0 => rfl
  | i + 1 => by
    show (addAt (divS i ++ [0]) 1 (gp i) (divS i))[0]?.getD 0 = 1
    rw [addAt_lt 0 _ _ 1 _ (by omega), List.getElem?_append_left (by rw [divS_len]; omega), divS_0 i]
theorem ev_div (r : Nat) : ∀ i, r < i → evp r (divS i) = 0
  | 0, h => by omega
  | i + 1, h => by
    show evp r (addAt (divS i ++ [0]) 1 (gp i) (divS i)) = 0
    rw [ev_addAt r _ _ _ _ (by simp; omega), ev_snoc0, List.length_append, divS_len]
    rw [show i + 1 + ([(0 : F)]).length - 1 - (i + 1) = 0 by simp, Nat.mul_zero, gp_zero, fm_one, fm_comm (gp i)]
    by_cases hr : r < i
    · rw [ev_div r i hr, zero_fm, zero_fm, fa_zero]
    · have : r = i := by omega
      subst this
      rw [fa_self]
/-- What is left. -/
def restS (g d : List F) (P : Nat) : Nat → List F
  | 0 => d ++ List.replicate P 0
  | i + 1 => addAt (restS g d P i) i ((restS g d P i)[i]?.getD 0) g
theorem restS_len (g d : List F) (P : Nat) : ∀ i, (restS g d P i).length = d.length + P
  | 0 => by simp [restS]
  | i + 1 => by show (addAt _ _ _ _).length = _; rw [addAt_len, restS_len g d P i]
theorem restS_0 (g d : List F) (P : Nat) (hg : g[0]?.getD 0 = 1) : ∀ i, i ≤ d.length → ∀ j, j < i → (restS g d P i)[j]?.getD 0 = 0
  | 0, _, j, hj => by omega
  | i + 1, hi, j, hj => by
    show (addAt (restS g d P i) i ((restS g d P i)[i]?.getD 0) g)[j]?.getD 0 = 0
    cases g with
    | nil => exact absurd hg (by decide)
    | cons y ys =>
      have hy : y = 1 := by simpa using hg
      subst hy
      show (addAt ((restS (1 :: ys) d P i).set i _) (i + 1) _ ys)[j]?.getD 0 = 0
      rw [addAt_lt j _ _ _ _ (by omega)]
      by_cases h : j = i
      · subst h
        rw [fm_one, fa_self, List.getElem?_set_self (by rw [restS_len]; omega)]; rfl
      · rw [List.getElem?_set_ne (fun e => h e.symm)]
        exact restS_0 (1 :: ys) d P rfl i (by omega) j (by omega)
theorem ev_rest (r : Nat) (g d : List F) (P : Nat) (hg : evp r g = 0) (hl : g.length = P + 1) : ∀ i, i ≤ d.length → evp r (restS g d P i) = evp r (d ++ List.replicate P 0)
  | 0, _ => rfl
  | i + 1, hi => by
    show evp r (addAt _ _ _ _) = _
    rw [ev_addAt r _ _ _ _ (by rw [restS_len]; omega), hg, fm_zero, zero_fm, fa_zero]
    exact ev_rest r g d P hg hl i (by omega)
/-- The code word of data. -/
def encS (P : Nat) (d : List F) : List F := d ++ (restS (divS P) d P d.length).drop d.length
theorem encS_len (P : Nat) (d : List F) : (encS P d).length = d.length + P := by
  unfold encS; rw [List.length_append, List.length_drop, restS_len]; omega
theorem encS_get (P : Nat) (d : List F) (j : Nat) (h : j < d.length) : (encS P d)[j]?.getD 0 = d[j]?.getD 0 := by
  unfold encS; rw [List.getElem?_append_left h]
theorem cod_ev (L P : Nat) (w : List F) (hw : w.length = L) : Cod L P w ↔ ∀ i, i < P → evp i w = 0 := by
  subst hw
  constructor
  · intro h i hi
    have := h i hi
    rwa [show at0 (synd w.length P w) i = dot w (cof w.length i) from synd_get _ _ _ _ hi] at this
  · intro h i hi
    rw [show at0 (synd w.length P w) i = dot w (cof w.length i) from synd_get _ _ _ _ hi]
    exact h i hi
theorem encS_cod (P : Nat) (d : List F) : Cod (d.length + P) P (encS P d) := by
  rw [cod_ev _ _ _ (encS_len P d)]
  intro i hi
  obtain ⟨R, hR⟩ : ∃ R, restS (divS P) d P d.length = R := ⟨_, rfl⟩
  have hl : R.length = d.length + P := by rw [← hR]; exact restS_len _ _ _ _
  have h0 : ∀ j, j < d.length → R[j]?.getD 0 = 0 := by rw [← hR]; exact restS_0 _ _ _ (divS_0 P) _ (Nat.le_refl _)
  have he : evp i R = evp i (d ++ List.replicate P 0) := by rw [← hR]; exact ev_rest i _ _ _ (ev_div i P hi) (divS_len P) _ (Nat.le_refl _)
  have hlen : (d ++ List.replicate P (0 : F)).length = R.length := by simp [hl]
  have hE : encS P d = addR (d ++ List.replicate P 0) R 1 := by
    apply ext0
    · rw [encS_len, addR_len _ _ _ hlen]; simp
    · intro j hj
      rw [encS_len] at hj
      show (encS P d)[j]?.getD 0 = (addR (d ++ List.replicate P 0) R 1)[j]?.getD 0
      rw [show (addR (d ++ List.replicate P 0) R 1)[j]?.getD 0 = fa ((d ++ List.replicate P (0 : F))[j]?.getD 0) (fm (R[j]?.getD 0) 1) from at0_addR _ _ _ _ hlen]
      unfold encS
      rw [hR, fm_one]
      by_cases h : j < d.length
      · rw [List.getElem?_append_left h, List.getElem?_append_left h, h0 j h, fa_zero]
      · rw [List.getElem?_append_right (by omega), List.getElem?_append_right (by omega), List.getElem?_drop, List.getElem?_replicate, if_pos (by omega), show d.length + (j - d.length) = j by omega]
        exact (zero_fa _).symm
  rw [hE]
  unfold evp
  have h2 : (addR (d ++ List.replicate P 0) R 1).length = (d ++ List.replicate P (0 : F)).length := by rw [addR_len _ _ _ hlen]
  rw [h2, dot_addR _ _ _ _ hlen]
  have h3 : evp i (d ++ List.replicate P (0 : F)) = dot (d ++ List.replicate P (0 : F)) (cof (d ++ List.replicate P (0 : F)).length i) := rfl
  have h4 : evp i R = dot R (cof (d ++ List.replicate P (0 : F)).length i) := by unfold evp; rw [hlen]
  rw [← h3, ← h4, he, one_fm, fa_self]
end Go.Pw
