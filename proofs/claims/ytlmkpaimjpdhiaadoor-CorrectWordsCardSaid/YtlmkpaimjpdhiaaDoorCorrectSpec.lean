/- A part of the proof. -/
import Derived.Test.YtlmkpaimjpdhiaaDoorPkLaw
set_option linter.all false
namespace Go.Pw
set_option maxRecDepth 100000

abbrev F := Fin 16
def pwL : List F := [1, 2, 4, 8, 3, 6, 12, 11, 5, 10, 7, 14, 15, 13, 9]
def lgL : List Nat := [0, 0, 1, 4, 2, 8, 5, 10, 3, 14, 9, 7, 6, 13, 11, 12]
/-- Powers of 2. -/
def gp (n : Nat) : F := pwL[n % 15]?.getD 0
def lg (a : F) : Nat := lgL[a.val]?.getD 0
def fa (a b : F) : F := a ^^^ b
def fm (a b : F) : F := if a = 0 ∨ b = 0 then 0 else gp (lg a + lg b)
def fi (a : F) : F := gp (15 - lg a)

theorem fa_comm : ∀ a b : F, fa a b = fa b a := by decide +kernel
theorem fa_assoc : ∀ a b c : F, fa (fa a b) c = fa a (fa b c) := by decide +kernel
theorem fa_zero : ∀ a : F, fa a 0 = a := by decide +kernel
theorem zero_fa : ∀ a : F, fa 0 a = a := by decide +kernel
theorem fa_self : ∀ a : F, fa a a = 0 := by decide +kernel
theorem fm_comm : ∀ a b : F, fm a b = fm b a := by decide +kernel
theorem fm_assoc : ∀ a b c : F, fm (fm a b) c = fm a (fm b c) := by decide +kernel
theorem fm_fa : ∀ a b c : F, fm a (fa b c) = fa (fm a b) (fm a c) := by decide +kernel
theorem fm_one : ∀ a : F, fm a 1 = a := by decide +kernel
theorem one_fm : ∀ a : F, fm 1 a = a := by decide +kernel
theorem fm_zero : ∀ a : F, fm a 0 = 0 := by decide +kernel
theorem zero_fm : ∀ a : F, fm 0 a = 0 := by decide +kernel
theorem fm_fi : ∀ a : F, a ≠ 0 → fm a (fi a) = 1 := by decide +kernel
theorem fa_eq_zero : ∀ a b : F, fa a b = 0 → a = b := by decide +kernel
theorem fm_eq_zero : ∀ a b : F, fm a b = 0 → a = 0 ∨ b = 0 := by decide +kernel
theorem fi_ne : ∀ a : F, fi a ≠ 0 := by decide +kernel
theorem lg_lt : ∀ a : F, lg a < 15 := by decide +kernel

theorem gp_mod (n : Nat) : gp (n % 15) = gp n := by unfold gp; rw [Nat.mod_mod]
theorem gp_ne_small : ∀ n : Fin 15, gp n.val ≠ 0 := by decide +kernel
theorem gp_ne (n : Nat) : gp n ≠ 0 := by rw [← gp_mod]; exact gp_ne_small ⟨n % 15, Nat.mod_lt _ (by omega)⟩
theorem gp_add_small : ∀ n m : Fin 15, gp (n.val + m.val) = fm (gp n.val) (gp m.val) := by decide +kernel
theorem gp_add (n m : Nat) : gp (n + m) = fm (gp n) (gp m) := by
  have h := gp_add_small ⟨n % 15, Nat.mod_lt _ (by omega)⟩ ⟨m % 15, Nat.mod_lt _ (by omega)⟩
  simp only at h
  rw [gp_mod, gp_mod] at h
  rw [← h, ← gp_mod (n + m), ← gp_mod (n % 15 + m % 15), ← Nat.add_mod]
theorem gp_inj_small : ∀ n m : Fin 15, gp n.val = gp m.val → n = m := by decide +kernel
theorem gp_inj {n m : Nat} (hn : n < 15) (hm : m < 15) (h : gp n = gp m) : n = m := by
  have := gp_inj_small ⟨n, hn⟩ ⟨m, hm⟩ h
  simpa using this
theorem gp_zero : gp 0 = 1 := by decide
theorem gp_succ (n : Nat) : gp (n + 1) = fm 2 (gp n) := by
  rw [Nat.add_comm, gp_add]; rfl

/-- Symbols of the program. -/
def us (xs : List F) : List D := xs.map fun a => D.int .u8 (a.val : Int)
theorem us_nil_iff (xs : List F) : (us xs = []) = (xs = []) := by cases xs <;> simp [us]
theorem us_len (xs : List F) : (us xs).length = xs.length := by simp [us]
theorem us_drop (xs : List F) (n : Nat) : (us xs).drop n = us (xs.drop n) := by simp [us]
theorem us_take (xs : List F) (n : Nat) : (us xs).take n = us (xs.take n) := by simp [us]
theorem us_app (xs ys : List F) : us xs ++ us ys = us (xs ++ ys) := by simp [us]
theorem us_snoc (xs : List F) (y : F) : us xs ++ [.int .u8 (y.val : Int)] = us (xs ++ [y]) := by simp [us]
theorem us_snoc0 (xs : List F) : us xs ++ [.int .u8 0] = us (xs ++ [0]) := by simp [us]
theorem us_set (xs : List F) (i : Nat) (y : F) : (us xs).set i (.int .u8 (y.val : Int)) = us (xs.set i y) := by simp [us, List.map_set]
theorem us_rep0 (n : Nat) : List.replicate n (D.int .u8 0) = us (List.replicate n 0) := by simp [us]
theorem us_empty (xs : List F) : (us xs).isEmpty = xs.isEmpty := by cases xs <;> rfl
theorem us_unif (xs : List F) : Unif 1 (us xs) = True := by
  simp only [Unif, us, eq_iff_iff, iff_true]; intro x hx; simp at hx; obtain ⟨n, _, rfl⟩ := hx; rfl
theorem onSome_us {xs : List F} {i : Nat} {A : D → Prop} : onSome (us xs)[i]? A = (i < xs.length ∧ A (.int .u8 ((xs[i]?.getD 0).val : Int))) := by
  unfold us
  rw [List.getElem?_map]
  by_cases h : i < xs.length
  · simp [h, onSome]
  · have : xs[i]? = none := List.getElem?_eq_none (by omega)
    simp [this, h, onSome]
/-- Symbols as numbers. -/
def iv (xs : List F) : List Int := xs.map fun a => (a.val : Int)
theorem iv_len (xs : List F) : (iv xs).length = xs.length := by simp [iv]
theorem iv_get (xs : List F) (i : Nat) : (iv xs)[i]?.getD 0 = ((xs[i]?.getD 0).val : Int) := by
  unfold iv
  rw [List.getElem?_map]
  cases xs[i]? <;> rfl
theorem iv_snoc (xs : List F) (y : F) : iv xs ++ [(y.val : Int)] = iv (xs ++ [y]) := by simp [iv]
theorem iv_app (xs ys : List F) : iv xs ++ iv ys = iv (xs ++ ys) := by simp [iv]
theorem iv_set (xs : List F) (i : Nat) (y : F) : (iv xs).set i (y.val : Int) = iv (xs.set i y) := by simp [iv, List.map_set]
theorem iv_rep0 (n : Nat) : List.replicate n (0 : Int) = iv (List.replicate n 0) := by simp [iv]
theorem iv_empty (xs : List F) : (iv xs).isEmpty = xs.isEmpty := by cases xs <;> rfl
/-- Rows of symbols. -/
def urows (M : List (List F)) : List (Bool × List D) := M.map fun r => (false, us r)
theorem urows_len {M} : (urows M).length = M.length := by simp [urows]
theorem urows_snoc {M : List (List F)} {r : List F} : urows M ++ [(false, us r)] = urows (M ++ [r]) := by simp [urows]
theorem urows_set {M : List (List F)} {r : List F} {j : Nat} : (urows M).set j (false, us r) = urows (M.set j r) := by simp [urows, List.map_set]
theorem onSome_urows {M : List (List F)} {j : Nat} {A : Bool × List D → Prop} : onSome (urows M)[j]? A = (j < M.length ∧ A (false, us (M[j]?.getD []))) := by
  unfold urows
  rw [List.getElem?_map]
  by_cases h : j < M.length
  · simp [h, onSome]
  · have : M[j]? = none := List.getElem?_eq_none (by omega)
    simp [this, h, onSome]
theorem matL_urows {ix : List Nat} {M : List (List F)} (h : ∀ j, j ∈ ix → j < M.length) : matL ix (urows M) = (ix.map fun j => M[j]?.getD []).map fun r => .list false (us r) := by
  simp only [matL, urows, List.map_map]
  apply List.map_congr_left
  intro j hj
  have := h j hj
  simp [this]
def irows (M : List (List F)) : List (Bool × List D) := M.map fun r => (false, ints (iv r))
theorem irows_len {M} : (irows M).length = M.length := by simp [irows]
theorem irows_snoc {M : List (List F)} {r : List F} : irows M ++ [(false, ints (iv r))] = irows (M ++ [r]) := by simp [irows]
theorem irows_set {M : List (List F)} {r : List F} {j : Nat} : (irows M).set j (false, ints (iv r)) = irows (M.set j r) := by simp [irows, List.map_set]
theorem onSome_irows {M : List (List F)} {j : Nat} {A : Bool × List D → Prop} : onSome (irows M)[j]? A = (j < M.length ∧ A (false, ints (iv (M[j]?.getD [])))) := by
  unfold irows
  rw [List.getElem?_map]
  by_cases h : j < M.length
  · simp [h, onSome]
  · have : M[j]? = none := List.getElem?_eq_none (by omega)
    simp [this, h, onSome]
theorem matL_irows {ix : List Nat} {M : List (List F)} (h : ∀ j, j ∈ ix → j < M.length) : matL ix (irows M) = (ix.map fun j => M[j]?.getD []).map fun r => .list false (ints (iv r)) := by
  simp only [matL, irows, List.map_map]
  apply List.map_congr_left
  intro j hj
  have := h j hj
  simp [this]

theorem xor8 : ∀ a b : F, bitsOp .xor .u8 (a.val : Int) (b.val : Int) = ((fa a b).val : Int) := by decide +kernel
theorem xor64 : ∀ a b : F, bitsOp .xor .i64 (a.val : Int) (b.val : Int) = ((fa a b).val : Int) := by decide +kernel
theorem lgs_get : ∀ a : F, [D.int .i64 0, .int .i64 0, .int .i64 1, .int .i64 4, .int .i64 2, .int .i64 8, .int .i64 5, .int .i64 10, .int .i64 3, .int .i64 14, .int .i64 9, .int .i64 7, .int .i64 6, .int .i64 13, .int .i64 11, .int .i64 12][a.val]? = some (.int .i64 (lg a : Nat)) := by
  intro a
  have h : ∀ a : F, [0, 0, 1, 4, 2, 8, 5, 10, 3, 14, 9, 7, 6, 13, 11, 12][a.val]? = some (lg a) := by decide +kernel
  have := h a
  have e : [D.int .i64 0, .int .i64 0, .int .i64 1, .int .i64 4, .int .i64 2, .int .i64 8, .int .i64 5, .int .i64 10, .int .i64 3, .int .i64 14, .int .i64 9, .int .i64 7, .int .i64 6, .int .i64 13, .int .i64 11, .int .i64 12] = [0, 0, 1, 4, 2, 8, 5, 10, 3, 14, 9, 7, 6, 13, 11, 12].map fun n : Nat => D.int .i64 (n : Int) := rfl
  rw [e, List.getElem?_map, this]; rfl
theorem pws_get (n : Nat) : [D.int .u8 1, .int .u8 2, .int .u8 4, .int .u8 8, .int .u8 3, .int .u8 6, .int .u8 12, .int .u8 11, .int .u8 5, .int .u8 10, .int .u8 7, .int .u8 14, .int .u8 15, .int .u8 13, .int .u8 9][n % 15]? = some (.int .u8 ((gp n).val : Int)) := by
  have e : [D.int .u8 1, .int .u8 2, .int .u8 4, .int .u8 8, .int .u8 3, .int .u8 6, .int .u8 12, .int .u8 11, .int .u8 5, .int .u8 10, .int .u8 7, .int .u8 14, .int .u8 15, .int .u8 13, .int .u8 9] = pwL.map fun a : F => D.int .u8 (a.val : Int) := rfl
  have hl : n % 15 < pwL.length := Nat.mod_lt _ (by decide)
  rw [e, List.getElem?_map, List.getElem?_eq_getElem hl]
  simp [gp, hl]
theorem val_zero (a : F) : ((a.val : Int) = 0) = (a = 0) := by
  simp only [eq_iff_iff]
  constructor
  · intro h; exact Fin.ext (by have : a.val = 0 := by omega
                               simpa using this)
  · rintro rfl; rfl
theorem val_ne (a : F) : (0 : Int) ≤ (a.val : Int) ∧ (a.val : Int) ≤ 15 := by have := a.isLt; omega
attribute [go_sem] us_nil_iff us_len us_drop us_take us_app us_snoc us_snoc0 us_set us_rep0 us_empty us_unif onSome_us iv_len iv_get iv_snoc iv_app iv_set iv_empty urows_len urows_snoc urows_set onSome_urows irows_len irows_snoc irows_set onSome_irows xor8 xor64 lgs_get val_zero
end Go.Pw
