/- A part of the proof. -/
import Derived.Test.YtlmkpaimjpdhiaaDoorCorrectSpec
set_option linter.all false
namespace Go.Pw
set_option linter.unusedSimpArgs false
set_option linter.unusedVariables false

def dot : List F → List F → F
  | a :: as, b :: bs => fa (fm a b) (dot as bs)
  | _, _ => 0
def addR (r o : List F) (b : F) : List F := List.zipWith (fun x y => fa x (fm y b)) r o
def sclR (r : List F) (b : F) : List F := r.map fun x => fm x b
def at0 (r : List F) (j : Nat) : F := r[j]?.getD 0
def row0 (M : List (List F)) (i : Nat) : List F := M[i]?.getD []
def ent (M : List (List F)) (i j : Nat) : F := at0 (row0 M i) j

theorem fa_left (a b c : F) : fa a (fa b c) = fa b (fa a c) := by rw [← fa_assoc, fa_comm a b, fa_assoc]
theorem fa4 (a b c d : F) : fa (fa a b) (fa c d) = fa (fa a c) (fa b d) := by rw [fa_assoc, fa_assoc, fa_left b c d]
theorem fa_fm (a b c : F) : fm (fa a b) c = fa (fm a c) (fm b c) := by rw [fm_comm, fm_fa, fm_comm c a, fm_comm c b]
theorem fm_left (a b c : F) : fm a (fm b c) = fm b (fm a c) := by rw [← fm_assoc, fm_comm a b, fm_assoc]

theorem dot_nil (w : List F) : dot [] w = 0 := rfl
theorem dot_nil2 (w : List F) : dot w [] = 0 := by cases w <;> rfl
theorem dot_cons (a b : F) (as bs : List F) : dot (a :: as) (b :: bs) = fa (fm a b) (dot as bs) := rfl
theorem dot_addR (b : F) : ∀ (r o w : List F), r.length = o.length → dot (addR r o b) w = fa (dot r w) (fm b (dot o w))
  | [], [], w, _ => by simp [addR, dot_nil, fm_zero, fa_zero]
  | x :: r, y :: o, [], _ => by simp [dot_nil2, fm_zero, fa_zero]
  | x :: r, y :: o, c :: w, h => by
    have ih := dot_addR b r o w (by simpa using h)
    simp only [addR, List.zipWith_cons_cons, dot_cons] at ih ⊢
    rw [ih, fa_fm, fm_fa, fm_assoc, fm_left, fa4]
theorem dot_sclR (b : F) : ∀ (r w : List F), dot (sclR r b) w = fm b (dot r w)
  | [], w => by simp [sclR, dot_nil, fm_zero]
  | x :: r, [] => by simp [dot_nil2, fm_zero]
  | x :: r, c :: w => by
    have ih := dot_sclR b r w
    simp only [sclR, List.map_cons, dot_cons] at ih ⊢
    rw [ih, fm_fa, fm_assoc, fm_left]
theorem dot_snoc (x y : F) : ∀ (r w : List F), r.length = w.length → dot (r ++ [x]) (w ++ [y]) = fa (dot r w) (fm x y)
  | [], [], _ => by simp [dot, fa_zero, zero_fa]
  | a :: r, b :: w, h => by
    have ih := dot_snoc x y r w (by simpa using h)
    simp only [List.cons_append, dot_cons]
    rw [ih, fa_assoc]
/-- All products but one are 0. -/
theorem dot_one : ∀ (r w : List F) (i : Nat), i < r.length → r.length = w.length → (∀ j, j ≠ i → fm (at0 r j) (at0 w j) = 0) → dot r w = fm (at0 r i) (at0 w i)
  | a :: r, b :: w, 0, _, hl, h => by
    have hz : dot r w = 0 := by
      have key : ∀ (r w : List F), (∀ j, fm (at0 r j) (at0 w j) = 0) → dot r w = 0 := by
        intro r
        induction r with
        | nil => intro w _; rfl
        | cons a r ih =>
          intro w h
          cases w with
          | nil => rfl
          | cons b w =>
            rw [dot_cons, ih w fun j => h (j + 1), show fm a b = 0 from h 0]; rfl
      exact key r w fun j => h (j + 1) (by omega)
    rw [dot_cons, hz, fa_zero]; rfl
  | a :: r, b :: w, i + 1, hi, hl, h => by
    have ih := dot_one r w i (by simpa using hi) (by simpa using hl) fun j hj => h (j + 1) (by omega)
    rw [dot_cons, ih, show fm a b = 0 from h 0 (by omega), zero_fa]; rfl
theorem dot_two : ∀ (r w : List F) (i k : Nat), i < k → k < r.length → r.length = w.length → (∀ j, j ≠ i → j ≠ k → fm (at0 r j) (at0 w j) = 0) → dot r w = fa (fm (at0 r i) (at0 w i)) (fm (at0 r k) (at0 w k))
  | a :: r, b :: w, 0, k + 1, _, hk, hl, h => by
    rw [dot_cons, dot_one r w k (by simpa using hk) (by simpa using hl) fun j hj => h (j + 1) (by omega) (by omega)]; rfl
  | a :: r, b :: w, i + 1, k + 1, hik, hk, hl, h => by
    have ih := dot_two r w i k (by omega) (by simpa using hk) (by simpa using hl) fun j hj hj2 => h (j + 1) (by omega) (by omega)
    rw [dot_cons, ih, show fm a b = 0 from h 0 (by omega) (by omega), zero_fa]; rfl

/-- v, with c behind it, is annulled by all rows. -/
def Sat (c : F) (M : List (List F)) (v : List F) : Prop := ∀ i, i < M.length → dot (row0 M i) (v ++ [c]) = 0
structure Shp (M : List (List F)) (n m : Nat) : Prop where
  len : M.length = n
  row : ∀ i, i < n → (row0 M i).length = m

/-- Row k is taken from all others. -/
def redAll (f : F → F → F) (M : List (List F)) (k : Nat) : List (List F) := (List.range M.length).map fun i => if i = k then row0 M k else addR (row0 M i) (row0 M k) (f (ent M i k) (ent M k k))
def swp (M : List (List F)) (k p : Nat) : List (List F) := (M.set k (row0 M p)).set p (row0 M k)

theorem row0_range {α : Type} (n i : Nat) (g : Nat → List F) (h : i < n) : row0 ((List.range n).map g) i = g i := by simp [row0, h]
theorem row0_set (M : List (List F)) (k i : Nat) (r : List F) (hk : k < M.length) : row0 (M.set k r) i = if i = k then r else row0 M i := by
  unfold row0
  by_cases h : i = k
  · subst h; simp [hk]
  · rw [List.getElem?_set_ne (fun e => h e.symm), if_neg h]
theorem row0_redAll (f : F → F → F) (M : List (List F)) (k i : Nat) (h : i < M.length) : row0 (redAll f M k) i = if i = k then row0 M k else addR (row0 M i) (row0 M k) (f (ent M i k) (ent M k k)) :=
  row0_range (α := F) M.length i _ h
theorem row0_swp (M : List (List F)) (k p i : Nat) (hk : k < M.length) (hp : p < M.length) : row0 (swp M k p) i = if i = p then row0 M k else if i = k then row0 M p else row0 M i := by
  unfold swp
  rw [row0_set _ _ _ _ (by simpa using hp), row0_set _ _ _ _ hk]
theorem addR_len (r o : List F) (b : F) (h : r.length = o.length) : (addR r o b).length = r.length := by simp [addR, h]
theorem sclR_len (r : List F) (b : F) : (sclR r b).length = r.length := by simp [sclR]

theorem Shp.swp {M : List (List F)} {n m k p : Nat} (h : Shp M n m) (hk : k < n) (hp : p < n) : Shp (swp M k p) n m := by
  have hl := h.len
  refine ⟨by simp [Go.Pw.swp, hl], fun i hi => ?_⟩
  rw [row0_swp _ _ _ _ (by omega) (by omega)]
  split
  · exact h.row k hk
  · split
    · exact h.row p hp
    · exact h.row i hi
theorem Shp.scl {M : List (List F)} {n m k : Nat} (h : Shp M n m) (hk : k < n) (b : F) : Shp (M.set k (sclR (row0 M k) b)) n m := by
  have hl := h.len
  refine ⟨by simp [hl], fun i hi => ?_⟩
  rw [row0_set _ _ _ _ (by omega)]
  split
  · rw [sclR_len]; exact h.row k hk
  · exact h.row i hi
theorem Shp.red {M : List (List F)} {n m k : Nat} (f : F → F → F) (h : Shp M n m) (hk : k < n) : Shp (redAll f M k) n m := by
  have hl := h.len
  refine ⟨by simp [redAll, hl], fun i hi => ?_⟩
  rw [row0_redAll _ _ _ _ (by omega)]
  split
  · exact h.row k hk
  · rw [addR_len]
    · exact h.row i hi
    · rw [h.row i hi, h.row k hk]

theorem Sat_swp {M : List (List F)} {n m k p : Nat} (h : Shp M n m) (hk : k < n) (hp : p < n) (c : F) (v : List F) : Sat c (swp M k p) v ↔ Sat c M v := by
  have hl := h.len
  have hl2 := (h.swp hk hp).len
  constructor
  · intro hs i hi
    by_cases h1 : i = k
    · subst h1
      have := hs p (by omega)
      rwa [row0_swp _ _ _ _ (by omega) (by omega), if_pos rfl] at this
    · by_cases h2 : i = p
      · subst h2
        have := hs k (by omega)
        rwa [row0_swp _ _ _ _ (by omega) (by omega), if_neg (fun e => h1 e.symm), if_pos rfl] at this
      · have := hs i (by omega)
        rwa [row0_swp _ _ _ _ (by omega) (by omega), if_neg h2, if_neg h1] at this
  · intro hs i hi
    rw [row0_swp _ _ _ _ (by omega) (by omega)]
    split
    · exact hs k (by omega)
    · split
      · exact hs p (by omega)
      · exact hs i (by omega)
theorem Sat_scl {M : List (List F)} {n m k : Nat} (h : Shp M n m) (hk : k < n) {b : F} (hb : b ≠ 0) (c : F) (v : List F) : Sat c (M.set k (sclR (row0 M k) b)) v ↔ Sat c M v := by
  have hl := h.len
  constructor
  · intro hs i hi
    have := hs i (by simpa using hi)
    rw [row0_set _ _ _ _ (by omega)] at this
    split at this
    · rename_i e; subst e
      rw [dot_sclR] at this
      exact (fm_eq_zero _ _ this).resolve_left hb
    · exact this
  · intro hs i hi
    rw [row0_set _ _ _ _ (by omega)]
    split
    · rename_i e; subst e; rw [dot_sclR, hs i (by omega), fm_zero]
    · exact hs i (by simpa using hi)
theorem Sat_red {M : List (List F)} {n m k : Nat} (f : F → F → F) (h : Shp M n m) (hk : k < n) (c : F) (v : List F) : Sat c (redAll f M k) v ↔ Sat c M v := by
  have hl := h.len
  have hl2 := (h.red f hk).len
  constructor
  · intro hs i hi
    have h1 := hs k (by omega)
    rw [row0_redAll _ _ _ _ (by omega), if_pos rfl] at h1
    by_cases hik : i = k
    · subst hik; exact h1
    · have h2 := hs i (by omega)
      rw [row0_redAll _ _ _ _ (by omega), if_neg hik, dot_addR _ _ _ _ (by rw [h.row i (by omega), h.row k hk]), h1, fm_zero, fa_zero] at h2
      exact h2
  · intro hs i hi
    rw [row0_redAll _ _ _ _ (by omega)]
    split
    · exact hs k (by omega)
    · rw [dot_addR _ _ _ _ (by rw [h.row i (by omega), h.row k hk]), hs i (by omega), hs k (by omega), fm_zero, fa_zero]

/-- The first k columns are done. -/
structure Red (M : List (List F)) (k : Nat) : Prop where
  off : ∀ i j, i < M.length → j < k → i ≠ j → ent M i j = 0
  dia : ∀ j, j < k → ent M j j ≠ 0

theorem at0_addR (r o : List F) (b : F) (j : Nat) (h : r.length = o.length) : at0 (addR r o b) j = fa (at0 r j) (fm (at0 o j) b) := by
  unfold at0 addR
  rw [List.getElem?_zipWith]
  by_cases hj : j < r.length
  · rw [List.getElem?_eq_getElem hj, List.getElem?_eq_getElem (by omega)]; rfl
  · rw [List.getElem?_eq_none (by omega), List.getElem?_eq_none (l := o) (by omega)]
    show (0 : F) = fa 0 (fm 0 b)
    rw [zero_fm]; rfl
theorem at0_sclR (r : List F) (b : F) (j : Nat) : at0 (sclR r b) j = fm (at0 r j) b := by
  unfold at0 sclR
  rw [List.getElem?_map]
  cases r[j]? with
  | none => exact (zero_fm b).symm
  | some x => rfl
theorem Red.swp {M : List (List F)} {n m k p : Nat} (hs : Shp M n m) (h : Red M k) (hk : k < n) (hkp : k ≤ p) (hp : p < n) : Red (swp M k p) k := by
  have hl := hs.len
  have hl2 := (hs.swp hk hp).len
  refine ⟨fun i j hi hj hij => ?_, fun j hj => ?_⟩
  · unfold ent
    rw [row0_swp _ _ _ _ (by omega) (by omega)]
    split
    · exact h.off k j (by omega) hj (by omega)
    · split
      · exact h.off p j (by omega) hj (by omega)
      · exact h.off i j (by omega) hj hij
  · unfold ent
    rw [row0_swp _ _ _ _ (by omega) (by omega), if_neg (by omega), if_neg (by omega)]
    exact h.dia j hj
theorem ent_swp {M : List (List F)} {n m k p : Nat} (hs : Shp M n m) (hk : k < n) (hp : p < n) (j : Nat) : ent (swp M k p) k j = ent M p j := by
  have hl := hs.len
  unfold ent
  rw [row0_swp _ _ _ _ (by omega) (by omega)]
  split
  · rename_i e; subst e; rfl
  · rw [if_pos rfl]
theorem Red.scl {M : List (List F)} {n m k : Nat} (hs : Shp M n m) (h : Red M k) (hk : k < n) (b : F) : Red (M.set k (sclR (row0 M k) b)) k := by
  have hl := hs.len
  refine ⟨fun i j hi hj hij => ?_, fun j hj => ?_⟩
  · unfold ent
    rw [row0_set _ _ _ _ (by omega)]
    split
    · rw [at0_sclR, show at0 (row0 M k) j = 0 from h.off k j (by omega) hj (by omega), zero_fm]
    · exact h.off i j (by simpa using hi) hj hij
  · unfold ent
    rw [row0_set _ _ _ _ (by omega), if_neg (by omega)]
    exact h.dia j hj
theorem ent_scl {M : List (List F)} {n m k : Nat} (hs : Shp M n m) (hk : k < n) (b : F) (i j : Nat) : ent (M.set k (sclR (row0 M k) b)) i j = if i = k then fm (ent M k j) b else ent M i j := by
  have hl := hs.len
  unfold ent
  rw [row0_set _ _ _ _ (by omega)]
  split
  · rw [at0_sclR]
  · rfl
theorem Red.red {M : List (List F)} {n m k : Nat} (f : F → F → F) (hs : Shp M n m) (h : Red M k) (hk : k < n) (hd : ent M k k ≠ 0) (hf : ∀ a, fm (ent M k k) (f a (ent M k k)) = a) : Red (redAll f M k) (k + 1) := by
  have hl := hs.len
  have hl2 := (hs.red f hk).len
  have e : ∀ i j, i < n → ent (redAll f M k) i j = if i = k then ent M k j else fa (ent M i j) (fm (ent M k j) (f (ent M i k) (ent M k k))) := fun i j hi => by
    show at0 (row0 (redAll f M k) i) j = _
    rw [row0_redAll _ _ _ _ (by omega)]
    split
    · rfl
    · rw [at0_addR _ _ _ _ (by rw [hs.row i hi, hs.row k hk])]; rfl
  refine ⟨fun i j hi hj hij => ?_, fun j hj => ?_⟩
  · rw [e i j (by omega)]
    rcases Nat.lt_succ_iff_lt_or_eq.1 hj with hj | rfl
    · split
      · exact h.off k j (by omega) hj (by omega)
      · rw [h.off i j (by omega) hj hij, h.off k j (by omega) hj (by omega), zero_fm]; rfl
    · rw [if_neg hij, hf, fa_self]
  · rcases Nat.lt_succ_iff_lt_or_eq.1 hj with hj | rfl
    · rw [e j j (by omega), if_neg (by omega), h.off k j (by omega) hj (by omega), zero_fm, fa_zero]; exact h.dia j hj
    · rw [e j j (by omega), if_pos rfl]; exact hd
theorem ent_red_dia {M : List (List F)} {n m k : Nat} (f : F → F → F) (hs : Shp M n m) (h : Red M k) (hk : k < n) (j : Nat) (hj : j ≤ k) : ent (redAll f M k) j j = ent M j j := by
  have hl := hs.len
  show at0 (row0 (redAll f M k) j) j = _
  rw [row0_redAll _ _ _ _ (by omega)]
  split
  · rename_i e; subst e; rfl
  · rename_i hne
    rw [at0_addR _ _ _ _ (by rw [hs.row j (by omega), hs.row k hk]), show at0 (row0 M k) j = 0 from h.off k j (by omega) (by omega) (by omega), zero_fm, fa_zero]; rfl

theorem at0_app_lt (v : List F) (c : F) (j : Nat) (h : j < v.length) : at0 (v ++ [c]) j = at0 v j := by unfold at0; rw [List.getElem?_append_left h]
theorem at0_app_eq (v : List F) (c : F) : at0 (v ++ [c]) v.length = c := by unfold at0; simp
theorem at0_ge (v : List F) (j : Nat) (h : v.length ≤ j) : at0 v j = 0 := by unfold at0; rw [List.getElem?_eq_none h]; rfl

/-- Where all columns are done. -/
theorem sat_end {M : List (List F)} {n m : Nat} (hs : Shp M n (m + 1)) (h : Red M m) (hm : m ≤ n) (v : List F) (hv : v.length = m) :
    Sat 1 M v ↔ (∀ i, i < m → fm (ent M i i) (at0 v i) = ent M i m) ∧ ∀ i, m ≤ i → i < n → ent M i m = 0 := by
  have hl := hs.len
  have hw : (v ++ [1]).length = m + 1 := by simp [hv]
  have low : ∀ i, i < m → dot (row0 M i) (v ++ [1]) = fa (fm (ent M i i) (at0 v i)) (ent M i m) := fun i hi => by
    rw [dot_two (row0 M i) (v ++ [1]) i m hi (by rw [hs.row i (by omega)]; omega) (by rw [hs.row i (by omega), hw]) fun j h1 h2 => ?_]
    · rw [at0_app_lt _ _ _ (by omega), show at0 (v ++ [1]) m = 1 by rw [← hv]; exact at0_app_eq v 1, fm_one]; rfl
    · by_cases hj : j < m
      · rw [show at0 (row0 M i) j = 0 from h.off i j (by omega) hj (fun e => h1 e.symm), zero_fm]
      · rw [at0_ge (row0 M i) j (by rw [hs.row i (by omega)]; omega), zero_fm]
  have high : ∀ i, m ≤ i → i < n → dot (row0 M i) (v ++ [1]) = ent M i m := fun i hi hi2 => by
    rw [dot_one (row0 M i) (v ++ [1]) m (by rw [hs.row i (by omega)]; omega) (by rw [hs.row i (by omega), hw]) fun j h1 => ?_]
    · rw [show at0 (v ++ [1]) m = 1 by rw [← hv]; exact at0_app_eq v 1, fm_one]; rfl
    · by_cases hj : j < m
      · rw [show at0 (row0 M i) j = 0 from h.off i j (by omega) hj (by omega), zero_fm]
      · rw [at0_ge (row0 M i) j (by rw [hs.row i (by omega)]; omega), zero_fm]
  constructor
  · intro hsat
    refine ⟨fun i hi => ?_, fun i hi hi2 => ?_⟩
    · have := hsat i (by omega)
      rw [low i hi] at this
      exact fa_eq_zero _ _ this
    · have := hsat i (by omega)
      rwa [high i hi hi2] at this
  · rintro ⟨h1, h2⟩ i hi
    by_cases him : i < m
    · rw [low i him, h1 i him, fa_self]
    · rw [high i (by omega) (by omega)]; exact h2 i (by omega) (by omega)

/-- A column without a pivot: the columns are not independent. -/
theorem sat_fail {M : List (List F)} {n m k : Nat} (hs : Shp M n (m + 1)) (h : Red M k) (hk : k < m) (hm : m ≤ n) (hz : ∀ i, k ≤ i → i < n → ent M i k = 0) :
    ∃ v : List F, v.length = m ∧ Sat 0 M v ∧ at0 v k = 1 := by
  have hl := hs.len
  obtain ⟨v, hvd⟩ : ∃ v : List F, v = (List.range m).map fun j => if j < k then fm (ent M j k) (fi (ent M j j)) else if j = k then 1 else 0 := ⟨_, rfl⟩
  have hv : v.length = m := by simp [hvd]
  have ha : ∀ j, j < m → at0 v j = if j < k then fm (ent M j k) (fi (ent M j j)) else if j = k then 1 else 0 := fun j hj => by rw [hvd]; simp [at0, hj]
  have hvk : at0 v k = 1 := by rw [ha k hk, if_neg (by omega), if_pos rfl]
  refine ⟨v, hv, fun i hi => ?_, hvk⟩
  have hw : (v ++ [0]).length = m + 1 := by simp [hv]
  have hw0 : ∀ j, j ≠ k → ¬ j < k → at0 (v ++ [0]) j = 0 := fun j h1 h2 => by
    by_cases hj : j < m
    · rw [at0_app_lt _ _ _ (by omega), ha j hj, if_neg h2, if_neg h1]
    · by_cases hjm : j = m
      · subst hjm; rw [← hv]; exact at0_app_eq v 0
      · exact at0_ge _ _ (by omega)
  have hwk : at0 (v ++ [0]) k = 1 := by rw [at0_app_lt _ _ _ (by omega)]; exact hvk
  by_cases hik : i < k
  · rw [dot_two (row0 M i) (v ++ [0]) i k hik (by rw [hs.row i (by omega)]; omega) (by rw [hs.row i (by omega), hw]) fun j h1 h2 => ?_]
    · rw [hwk, fm_one, at0_app_lt _ _ _ (by omega), ha i (by omega), if_pos hik]
      show fa (fm (ent M i i) (fm (ent M i k) (fi (ent M i i)))) (ent M i k) = 0
      rw [fm_left, fm_fi _ (h.dia i hik), fm_one, fa_self]
    · by_cases hj : j < k
      · rw [show at0 (row0 M i) j = 0 from h.off i j (by omega) hj (fun e => h1 e.symm), zero_fm]
      · rw [hw0 j h2 hj, fm_zero]
  · rw [dot_one (row0 M i) (v ++ [0]) k (by rw [hs.row i (by omega)]; omega) (by rw [hs.row i (by omega), hw]) fun j h1 => ?_]
    · rw [show at0 (row0 M i) k = 0 from hz i (by omega) (by omega), zero_fm]
    · by_cases hj : j < k
      · rw [show at0 (row0 M i) j = 0 from h.off i j (by omega) hj (by omega), zero_fm]
      · rw [hw0 j h1 hj, fm_zero]
end Go.Pw
