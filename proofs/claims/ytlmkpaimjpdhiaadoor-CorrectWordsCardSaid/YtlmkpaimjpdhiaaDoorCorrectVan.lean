/- A part of the proof. -/
import Derived.Test.YtlmkpaimjpdhiaaDoorCorrectLin
set_option linter.all false
namespace Go.Pw
set_option linter.unusedSimpArgs false
set_option linter.unusedVariables false

def addV (v w : List F) : List F := List.zipWith fa v w
theorem addV_len (v w : List F) (h : v.length = w.length) : (addV v w).length = v.length := by simp [addV, h]
theorem at0_addV (v w : List F) (j : Nat) (h : v.length = w.length) : at0 (addV v w) j = fa (at0 v j) (at0 w j) := by
  unfold at0 addV
  rw [List.getElem?_zipWith]
  by_cases hj : j < v.length
  · rw [List.getElem?_eq_getElem hj, List.getElem?_eq_getElem (by omega)]; rfl
  · rw [List.getElem?_eq_none (by omega), List.getElem?_eq_none (l := w) (by omega)]; rfl
theorem dot_addV : ∀ (r v w : List F), v.length = w.length → dot r (addV v w) = fa (dot r v) (dot r w)
  | [], v, w, _ => by simp [dot_nil, fa_zero]
  | x :: r, [], [], _ => by simp [addV, dot_nil2, fa_zero]
  | x :: r, a :: v, b :: w, h => by
    have ih := dot_addV r v w (by simpa using h)
    simp only [addV, List.zipWith_cons_cons, dot_cons] at ih ⊢
    rw [ih, fm_fa, fa4]
theorem ext0 {v w : List F} (hl : v.length = w.length) (h : ∀ j, j < v.length → at0 v j = at0 w j) : v = w := by
  apply List.ext_getElem hl
  intro j h1 h2
  have := h j h1
  unfold at0 at this
  rwa [List.getElem?_eq_getElem h1, List.getElem?_eq_getElem h2] at this

/-- Powers of a symbol. -/
def fpw (x : F) : Nat → F
  | 0 => 1
  | n + 1 => fm x (fpw x n)
theorem gp_mul (t i : Nat) : gp (i * t) = fpw (gp t) i := by
  induction i with
  | zero => rw [Nat.zero_mul]; exact gp_zero
  | succ i ih => rw [Nat.add_mul, Nat.one_mul, Nat.add_comm, gp_add, ih]; rfl

/-- THE COLUMNS ARE INDEPENDENT. -/
theorem vand : ∀ (xs vs : List F), vs.length = xs.length → xs.Nodup → (∀ i, i < xs.length → dot (xs.map fun x => fpw x i) vs = 0) → ∀ j, at0 vs j = 0
  | [], [], _, _, _ => fun j => rfl
  | x :: xs, v :: vs, hl, hn, h => by
    have hl' : vs.length = xs.length := by simpa using hl
    rw [List.nodup_cons] at hn
    -- the tail, multiplied by what makes the head vanish
    have key : ∀ (i : Nat) (ys ws : List F), ws.length = ys.length → dot (ys.map fun y => fpw y i) (List.zipWith (fun y w => fm w (fa y x)) ys ws) = fa (dot (ys.map fun y => fpw y (i + 1)) ws) (fm x (dot (ys.map fun y => fpw y i) ws)) := by
      intro i ys
      induction ys with
      | nil => intro ws _; rw [List.map_nil, dot_nil, List.map_nil, dot_nil, fm_zero]; rfl
      | cons y ys ih =>
        intro ws hw
        cases ws with
        | nil => simp at hw
        | cons w ws =>
          have := ih ws (by simpa using hw)
          simp only [List.map_cons, List.zipWith_cons_cons, dot_cons]
          rw [this, fm_fa w, fm_fa (fpw y i), fm_fa x, fa4]
          congr 1
          · congr 1
            show fm (fpw y i) (fm w y) = fm (fm y (fpw y i)) w
            rw [fm_comm w y, ← fm_assoc, fm_comm (fpw y i) y]
          · congr 1
            rw [fm_left, fm_comm, fm_assoc]
            rw [fm_left]
    have hz : ∀ i, i < xs.length → dot (xs.map fun y => fpw y i) (List.zipWith (fun y w => fm w (fa y x)) xs vs) = 0 := fun i hi => by
      rw [key i xs vs hl']
      have h1 := h i (by simp; omega)
      have h2 := h (i + 1) (by simpa using hi)
      simp only [List.map_cons, dot_cons] at h1 h2
      have e1 : dot (xs.map fun y => fpw y i) vs = fm (fpw x i) v := (fa_eq_zero _ _ h1).symm
      have e2 : dot (xs.map fun y => fpw y (i + 1)) vs = fm (fpw x (i + 1)) v := (fa_eq_zero _ _ h2).symm
      rw [e1, e2, ← fm_assoc]
      exact fa_self _
    have ih := vand xs (List.zipWith (fun y w => fm w (fa y x)) xs vs) (by simp [hl']) hn.2 hz
    have htail : ∀ j, at0 vs j = 0 := fun j => by
      by_cases hj : j < xs.length
      · have := ih j
        unfold at0 at this ⊢
        rw [List.getElem?_zipWith, List.getElem?_eq_getElem hj, List.getElem?_eq_getElem (by omega)] at this
        rw [List.getElem?_eq_getElem (by omega)]
        have hne : fa xs[j] x ≠ 0 := fun e => hn.1 (by rw [← fa_eq_zero _ _ e]; exact List.getElem_mem hj)
        exact (fm_eq_zero _ _ this).resolve_right hne
      · exact at0_ge _ _ (by omega)
    have hhead : v = 0 := by
      have h0 := h 0 (by simp)
      simp only [List.map_cons, dot_cons] at h0
      have : dot (xs.map fun y => fpw y 0) vs = 0 := by
        have hvs : vs = List.replicate vs.length 0 := by
          apply ext0 (by simp)
          intro j hj
          rw [htail j]
          simp [at0, hj]
        rw [hvs]
        generalize xs.map (fun y => fpw y 0) = zs
        generalize vs.length = n
        induction zs generalizing n with
        | nil => rfl
        | cons z zs ih2 =>
          cases n with
          | zero => rfl
          | succ n => rw [List.replicate_succ, dot_cons, fm_zero, ih2]; rfl
      rw [this, fa_zero] at h0
      rw [show fpw x 0 = 1 from rfl, one_fm] at h0
      exact h0
    intro j
    cases j with
    | zero => exact hhead
    | succ j => exact htail j

/-- The factors of a position in the sums; the equations for some positions. -/
def fac (L i j : Nat) : F := gp (i * (L - 1 - j))
def eqs (L P : Nat) (at_ : List Nat) (s : List F) : List (List F) := (List.range P).map fun i => (at_.map fun j => fac L i j) ++ [at0 s i]
theorem eqs_shp (L P : Nat) (at_ : List Nat) (s : List F) : Shp (eqs L P at_ s) P (at_.length + 1) := by
  refine ⟨by simp [eqs], fun i hi => ?_⟩
  unfold eqs
  rw [row0_range (α := F) _ _ _ hi]; simp
theorem row0_eqs (L P : Nat) (at_ : List Nat) (s : List F) (i : Nat) (h : i < P) : row0 (eqs L P at_ s) i = (at_.map fun j => fac L i j) ++ [at0 s i] := row0_range (α := F) _ _ _ h
/-- Positions of a word, each once. -/
structure Pos (L : Nat) (at_ : List Nat) : Prop where
  nd : at_.Nodup
  lt : ∀ j, j ∈ at_ → j < L
theorem dot_eqs (L P : Nat) (at_ : List Nat) (s v : List F) (c : F) (hv : v.length = at_.length) (i : Nat) (h : i < P) : dot (row0 (eqs L P at_ s) i) (v ++ [c]) = fa (dot (at_.map fun j => fac L i j) v) (fm (at0 s i) c) := by
  rw [row0_eqs _ _ _ _ _ h, dot_snoc _ _ _ _ (by simp [hv])]
theorem ker_zero {L P : Nat} (hL : L ≤ 15) {at_ : List Nat} (hp : Pos L at_) (hm : at_.length ≤ P) {s v : List F} (hv : v.length = at_.length) (h : Sat 0 (eqs L P at_ s) v) : ∀ j, at0 v j = 0 := by
  have hx : (at_.map fun j => gp (L - 1 - j)).Nodup := by
    have h1 := hp.nd
    have h2 := hp.lt
    clear h hv hm
    induction at_ with
    | nil => simp
    | cons a l ih =>
      rw [List.nodup_cons] at h1
      rw [List.map_cons, List.nodup_cons]
      refine ⟨fun hmem => ?_, ih ⟨h1.2, fun j hj => h2 j (by simp [hj])⟩ h1.2 fun j hj => h2 j (by simp [hj])⟩
      obtain ⟨b, hb, he⟩ := List.mem_map.1 hmem
      have ha := h2 a (by simp)
      have hb2 := h2 b (by simp [hb])
      have := gp_inj (by omega) (by omega) he
      have : a = b := by omega
      subst this
      exact h1.1 hb
  refine vand _ v (by simp [hv]) hx fun i hi => ?_
  have hi' : i < P := by simp at hi; omega
  have := h i (by rw [(eqs_shp L P at_ s).len]; exact hi')
  rw [dot_eqs _ _ _ _ _ _ hv i hi', fm_zero, fa_zero] at this
  rw [List.map_map]
  have e : (at_.map ((fun x => fpw x i) ∘ fun j => gp (L - 1 - j))) = at_.map fun j => fac L i j := List.map_congr_left fun j _ => (gp_mul _ _).symm
  rw [e]; exact this
theorem sat_add {c d : F} {M : List (List F)} {v w : List F} (hl : v.length = w.length) (h1 : Sat c M v) (h2 : Sat d M w) : Sat (fa c d) M (addV v w) := by
  intro i hi
  have : addV v w ++ [fa c d] = addV (v ++ [c]) (w ++ [d]) := by
    unfold addV
    rw [List.zipWith_append hl]; rfl
  rw [this, dot_addV _ _ _ (by simp [hl]), h1 i hi, h2 i hi, fa_zero]
theorem sat_uniq {L P : Nat} (hL : L ≤ 15) {at_ : List Nat} (hp : Pos L at_) (hm : at_.length ≤ P) {s v w : List F} (hv : v.length = at_.length) (hw : w.length = at_.length) (h1 : Sat 1 (eqs L P at_ s) v) (h2 : Sat 1 (eqs L P at_ s) w) : v = w := by
  have h := sat_add (by omega) h1 h2
  rw [fa_self] at h
  have := ker_zero hL hp hm (by rw [addV_len _ _ (by omega)]; exact hv) h
  refine ext0 (by omega) fun j _ => ?_
  have hj := this j
  rw [at0_addV _ _ _ (by omega)] at hj
  exact fa_eq_zero _ _ hj

open Classical in
/-- What must be added at some positions so that all sums are 0. -/
noncomputable def solM (L P : Nat) (at_ : List Nat) (s : List F) : Option (List F) :=
  if h : ∃ v : List F, v.length = at_.length ∧ Sat 1 (eqs L P at_ s) v then some h.choose else none
theorem solM_some {L P : Nat} (hL : L ≤ 15) {at_ : List Nat} (hp : Pos L at_) (hm : at_.length ≤ P) {s v : List F} (hv : v.length = at_.length) (h : Sat 1 (eqs L P at_ s) v) : solM L P at_ s = some v := by
  have hex : ∃ v : List F, v.length = at_.length ∧ Sat 1 (eqs L P at_ s) v := ⟨v, hv, h⟩
  unfold solM
  rw [dif_pos hex]
  congr 1
  exact sat_uniq hL hp hm hex.choose_spec.1 hv hex.choose_spec.2 h
theorem solM_none {L P : Nat} {at_ : List Nat} {s : List F} (h : ∀ v : List F, v.length = at_.length → ¬ Sat 1 (eqs L P at_ s) v) : solM L P at_ s = none := by
  unfold solM
  rw [dif_neg fun ⟨v, h1, h2⟩ => h v h1 h2]
theorem solM_spec {L P : Nat} {at_ : List Nat} {s v : List F} (h : solM L P at_ s = some v) : v.length = at_.length ∧ Sat 1 (eqs L P at_ s) v := by
  unfold solM at h
  split at h
  · rename_i hex
    simp only [Option.some.injEq] at h
    rw [← h]; exact hex.choose_spec
  · cases h
end Go.Pw
