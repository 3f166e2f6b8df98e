/- A part of the proof. -/
import Derived.Test.YtgeodifpcminpaaPgCodesJ
import Derived.Test.YtgeodifpcminpaaCodesH
set_option linter.all false
section
namespace Go.Pw
set_option linter.unusedVariables false
/-- A run, where it began, the words. -/
abbrev Trip := GRun × Int × List Int
inductive BfsR where
  | go (q : List Trip)
  | bad (s : Int) (d : List Int)
def GCode.bfsW (c : GCode) (t : Trip) : Nat → Int → List Trip → BfsR
  | 0, _, Q => .go Q
  | k + 1, w, Q => match c.stp t.1 w with
    | none => .bad t.2.1 (t.2.2 ++ [w])
    | some r => bfsW c t k (w + 1) (Q ++ [(r, t.2.1, t.2.2 ++ [w])])
def GCode.bfs (c : GCode) : Nat → List Trip → List GRun → Option (Int × List Int)
  | 0, _, _ => none
  | _ + 1, [], _ => none
  | k + 1, t :: Q, seen => if t.1 ∈ seen then bfs c k Q seen else match c.bfsW t c.W 0 Q with
    | .bad s d => some (s, d)
    | .go Q' => bfs c k Q' (seen ++ [t.1])
def GCode.queue0 (c : GCode) : List Trip := c.starts.map fun r => (r, r.1, [])
def GCode.bfsR (c : GCode) : Option (Int × List Int) := c.bfs 600 c.queue0 []
def bfsM (Q : List Trip) (seen : List GRun) : Nat := (105 - seen.length) * 5 + Q.length

open GCode
theorem bfsW_bad {c : GCode} {t : Trip} : ∀ {k : Nat} {w : Int} {Q : List Trip} {s : Int} {d : List Int}, c.bfsW t k w Q = .bad s d → ∃ v, w ≤ v ∧ v < w + k ∧ c.stp t.1 v = none ∧ s = t.2.1 ∧ d = t.2.2 ++ [v]
  | 0, w, Q, s, d, h => by rw [bfsW] at h; cases h
  | k + 1, w, Q, s, d, h => by
    rw [bfsW] at h
    cases hs : c.stp t.1 w with
    | none => rw [hs] at h; cases h; exact ⟨w, by omega, by omega, hs, rfl, rfl⟩
    | some r =>
      rw [hs] at h
      obtain ⟨v, h1, h2, h3⟩ := bfsW_bad h
      exact ⟨v, by omega, by omega, h3⟩
theorem bfsW_go {c : GCode} {t : Trip} : ∀ {k : Nat} {w : Int} {Q Q' : List Trip}, c.bfsW t k w Q = .go Q' → ∃ N : List Trip, Q' = Q ++ N ∧ N.length = k ∧ (∀ u, u ∈ N → ∃ v, w ≤ v ∧ v < w + k ∧ c.stp t.1 v = some u.1 ∧ u.2 = (t.2.1, t.2.2 ++ [v])) ∧ ∀ v, w ≤ v → v < w + k → ∃ r, c.stp t.1 v = some r ∧ (r, t.2.1, t.2.2 ++ [v]) ∈ N
  | 0, w, Q, Q', h => by
    rw [bfsW] at h; cases h
    exact ⟨[], by simp, rfl, fun u hu => (by cases hu), fun v h1 h2 => by omega⟩
  | k + 1, w, Q, Q', h => by
    rw [bfsW] at h
    cases hs : c.stp t.1 w with
    | none => rw [hs] at h; cases h
    | some r =>
      rw [hs] at h
      obtain ⟨N, h1, h2, h3, h4⟩ := bfsW_go h
      refine ⟨(r, t.2.1, t.2.2 ++ [w]) :: N, by rw [h1]; simp, by simp [h2], ?_, ?_⟩
      · intro u hu
        rcases List.mem_cons.1 hu with e | e
        · rw [e]; exact ⟨w, by omega, by omega, hs, rfl⟩
        · obtain ⟨v, k1, k2, k3⟩ := h3 u e
          exact ⟨v, by omega, by omega, k3⟩
      · intro v k1 k2
        by_cases hv : v = w
        · rw [hv]; exact ⟨r, hs, by simp⟩
        · obtain ⟨q, k3, k4⟩ := h4 v (by omega) (by omega)
          exact ⟨q, k3, by simp [k4]⟩

/-- What holds of the search. -/
structure BfsJ (c : GCode) (Q : List Trip) (seen : List GRun) : Prop where
  a : ∀ t, t ∈ Q → c.isState t.2.1 = true ∧ c.areW t.2.2 ∧ c.path (t.2.1, 0, false) t.2.2 = some t.1
  b : Q.Pairwise fun t u => t.2.2.length ≤ u.2.2.length
  b2 : ∀ t u, t ∈ Q → u ∈ Q → u.2.2.length ≤ t.2.2.length + 1
  lv : ∃ lv : GRun → Nat, (∀ r, r ∈ seen → ∀ w, c.isWord w = true → ∃ r', c.stp r w = some r' ∧ ((r' ∈ seen ∧ lv r' ≤ lv r + 1) ∨ ∃ t, t ∈ Q ∧ t.1 = r' ∧ t.2.2.length ≤ lv r + 1)) ∧
    (∀ r, r ∈ c.starts → (r ∈ seen ∧ lv r = 0) ∨ ∃ t, t ∈ Q ∧ t.1 = r ∧ t.2.2.length = 0) ∧ (∀ r t, r ∈ seen → t ∈ Q → lv r ≤ t.2.2.length)
  e : seen.Nodup ∧ ∀ r, r ∈ seen → c.RunOk r
  f : ∀ t, t ∈ Q → t.2.2.length ≤ seen.length
theorem BfsJ.len {c : GCode} (h : c.ok = true) {Q : List Trip} {seen : List GRun} (j : BfsJ c Q seen) : seen.length ≤ 104 := by
  have hd := ok_head h
  have hs : ∀ q, q ∈ seen → 0 ≤ q.1 ∧ q.1 ≤ 3 ∧ 0 ≤ q.2.1 ∧ q.2.1 ≤ 12 := fun q hq => by
    have := j.e.2 q hq
    unfold RunOk at this
    simp only [isState, inR, decide_eq_true_eq] at this
    omega
  have hm := nodup_lt 104 (seen.map fun q => (q.1 * 26 + q.2.1 * 2 + (if q.2.2 then 1 else 0)).toNat) (by
    have := j.e.1
    rw [List.Nodup, List.pairwise_map]
    refine List.Pairwise.imp_of_mem ?_ this
    intro a b ha hb hne he
    have h1 := hs a ha
    have h2 := hs b hb
    apply hne
    obtain ⟨a1, a2, a3⟩ := a
    obtain ⟨b1, b2, b3⟩ := b
    simp only at h1 h2 he
    cases a3 <;> cases b3 <;> simp only [Bool.false_eq_true, if_true, if_false] at he
    · rw [show a1 = b1 by omega, show a2 = b2 by omega]
    · omega
    · omega
    · rw [show a1 = b1 by omega, show a2 = b2 by omega]) fun x hx => by
      simp only [List.mem_map] at hx
      obtain ⟨q, hq, rfl⟩ := hx
      have := hs q hq
      split <;> omega
  simpa using hm
theorem BfsJ.start {c : GCode} (h : c.ok = true) : BfsJ c c.queue0 [] := by
  have hm : ∀ t, t ∈ c.queue0 → t.2.2 = [] ∧ ∃ s, c.isState s = true ∧ t = ((s, 0, false), s, []) := by
    intro t ht
    unfold queue0 starts at ht
    rw [List.map_map, List.mem_map] at ht
    obtain ⟨s, hs, rfl⟩ := ht
    rw [List.mem_range] at hs
    exact ⟨rfl, s, by simp only [isState, inR, decide_eq_true_eq]; omega, rfl⟩
  refine ⟨?_, ?_, ?_, ⟨fun _ => 0, fun r hr => (by cases hr), fun r hr => .inr ⟨(r, r.1, []), ?_, rfl, rfl⟩, fun r t hr => (by cases hr)⟩, ⟨List.nodup_nil, fun r hr => (by cases hr)⟩, ?_⟩
  · intro t ht
    obtain ⟨_, s, hs, rfl⟩ := hm t ht
    exact ⟨hs, fun w hw => (by cases hw), rfl⟩
  · refine List.Pairwise.imp_of_mem ?_ (List.pairwise_of_forall (fun _ _ => True.intro) : c.queue0.Pairwise fun _ _ => True)
    intro t u ht hu _
    rw [(hm t ht).1]; simp
  · intro t u ht hu
    rw [(hm u hu).1]; simp
  · unfold queue0; exact List.mem_map.2 ⟨r, hr, rfl⟩
  · intro t ht; rw [(hm t ht).1]; simp
/-- A run that was seen is passed over. -/
theorem BfsJ.old {c : GCode} {t : Trip} {Q : List Trip} {seen : List GRun} (j : BfsJ c (t :: Q) seen) (ht : t.1 ∈ seen) : BfsJ c Q seen := by
  obtain ⟨lv, l1, l2, l3⟩ := j.lv
  have hlt := l3 t.1 t ht (by simp)
  refine ⟨fun u hu => j.a u (by simp [hu]), (List.pairwise_cons.1 j.b).2, fun u v hu hv => j.b2 u v (by simp [hu]) (by simp [hv]), ⟨lv, ?_, ?_, fun r u hr hu => l3 r u hr (by simp [hu])⟩, j.e, fun u hu => j.f u (by simp [hu])⟩
  · intro r hr w hw
    obtain ⟨r', h1, h2⟩ := l1 r hr w hw
    refine ⟨r', h1, ?_⟩
    rcases h2 with h2 | ⟨u, h3, h4, h5⟩
    · exact .inl h2
    · rcases List.mem_cons.1 h3 with e | e
      · subst e
        rw [← h4]; exact .inl ⟨ht, by omega⟩
      · exact .inr ⟨u, e, h4, h5⟩
  · intro r hr
    rcases l2 r hr with h2 | ⟨u, h3, h4, h5⟩
    · exact .inl h2
    · rcases List.mem_cons.1 h3 with e | e
      · subst e
        rw [← h4]; exact .inl ⟨ht, by omega⟩
      · exact .inr ⟨u, e, h4, h5⟩
/-- A new run is looked at. -/
theorem BfsJ.new {c : GCode} (h : c.ok = true) {t : Trip} {Q Q' : List Trip} {seen : List GRun} (j : BfsJ c (t :: Q) seen) (ht : ¬ t.1 ∈ seen) (hq : c.bfsW t c.W 0 Q = .go Q') : BfsJ c Q' (seen ++ [t.1]) := by
  obtain ⟨N, rfl, hN, hn1, hn2⟩ := bfsW_go hq
  obtain ⟨lv, l1, l2, l3⟩ := j.lv
  obtain ⟨a1, a2, a3⟩ := j.a t (by simp)
  have hpw := List.pairwise_cons.1 j.b
  have hNl : ∀ u, u ∈ N → u.2.2.length = t.2.2.length + 1 := fun u hu => by
    obtain ⟨v, _, _, _, k4⟩ := hn1 u hu
    rw [k4]; simp
  have hne : ∀ r, r ∈ seen → r ≠ t.1 := fun r hr e => ht (by rw [← e]; exact hr)
  refine ⟨?_, ?_, ?_, ⟨fun r => if r = t.1 then t.2.2.length else lv r, ?_, ?_, ?_⟩, ⟨?_, ?_⟩, ?_⟩
  · intro u hu
    rcases List.mem_append.1 hu with e | e
    · exact j.a u (by simp [e])
    · obtain ⟨v, k1, k2, k3, k4⟩ := hn1 u e
      rw [k4]
      refine ⟨a1, ?_, ?_⟩
      · intro x hx
        rcases List.mem_append.1 hx with e2 | e2
        · exact a2 x e2
        · rw [List.mem_singleton.1 e2]; exact word_iff.1 ⟨k1, k2⟩
      · show c.path (t.2.1, 0, false) (t.2.2 ++ [v]) = _
        rw [path_snoc, a3]; exact k3
  · rw [List.pairwise_append]
    refine ⟨hpw.2, ?_, ?_⟩
    · refine List.Pairwise.imp_of_mem ?_ (List.pairwise_of_forall (fun _ _ => True.intro) : N.Pairwise fun _ _ => True)
      intro u v hu hv _
      rw [hNl u hu, hNl v hv]; exact Nat.le_refl _
    · intro u hu v hv
      rw [hNl v hv]
      exact j.b2 t u (by simp) (by simp [hu])
  · intro u v hu hv
    have hu' : t.2.2.length ≤ u.2.2.length := by
      rcases List.mem_append.1 hu with e | e
      · exact hpw.1 u e
      · rw [hNl u e]; omega
    have hv' : v.2.2.length ≤ t.2.2.length + 1 := by
      rcases List.mem_append.1 hv with e | e
      · exact j.b2 t v (by simp) (by simp [e])
      · rw [hNl v e]; exact Nat.le_refl _
    omega
  · intro r hr w hw
    rcases List.mem_append.1 hr with e | e
    · obtain ⟨r', h1, h2⟩ := l1 r e w hw
      refine ⟨r', h1, ?_⟩
      simp only [if_neg (hne r e)]
      rcases h2 with ⟨h2, h3⟩ | ⟨u, h3, h4, h5⟩
      · refine .inl ⟨by simp [h2], ?_⟩
        rw [if_neg (hne r' h2)]; exact h3
      · rcases List.mem_cons.1 h3 with e2 | e2
        · subst e2
          refine .inl ⟨by simp [h4], ?_⟩
          rw [if_pos h4.symm]; exact h5
        · exact .inr ⟨u, by simp [e2], h4, h5⟩
    · have hr' := List.mem_singleton.1 e
      subst hr'
      obtain ⟨r', k1, k2⟩ := hn2 w (word_iff.2 hw).1 (word_iff.2 hw).2
      refine ⟨r', k1, .inr ⟨_, List.mem_append.2 (.inr k2), rfl, ?_⟩⟩
      simp
  · intro r hr
    rcases l2 r hr with ⟨h2, h3⟩ | ⟨u, h3, h4, h5⟩
    · refine .inl ⟨by simp [h2], ?_⟩
      show (if r = t.1 then t.2.2.length else lv r) = 0
      rw [if_neg (hne r h2)]; exact h3
    · rcases List.mem_cons.1 h3 with e | e
      · subst e
        refine .inl ⟨by simp [h4], ?_⟩
        show (if r = u.1 then u.2.2.length else lv r) = 0
        rw [if_pos h4.symm]; exact h5
      · exact .inr ⟨u, by simp [e], h4, h5⟩
  · intro r u hr hu
    have hu' : t.2.2.length ≤ u.2.2.length := by
      rcases List.mem_append.1 hu with e | e
      · exact hpw.1 u e
      · rw [hNl u e]; omega
    by_cases hrt : r = t.1
    · simp only [if_pos hrt]; exact hu'
    · simp only [if_neg hrt]
      rcases List.mem_append.1 hr with e | e
      · have := l3 r t e (by simp); omega
      · exact absurd (List.mem_singleton.1 e) hrt
  · rw [List.nodup_append]
    exact ⟨j.e.1, by simp, fun a ha b hb => by rw [List.mem_singleton.1 hb]; exact hne a ha⟩
  · intro r hr
    rcases List.mem_append.1 hr with e | e
    · exact j.e.2 r e
    · rw [List.mem_singleton.1 e]; exact path_ok h (start_ok h a1) a2 a3
  · intro u hu
    rw [List.length_append]
    have := j.f t (by simp)
    rcases List.mem_append.1 hu with e | e
    · have := j.f u (by simp [e]); simp; omega
    · rw [hNl u e]; simp; omega
theorem bfs_walk {c : GCode} {Q : List Trip} {seen : List GRun} {lv : GRun → Nat} {n : Nat} (l1 : ∀ r, r ∈ seen → ∀ w, c.isWord w = true → ∃ r', c.stp r w = some r' ∧ ((r' ∈ seen ∧ lv r' ≤ lv r + 1) ∨ ∃ t, t ∈ Q ∧ t.1 = r' ∧ t.2.2.length ≤ lv r + 1))
    (hn : ∀ t, t ∈ Q → n ≤ t.2.2.length) : ∀ (ws : List Int) (r : GRun), r ∈ seen → c.areW ws → lv r + ws.length ≤ n → c.path r ws ≠ none
  | [], r, _, _, _ => by rw [path]; simp
  | w :: l, r, hr, hw, hl => by
    obtain ⟨r', h1, h2⟩ := l1 r hr w (hw w (by simp))
    rw [path, h1]
    simp only [List.length_cons] at hl
    rcases h2 with ⟨h2, h3⟩ | ⟨t, h3, h4, h5⟩
    · exact bfs_walk l1 hn l r' h2 (fun x hx => hw x (by simp [hx])) (by omega)
    · have := hn t h3
      have hl0 : l = [] := by
        cases l with
        | nil => rfl
        | cons a b => simp at hl; omega
      subst hl0
      simp [path]
theorem BfsJ.least {c : GCode} {t : Trip} {Q : List Trip} {seen : List GRun} (j : BfsJ c (t :: Q) seen) : ¬ c.Brk t.2.2.length := by
  rintro ⟨s, ws, h1, h2, h3, h4⟩
  obtain ⟨lv, l1, l2, l3⟩ := j.lv
  have hmin : ∀ u, u ∈ t :: Q → t.2.2.length ≤ u.2.2.length := fun u hu => by
    rcases List.mem_cons.1 hu with e | e
    · rw [e]; exact Nat.le_refl _
    · exact (List.pairwise_cons.1 j.b).1 u e
  have hst : ((s, 0, false) : GRun) ∈ c.starts := starts_mem.2 ⟨s, [], h1, rfl, fun w hw => (by cases hw), rfl⟩
  rcases l2 _ hst with ⟨h5, h6⟩ | ⟨u, h5, h6, h7⟩
  · exact bfs_walk l1 hmin ws _ h5 h3 (by rw [h6, h2]; omega) h4
  · have := hmin u h5
    have hws : ws = [] := by
      cases ws with
      | nil => rfl
      | cons a b => simp at h2; omega
    subst hws
    cases h4
theorem BfsJ.done {c : GCode} {seen : List GRun} (j : BfsJ c [] seen) : ∀ k, ¬ c.Brk k := by
  rintro k ⟨s, ws, h1, h2, h3, h4⟩
  obtain ⟨lv, l1, l2, l3⟩ := j.lv
  have hst : ((s, 0, false) : GRun) ∈ c.starts := starts_mem.2 ⟨s, [], h1, rfl, fun w hw => (by cases hw), rfl⟩
  rcases l2 _ hst with ⟨h5, h6⟩ | ⟨u, h5, _⟩
  · exact bfs_walk (n := lv (s, 0, false) + ws.length) l1 (fun t ht => (by cases ht)) ws _ h5 h3 (Nat.le_refl _) h4
  · cases h5
/-- What the search says. -/
def BfsOk (c : GCode) : Option (Int × List Int) → Prop
  | none => ∀ k, ¬ c.Brk k
  | some (s, d) => c.isState s = true ∧ c.areW d ∧ c.path (s, 0, false) d = none ∧ 0 < d.length ∧ ¬ c.Brk (d.length - 1)
theorem BfsJ.bad {c : GCode} {t : Trip} {Q : List Trip} {seen : List GRun} (j : BfsJ c (t :: Q) seen) {Q1 : List Trip} {s : Int} {d : List Int} (hq : c.bfsW t c.W 0 Q1 = .bad s d) : BfsOk c (some (s, d)) := by
  obtain ⟨v, h1, h2, h3, rfl, rfl⟩ := bfsW_bad hq
  obtain ⟨a1, a2, a3⟩ := j.a t (by simp)
  refine ⟨a1, ?_, ?_, by simp, ?_⟩
  · intro x hx
    rcases List.mem_append.1 hx with e | e
    · exact a2 x e
    · rw [List.mem_singleton.1 e]; exact word_iff.1 ⟨h1, h2⟩
  · rw [path_snoc, a3]; exact h3
  · simpa using j.least
theorem W_le {c : GCode} (h : c.ok = true) : c.W ≤ 4 := by
  have hd := ok_head h
  unfold W
  have : c.bits.toNat = 1 ∨ c.bits.toNat = 2 := by omega
  rcases this with e | e <;> rw [e] <;> decide
theorem bfs_ok {c : GCode} (h : c.ok = true) : ∀ {k : Nat} {Q : List Trip} {seen : List GRun}, BfsJ c Q seen → bfsM Q seen < k → BfsOk c (c.bfs k Q seen)
  | 0, Q, seen, j, hk => by omega
  | k + 1, [], seen, j, hk => by rw [bfs]; exact j.done
  | k + 1, t :: Q, seen, j, hk => by
    rw [bfs]
    unfold bfsM at hk
    simp only [List.length_cons] at hk
    by_cases ht : t.1 ∈ seen
    · rw [if_pos ht]
      exact bfs_ok h (j.old ht) (by unfold bfsM; omega)
    · rw [if_neg ht]
      cases hq : c.bfsW t c.W 0 Q with
      | bad s d => exact j.bad hq
      | go Q' =>
        have j' := j.new h ht hq
        have hl := j'.len h
        rw [List.length_append] at hl
        simp at hl
        obtain ⟨N, h1, h2, _⟩ := bfsW_go hq
        have hw := W_le h
        exact bfs_ok h j' (by unfold bfsM; rw [h1]; simp only [List.length_append, List.length_singleton]; omega)
theorem bfsR_ok {c : GCode} (h : c.ok = true) : BfsOk c c.bfsR := by
  have hd := ok_head h
  refine bfs_ok h (BfsJ.start h) ?_
  unfold bfsM queue0 starts
  simp; omega
end Go.Pw
end
section
namespace Go.Pw
set_option linter.unusedVariables false
/-- The program's walk over the bits of a word: the zeros, the one, whether the rule is kept. -/
def fB (least most : Int) : List Int → Int → Bool → (Int × Bool) × Bool
  | [], z, o => ((z, o), true)
  | b :: l, z, o => if b = 0 then (if most < z + 1 then ((z + 1, o), false) else fB least most l (z + 1) o)
    else (if o = true ∧ z < least then ((z, o), false) else fB least most l 0 true)
theorem fB_sB (a m : Int) : ∀ (l : List Int) (z : Int) (o : Bool), sB a m l z o = if (fB a m l z o).2 then some (fB a m l z o).1 else none
  | [], z, o => rfl
  | b :: l, z, o => by
    rw [sB, fB]
    split
    · split
      · rfl
      · exact fB_sB a m l _ _
    · split
      · rfl
      · exact fB_sB a m l _ _
def GCode.stepR (c : GCode) (r : GRun) (w : Int) : GRun × Bool :=
  let f := fB c.least c.most (bitsOf c.out.toNat (c.wrd r.1 w)) r.2.1 r.2.2
  if f.2 then ((c.nxt r.1 w, f.1.1, f.1.2), true) else ((r.1, f.1.1, f.1.2), false)
theorem stepR_some {c : GCode} {r : GRun} {w : Int} {q : GRun} (h : c.stp r w = some q) : c.stepR r w = (q, true) := by
  unfold GCode.stp at h
  unfold GCode.stepR
  rw [fB_sB] at h
  cases hf : (fB c.least c.most (bitsOf c.out.toNat (c.wrd r.1 w)) r.2.1 r.2.2).2 with
  | true => rw [hf] at h; simp at h; simp [hf, h]
  | false => rw [hf] at h; simp at h
theorem stepR_none {c : GCode} {r : GRun} {w : Int} (h : c.stp r w = none) : ∃ q, c.stepR r w = (q, false) := by
  unfold GCode.stp at h
  unfold GCode.stepR
  rw [fB_sB] at h
  cases hf : (fB c.least c.most (bitsOf c.out.toNat (c.wrd r.1 w)) r.2.1 r.2.2).2 with
  | true => rw [hf] at h; simp at h
  | false => simp [hf]

def runC (r : GRun) : List D := [.int .i64 r.1, .int .i64 r.2.1, .bool r.2.2]
def runD (r : GRun) : D := .agg (runC r)
theorem runC_eq (r : GRun) : runC r = [.int .i64 r.1, .int .i64 r.2.1, .bool r.2.2] := rfl
theorem runD_eq (r : GRun) : runD r = .agg (runC r) := rfl
def tripD (t : Trip) : D := .agg [.int .i64 t.1.1, .int .i64 t.1.2.1, .bool t.1.2.2, .int .i64 t.2.1, .list t.2.2.isEmpty (ints t.2.2)]
theorem tripD_eq (t : Trip) : tripD t = .agg [.int .i64 t.1.1, .int .i64 t.1.2.1, .bool t.1.2.2, .int .i64 t.2.1, .list t.2.2.isEmpty (ints t.2.2)] := rfl
def tripsD (l : List Trip) : List D := l.map tripD
theorem tripsD_len (l : List Trip) : (tripsD l).length = l.length := by simp [tripsD]
theorem tripsD_nil : tripsD [] = [] := rfl
theorem tripsD_unif (l : List Trip) : Unif 5 (tripsD l) = True := unif_map fun _ => rfl
theorem tripsD_drop (l : List Trip) (n : Nat) : (tripsD l).drop n = tripsD (l.drop n) := by simp [tripsD]
theorem onSome_trips {l : List Trip} {i : Nat} {A : D → Prop} : onSome (tripsD l)[i]? A = (i < l.length ∧ A (tripD (l[i]?.getD default))) := onSome_map
theorem tripsD_snoc (l : List Trip) (t : Trip) : tripsD l ++ [tripD t] = tripsD (l ++ [t]) := by simp [tripsD]
def runsD (l : List GRun) : List D := l.map runD
theorem runsD_len (l : List GRun) : (runsD l).length = l.length := by simp [runsD]
theorem runsD_unif (l : List GRun) : Unif 3 (runsD l) = True := unif_map fun _ => rfl
theorem onSome_runs {l : List GRun} {i : Nat} {A : D → Prop} : onSome (runsD l)[i]? A = (i < l.length ∧ A (runD (l[i]?.getD default))) := onSome_map

/-- The table of the runs that were seen. -/
abbrev RMemo := List (GRun × Int)
def gentD (e : GRun × Int) : D × D := (runD e.1, .int .i64 e.2)
def memG (m : RMemo) : List (D × D) := m.map gentD
def lookG (k : GRun) : RMemo → Option Int
  | [] => none
  | e :: m => if k = e.1 then some e.2 else lookG k m
def setG (k : GRun) (v : Int) : RMemo → RMemo
  | [] => [(k, v)]
  | e :: m => if k = e.1 then (e.1, v) :: m else e :: setG k v m
theorem keyEq_run (p q : GRun) : keyEq (runD p) (runD q) = decide (p = q) := by
  obtain ⟨a, b, o⟩ := p; obtain ⟨a', b', o'⟩ := q
  have e : (o == o') = decide (o = o') := by cases o <;> cases o' <;> rfl
  simp [keyEq, runD, runC, D.cells, allEq, primEq, Prod.ext_iff, e]
theorem lookK_run (k : GRun) (m : RMemo) : lookK (runD k) (memG m) = (lookG k m).map (.int .i64) := by
  induction m with
  | nil => rfl
  | cons e m ih =>
    simp only [memG, List.map_cons, lookK, gentD, keyEq_run, lookG] at ih ⊢
    by_cases h : k = e.1
    · simp [h]
    · simp only [decide_eq_true_eq, h, if_false]; exact ih
theorem setK_run (k : GRun) (v : Int) (m : RMemo) : setK (runD k) (.int .i64 v) (memG m) = memG (setG k v m) := by
  induction m with
  | nil => rfl
  | cons e m ih =>
    simp only [memG, List.map_cons, setK, gentD, keyEq_run, setG] at ih ⊢
    by_cases h : k = e.1
    · simp [h, gentD]
    · simp only [decide_eq_true_eq, h, if_false, List.map_cons, gentD, ih]
theorem lookG_none {k : GRun} {m : RMemo} : lookG k m = none ↔ k ∉ m.map (·.1) := by
  induction m with
  | nil => simp [lookG]
  | cons e m ih =>
    rw [lookG]
    by_cases h : k = e.1
    · simp [h]
    · rw [if_neg h, ih]; simp [h]
/-- The table with a run counted. -/
def incG (k : GRun) (m : RMemo) : RMemo := setG k ((lookG k m).getD 0 + 1) m
theorem setG_keys (k : GRun) (v : Int) (m : RMemo) : (setG k v m).map (·.1) = if k ∈ m.map (·.1) then m.map (·.1) else m.map (·.1) ++ [k] := by
  induction m with
  | nil => simp [setG]
  | cons e m ih =>
    rw [setG]
    by_cases h : k = e.1
    · simp [h]
    · rw [if_neg h]
      simp only [List.map_cons, ih, List.mem_cons, h, false_or]
      split <;> simp
theorem lookG_set (k : GRun) (v : Int) (m : RMemo) : lookG k (setG k v m) = some v := by
  induction m with
  | nil => simp [setG, lookG]
  | cons e m ih =>
    rw [setG]
    by_cases h : k = e.1
    · rw [if_pos h, lookG, if_pos h]
    · rw [if_neg h, lookG, if_neg h, ih]
theorem setG_mem {k : GRun} {v : Int} {m : RMemo} {e : GRun × Int} (h : e ∈ setG k v m) : e = (k, v) ∨ e ∈ m := by
  induction m with
  | nil => simp [setG] at h; exact .inl h
  | cons x m ih =>
    simp only [setG] at h
    split at h
    · rename_i hk
      rcases List.mem_cons.1 h with h | h
      · exact .inl (by rw [h, hk])
      · exact .inr (List.mem_cons_of_mem _ h)
    · rcases List.mem_cons.1 h with h | h
      · exact .inr (by rw [h]; simp)
      · exact (ih h).imp id (List.mem_cons_of_mem _)
theorem lookG_mem {k : GRun} {m : RMemo} {v : Int} (h : lookG k m = some v) : (k, v) ∈ m := by
  induction m with
  | nil => cases h
  | cons e m ih =>
    simp only [lookG] at h
    split at h
    · rename_i he; simp at h; subst he h; simp
    · exact List.mem_cons_of_mem _ (ih h)
/-- What Holds returns. -/
def GCode.holdsD (c : GCode) : D := match c.bfsR with
  | none => .tup [.bool true, .agg [.int .i64 0, .list true []], .int .i64 0]
  | some (s, d) => .tup [.bool false, .agg [.int .i64 s, .list false (ints d)], .int .i64 0]
theorem breach_len {c : GCode} (h : c.ok = true) {s : Int} {d : List Int} (hb : BfsOk c (some (s, d))) : d.length ≤ 14 := by
  obtain ⟨h1, h2, h3, h4, h5⟩ := hb
  have hbr : c.Brk d.length := ⟨s, d, h1, rfl, h2, h3⟩
  have := brk_14 h hbr
  by_cases hx : d.length ≤ 14
  · exact hx
  · exact absurd (brk_mono h this (d.length - 1) (by omega)) h5
end Go.Pw
end
section
namespace Go.Pw
set_option linter.unusedVariables false
def GCode.bitsM (c : GCode) (r : GRun) (w : Int) : List Int := (if r.2.2 then [1] else []) ++ (List.replicate r.2.1.toNat 0 ++ bitsOf c.out.toNat (c.wrd r.1 w))
theorem sB_bitsM {c : GCode} {r : GRun} (h : 0 ≤ r.2.1 ∧ r.2.1 ≤ c.most) (w : Int) : sB c.least c.most (c.bitsM r w) 0 false = sB c.least c.most (bitsOf c.out.toNat (c.wrd r.1 w)) r.2.1 r.2.2 := by
  unfold GCode.bitsM
  have hz : ((r.2.1.toNat : Nat) : Int) = r.2.1 := by omega
  have key : ∀ o, sB c.least c.most (List.replicate r.2.1.toNat 0 ++ bitsOf c.out.toNat (c.wrd r.1 w)) 0 o = sB c.least c.most (bitsOf c.out.toNat (c.wrd r.1 w)) r.2.1 o := fun o => by
    rw [sB_app, sB_zeros _ 0 (by omega)]
    simp only [hz, Int.zero_add]
  cases ho : r.2.2 with
  | true =>
    simp only [if_true, List.singleton_append]
    rw [sB, if_neg (by decide), if_neg (by simp), key]
  | false =>
    simp only [Bool.false_eq_true, if_false, List.nil_append]
    rw [key]
theorem keeps_bitsM {c : GCode} {r : GRun} (h : 0 ≤ r.2.1 ∧ r.2.1 ≤ c.most) (w : Int) : c.keeps (c.bitsM r w) = (c.stp r w).isSome := by
  unfold GCode.keeps GCode.stp
  rw [sB_bitsM h]
  cases sB c.least c.most (bitsOf c.out.toNat (c.wrd r.1 w)) r.2.1 r.2.2 <;> rfl
def scanB : List Int → Int → Bool → Int × Bool
  | [], z, o => (z, o)
  | b :: l, z, o => if b = 1 then scanB l 0 true else scanB l (z + 1) o
theorem scanB_sB {a m : Int} : ∀ {l : List Int} {z : Int} {o : Bool} {q : Int × Bool}, (∀ b, b ∈ l → b = 0 ∨ b = 1) → sB a m l z o = some q → scanB l z o = q
  | [], z, o, q, _, h => by rw [sB] at h; cases h; rfl
  | b :: l, z, o, q, hb, h => by
    rw [sB] at h
    rw [scanB]
    rcases hb b (by simp) with e | e
    · subst e
      rw [if_pos rfl] at h
      rw [if_neg (by decide)]
      split at h
      · cases h
      · exact scanB_sB (fun x hx => hb x (by simp [hx])) h
    · subst e
      rw [if_neg (by decide)] at h
      rw [if_pos rfl]
      split at h
      · cases h
      · exact scanB_sB (fun x hx => hb x (by simp [hx])) h
theorem bitsOf_01 (n : Nat) (w : Int) : ∀ b, b ∈ bitsOf n w → b = 0 ∨ b = 1 := by
  induction n with
  | zero => intro b hb; cases hb
  | succ n ih =>
    intro b hb
    rw [bitsOf] at hb
    rcases List.mem_cons.1 hb with e | e
    · have h1 := Int.emod_nonneg (w / 2 ^ n) (show (2 : Int) ≠ 0 by decide)
      have h2 := Int.emod_lt_of_pos (w / 2 ^ n) (show (0 : Int) < 2 by decide)
      omega
    · exact ih b e
theorem bitsM_01 (c : GCode) (r : GRun) (w : Int) : ∀ b, b ∈ c.bitsM r w → b = 0 ∨ b = 1 := by
  intro b hb
  unfold GCode.bitsM at hb
  rcases List.mem_append.1 hb with e | e
  · split at e
    · exact .inr (List.mem_singleton.1 e)
    · cases e
  · rcases List.mem_append.1 e with e2 | e2
    · exact .inl (List.eq_of_mem_replicate e2)
    · exact bitsOf_01 _ _ b e2
theorem scan_stp {c : GCode} {r q : GRun} {w : Int} (h : 0 ≤ r.2.1 ∧ r.2.1 ≤ c.most) (hs : c.stp r w = some q) : (c.nxt r.1 w, (scanB (c.bitsM r w) 0 false).1, (scanB (c.bitsM r w) 0 false).2) = q := by
  unfold GCode.stp at hs
  rw [Option.map_eq_some_iff] at hs
  obtain ⟨p, h1, rfl⟩ := hs
  rw [← sB_bitsM h] at h1
  rw [scanB_sB (bitsM_01 c r w) h1]
end Go.Pw
end
section
open Go Go.Pw Go.Proofs
namespace Go.Pw
set_option linter.unusedSimpArgs false
set_option linter.unusedVariables false
set_option maxRecDepth 100000
set_option maxHeartbeats 1600000
theorem fB_0 {a m : Int} {l : List Int} {z : Int} {o : Bool} : fB a m (0 :: l) z o = if m < z + 1 then ((z + 1, o), false) else fB a m l (z + 1) o := by rw [fB, if_pos rfl]
theorem fB_1 {a m : Int} {l : List Int} {z : Int} {o : Bool} : fB a m (1 :: l) z o = if o = true ∧ z < a then ((z, o), false) else fB a m l 0 true := by rw [fB, if_neg (by decide)]
theorem sB_0 {a m : Int} {l : List Int} {z : Int} {o : Bool} : sB a m (0 :: l) z o = if m < z + 1 then none else sB a m l (z + 1) o := by rw [sB, if_pos rfl]
theorem sB_1 {a m : Int} {l : List Int} {z : Int} {o : Bool} : sB a m (1 :: l) z o = if o = true ∧ z < a then none else sB a m l 0 true := by rw [sB, if_neg (by decide)]
theorem drop_next {l : List Int} {i : Int} (h0 : 0 ≤ i) (h : i < l.length) : l.drop i.toNat = (l[i.toNat]?.getD 0) :: l.drop (i + 1).toNat := by
  rw [show (i + 1).toNat = i.toNat + 1 by omega]; exact drop_get (by omega)
theorem stepR_F {c : GCode} {r : GRun} {w : Int} {F : (Int × Bool) × Bool} (h : fB c.least c.most (bitsOf c.out.toNat (c.wrd r.1 w)) r.2.1 r.2.2 = F) : c.stepR r w = if F.2 then ((c.nxt r.1 w, F.1.1, F.1.2), true) else ((r.1, F.1.1, F.1.2), false) := by
  unfold GCode.stepR; rw [h]
attribute [local congr] cg_pw cg_seqI cg_seqE cg_stepI cg_ev cg_evBin cg_condB cg_condV cg_thenQ cg_blockQ cg_onSome cg_onCells cg_onRow cg_onMap cg_onOpt cg_ghosts cg_ghost cg_evCall cg_part cg_rng cg_guardV cg_frzV cg_frpV cg_ownV cg_owcV cg_occV cg_occX cg_resK cg_res1 cg_yldP cg_rndE cg_onlyN cg_onHist
attribute [local irreducible] IntKind.wrap bitsOp Option.getD and or

theorem codes_code_step_ret (c : GCode) (h : c.ok = true) (r : GRun) (hr : c.RunOk r) (w : Int) (hw : c.isWord w = true) : Ret E0 F_codes_code_step [codeD c, runD r, .int .i64 w] (.tup [runD (c.stepR r w).1, .bool (c.stepR r w).2]) := by
  refine ret_of_pw dec_codes_code_step mixed (by simp) fun hwf => ?_
  have hd := GCode.ok_head h
  obtain ⟨rs, rz, ro⟩ := r
  obtain ⟨r1, r2, r3⟩ := hr
  simp only at r1 r2 r3
  have cb := codes_code_bits_ret c rs w h r1 hw
  have hx01 := bitsOf_01 c.out.toNat (c.wrd rs w)
  have hxl := bitsOf_length c.out.toNat (c.wrd rs w)
  obtain ⟨F, hF⟩ : ∃ F, fB c.least c.most (bitsOf c.out.toNat (c.wrd rs w)) rz ro = F := ⟨_, rfl⟩
  have hst := stepR_F (r := (rs, rz, ro)) (w := w) hF
  rw [hst]
  simp only at hst ⊢
  have h12 := pow_12 (b := c.bits) (by omega)
  have hrow := GCode.ok_next h rs.toNat (by simp only [GCode.isState, inR, decide_eq_true_eq] at r1; omega)
  have hs' := r1
  simp only [GCode.isState, inR, decide_eq_true_eq] at hs'
  have hw' := hw
  simp only [GCode.isWord, inR, decide_eq_true_eq] at hw'
  obtain ⟨N, hN⟩ : ∃ N, c.nxt rs w = N := ⟨_, rfl⟩
  rw [hN]
  generalize bitsOf c.out.toNat (c.wrd rs w) = xs at *
  rw [enter_eq]; unfold pc_codes_code_step
  (try (simp -implicitDefEqProofs only [go_sem, codeD_eq, codeC_eq, runD_eq, runC_eq])); repeat' first | with_reducible exact True.intro | with_reducible refine And.intro ?_ ?_ | with_reducible intro _ | (((with_reducible refine isCall ?_); first | refine call_b (cb) rfl ?_ ?_ | refine call_d (cb) rfl ?_ | refine call_sb (cb) rfl ?_ ?_ | refine call_s (cb) rfl rfl ?_) <;> try (simp -implicitDefEqProofs only [go_sem, codeD_eq, codeC_eq, runD_eq, runC_eq])) | (((with_reducible refine vc_b ?_ ?_) <;> intro _) <;> try (simp -implicitDefEqProofs only [go_sem, codeD_eq, codeC_eq, runD_eq, runC_eq])) | simp (disch := omega) only [wrapI, wrapU, shl1, shl1', shl1'', shrN, shrN', and_one] | ((with_reducible refine isEx3 ?_); refine ⟨(_, _, _), rfl, ?_, ?_⟩)
  all_goals first | omega | (simp; done) | (simp; omega) | skip
  refine pw_loopS (α := Int × Int × Bool) (l0 := ?l1) (m0 := ?m1) (fun x => [(16, .d (.int .i64 x.1))]) (fun x => [(4, .cells [.d (.int .i64 rs), .d (.int .i64 x.2.1), .d (.bool x.2.2)])]) (fun x => (0 ≤ x.1 ∧ x.1 ≤ xs.length) ∧ (0 ≤ x.2.1 ∧ x.2.1 ≤ c.most) ∧ fB c.least c.most (xs.drop x.1.toNat) x.2.1 x.2.2 = F) (fun x => (xs.length - x.1).toNat) (?a1_0, ?a1_1, ?a1_2) ?h01 ?he1 ?he21 ?hI1 ?step1
  case h01 => (simp -implicitDefEqProofs only [go_sem]; rfl)
  case he1 => rfl
  case he21 => rfl
  case' step1 => (rintro ⟨i, z, o⟩ hI; try dsimp only at hI)
  case' hI1 => try dsimp only
  · exact ⟨⟨by omega, by omega⟩, ⟨r2, r3⟩, hF⟩
  · obtain ⟨⟨q1, q2⟩, ⟨q3, q4⟩, q5⟩ := hI
    by_cases hi : i < xs.length
    · have w1 : IntKind.i64.wrap (i + 1) = i + 1 := wrapI _ (by omega)
      have w2 : IntKind.i64.wrap (z + 1) = z + 1 := wrapI _ (by omega)
      rw [drop_next q1 hi] at q5
      have hb := hx01 _ (getD_mem0 (l := xs) (i := i.toNat) (by omega))
      obtain ⟨b, hbb⟩ : ∃ b, xs[i.toNat]?.getD 0 = b := ⟨_, rfl⟩
      rw [hbb] at q5 hb
      rcases hb with rfl | rfl
      · rw [fB_0] at q5
        by_cases hm : c.most < z + 1
        · rw [if_pos hm] at q5
          subst q5
          (try (simp -implicitDefEqProofs only [go_sem, codeD_eq, codeC_eq, runD_eq, runC_eq, hbb, hi, q1, w1, w2, hm])); repeat' first | with_reducible exact True.intro | with_reducible refine And.intro ?_ ?_ | with_reducible intro _ | (((with_reducible refine vc_b ?_ ?_) <;> intro _) <;> try (simp -implicitDefEqProofs only [go_sem, codeD_eq, codeC_eq, runD_eq, runC_eq, hbb, hi, q1, w1, w2, hm])) | simp (disch := omega) only [wrapI, wrapU, shl1, shl1', shl1'', shrN, shrN', and_one] | ((with_reducible refine isEx3 ?_); refine ⟨(_, _, _), rfl, ?_, ?_⟩)
          all_goals first | omega | rfl | (simp; done) | trace_state
        · rw [if_neg hm] at q5
          (try (simp -implicitDefEqProofs only [go_sem, codeD_eq, codeC_eq, runD_eq, runC_eq, hbb, hi, q1, w1, w2, hm])); repeat' first | with_reducible exact True.intro | with_reducible refine And.intro ?_ ?_ | with_reducible intro _ | (((with_reducible refine vc_b ?_ ?_) <;> intro _) <;> try (simp -implicitDefEqProofs only [go_sem, codeD_eq, codeC_eq, runD_eq, runC_eq, hbb, hi, q1, w1, w2, hm])) | simp (disch := omega) only [wrapI, wrapU, shl1, shl1', shl1'', shrN, shrN', and_one] | ((with_reducible refine isEx3 ?_); refine ⟨(_, _, _), rfl, ?_, ?_⟩)
          all_goals first | omega | rfl | exact q5 | (simp; done) | trace_state
      · rw [fB_1] at q5
        have hm : ¬ c.most < z := by omega
        by_cases ho : o = true
        · subst ho
          by_cases hl : z < c.least
          · rw [if_pos ⟨rfl, hl⟩] at q5
            subst q5
            (try (simp -implicitDefEqProofs only [go_sem, codeD_eq, codeC_eq, runD_eq, runC_eq, hbb, hi, q1, w1, w2, hm, hl])); repeat' first | with_reducible exact True.intro | with_reducible refine And.intro ?_ ?_ | with_reducible intro _ | (((with_reducible refine vc_b ?_ ?_) <;> intro _) <;> try (simp -implicitDefEqProofs only [go_sem, codeD_eq, codeC_eq, runD_eq, runC_eq, hbb, hi, q1, w1, w2, hm, hl])) | simp (disch := omega) only [wrapI, wrapU, shl1, shl1', shl1'', shrN, shrN', and_one] | ((with_reducible refine isEx3 ?_); refine ⟨(_, _, _), rfl, ?_, ?_⟩)
            all_goals first | omega | rfl | (simp; done) | trace_state
          · rw [if_neg (fun hh => hl hh.2)] at q5
            (try (simp -implicitDefEqProofs only [go_sem, codeD_eq, codeC_eq, runD_eq, runC_eq, hbb, hi, q1, w1, w2, hm, hl])); repeat' first | with_reducible exact True.intro | with_reducible refine And.intro ?_ ?_ | with_reducible intro _ | (((with_reducible refine vc_b ?_ ?_) <;> intro _) <;> try (simp -implicitDefEqProofs only [go_sem, codeD_eq, codeC_eq, runD_eq, runC_eq, hbb, hi, q1, w1, w2, hm, hl])) | simp (disch := omega) only [wrapI, wrapU, shl1, shl1', shl1'', shrN, shrN', and_one] | ((with_reducible refine isEx3 ?_); refine ⟨(_, _, _), rfl, ?_, ?_⟩)
            all_goals first | omega | rfl | exact q5 | (simp; done) | trace_state
        · have ho' : o = false := by cases o with | true => exact absurd rfl ho | false => rfl
          subst ho'
          rw [if_neg (fun hh => ho hh.1)] at q5
          (try (simp -implicitDefEqProofs only [go_sem, codeD_eq, codeC_eq, runD_eq, runC_eq, hbb, hi, q1, w1, w2, hm])); repeat' first | with_reducible exact True.intro | with_reducible refine And.intro ?_ ?_ | with_reducible intro _ | (((with_reducible refine vc_b ?_ ?_) <;> intro _) <;> try (simp -implicitDefEqProofs only [go_sem, codeD_eq, codeC_eq, runD_eq, runC_eq, hbb, hi, q1, w1, w2, hm])) | simp (disch := omega) only [wrapI, wrapU, shl1, shl1', shl1'', shrN, shrN', and_one] | ((with_reducible refine isEx3 ?_); refine ⟨(_, _, _), rfl, ?_, ?_⟩)
          all_goals first | omega | rfl | exact q5 | (simp; done) | trace_state
    · rw [List.drop_eq_nil_of_le (by omega), fB] at q5
      subst q5
      have s1 : rs < c.next.length := by omega
      have s2 : rs.toNat < c.next.length := by omega
      have s3 := hs'.1
      have hnc : ((2 ^ c.bits.toNat : Nat) : Int) = 2 ^ c.bits.toNat := by simp
      have s4 : w < ((c.next[rs.toNat]?.getD default).2.length : Int) := by rw [hrow.1]; omega
      have s5 := hw'.1
      have hN' : (c.next[rs.toNat]?.getD default).2[w.toNat]?.getD 0 = N := hN
      have s6 : w.toNat < (c.next[rs.toNat]?.getD default).2.length := by omega
      (try (simp -implicitDefEqProofs only [go_sem, codeD_eq, codeC_eq, rowsD_eq, rowD_eq, runD_eq, runC_eq, hi, s1, s2, s3, s4, s5, s6, hN'])); repeat' first | with_reducible exact True.intro | with_reducible refine And.intro ?_ ?_ | with_reducible intro _ | (((with_reducible refine vc_b ?_ ?_) <;> intro _) <;> try (simp -implicitDefEqProofs only [go_sem, codeD_eq, codeC_eq, rowsD_eq, rowD_eq, runD_eq, runC_eq, hi, s1, s2, s3, s4, s5, s6, hN'])) | simp (disch := omega) only [wrapI, wrapU, shl1, shl1', shl1'', shrN, shrN', and_one] | ((with_reducible refine isEx3 ?_); refine ⟨(_, _, _), rfl, ?_, ?_⟩)
      all_goals first | omega | rfl | (simp; done) | trace_state

theorem ref04_Keeps_ret (c : GCode) (h : 0 ≤ c.most ∧ c.most ≤ 12) (nl : Bool) (xs : List Int) (hx : ∀ b, b ∈ xs → b = 0 ∨ b = 1) : Ret E0 F_ref04_Keeps [codeD c, .list nl (ints xs)] (.bool (c.keeps xs)) := by
  refine ret_of_pw dec_ref04_Keeps mixed (by simp) fun hwf => ?_
  simp only [wf_int, wf_bool, wf_ints, wf_list, wf_agg, wf_ptr, wf_fn, wf_tup, wf_all_cons, wf_all_nil, wf_all_map, inK_i64, maxLen_eq, List.length_map, ints_len, true_and, and_true] at hwf
  obtain ⟨K, hK⟩ : ∃ K, c.keeps xs = K := ⟨_, rfl⟩
  rw [hK]
  unfold GCode.keeps at hK
  rw [enter_eq]; unfold pc_ref04_Keeps
  (try (simp -implicitDefEqProofs only [go_sem, codeD_eq, codeC_eq])); repeat' first | with_reducible exact True.intro | with_reducible refine And.intro ?_ ?_ | with_reducible intro _ | (((with_reducible refine vc_b ?_ ?_) <;> intro _) <;> try (simp -implicitDefEqProofs only [go_sem, codeD_eq, codeC_eq])) | simp (disch := omega) only [wrapI, wrapU, shl1, shl1', shl1'', shrN, shrN', and_one] | ((with_reducible refine isEx3 ?_); refine ⟨(_, _, _), rfl, ?_, ?_⟩)
  all_goals first | omega | (simp; done) | (simp; omega) | skip
  refine pw_loopS (α := Int × Int × Bool) (l0 := ?l2) (m0 := ?m2) (fun x => [(7, .d (.int .i64 x.1)), (5, .d (.int .i64 x.2.1)), (6, .d (.bool x.2.2))]) (fun x => []) (fun x => (0 ≤ x.1 ∧ x.1 ≤ xs.length) ∧ (0 ≤ x.2.1 ∧ x.2.1 ≤ c.most) ∧ (sB c.least c.most (xs.drop x.1.toNat) x.2.1 x.2.2).isSome = K) (fun x => (xs.length - x.1).toNat) (?a2_0, ?a2_1, ?a2_2) ?h02 ?he2 ?he22 ?hI2 ?step2
  case h02 => (simp -implicitDefEqProofs only [go_sem]; rfl)
  case he2 => rfl
  case he22 => rfl
  case' step2 => (rintro ⟨i, z, o⟩ hI; try dsimp only at hI)
  case' hI2 => try dsimp only
  · exact ⟨⟨by omega, by omega⟩, ⟨by omega, by omega⟩, hK⟩
  · obtain ⟨⟨q1, q2⟩, ⟨q3, q4⟩, q5⟩ := hI
    by_cases hi : i < xs.length
    · have w1 : IntKind.i64.wrap (i + 1) = i + 1 := wrapI _ (by omega)
      have w2 : IntKind.i64.wrap (z + 1) = z + 1 := wrapI _ (by omega)
      rw [drop_next q1 hi] at q5
      have hb := hx _ (getD_mem0 (l := xs) (i := i.toNat) (by omega))
      obtain ⟨b, hbb⟩ : ∃ b, xs[i.toNat]?.getD 0 = b := ⟨_, rfl⟩
      rw [hbb] at q5 hb
      rcases hb with rfl | rfl
      · rw [sB_0] at q5
        by_cases hm : c.most < z + 1
        · rw [if_pos hm] at q5
          subst q5
          (try (simp -implicitDefEqProofs only [go_sem, codeD_eq, codeC_eq, hbb, hi, q1, w1, w2, hm])); repeat' first | with_reducible exact True.intro | with_reducible refine And.intro ?_ ?_ | with_reducible intro _ | (((with_reducible refine vc_b ?_ ?_) <;> intro _) <;> try (simp -implicitDefEqProofs only [go_sem, codeD_eq, codeC_eq, hbb, hi, q1, w1, w2, hm])) | simp (disch := omega) only [wrapI, wrapU, shl1, shl1', shl1'', shrN, shrN', and_one] | ((with_reducible refine isEx3 ?_); refine ⟨(_, _, _), rfl, ?_, ?_⟩)
          all_goals first | omega | rfl | (simp; done) | trace_state
        · rw [if_neg hm] at q5
          (try (simp -implicitDefEqProofs only [go_sem, codeD_eq, codeC_eq, hbb, hi, q1, w1, w2, hm])); repeat' first | with_reducible exact True.intro | with_reducible refine And.intro ?_ ?_ | with_reducible intro _ | (((with_reducible refine vc_b ?_ ?_) <;> intro _) <;> try (simp -implicitDefEqProofs only [go_sem, codeD_eq, codeC_eq, hbb, hi, q1, w1, w2, hm])) | simp (disch := omega) only [wrapI, wrapU, shl1, shl1', shl1'', shrN, shrN', and_one] | ((with_reducible refine isEx3 ?_); refine ⟨(_, _, _), rfl, ?_, ?_⟩)
          all_goals first | omega | rfl | exact q5 | (simp; done) | trace_state
      · rw [sB_1] at q5
        by_cases ho : o = true
        · subst ho
          by_cases hl : z < c.least
          · rw [if_pos ⟨rfl, hl⟩] at q5
            subst q5
            (try (simp -implicitDefEqProofs only [go_sem, codeD_eq, codeC_eq, hbb, hi, q1, w1, w2, hl])); repeat' first | with_reducible exact True.intro | with_reducible refine And.intro ?_ ?_ | with_reducible intro _ | (((with_reducible refine vc_b ?_ ?_) <;> intro _) <;> try (simp -implicitDefEqProofs only [go_sem, codeD_eq, codeC_eq, hbb, hi, q1, w1, w2, hl])) | simp (disch := omega) only [wrapI, wrapU, shl1, shl1', shl1'', shrN, shrN', and_one] | ((with_reducible refine isEx3 ?_); refine ⟨(_, _, _), rfl, ?_, ?_⟩)
            all_goals first | omega | rfl | (simp; done) | trace_state
          · rw [if_neg (fun hh => hl hh.2)] at q5
            (try (simp -implicitDefEqProofs only [go_sem, codeD_eq, codeC_eq, hbb, hi, q1, w1, w2, hl])); repeat' first | with_reducible exact True.intro | with_reducible refine And.intro ?_ ?_ | with_reducible intro _ | (((with_reducible refine vc_b ?_ ?_) <;> intro _) <;> try (simp -implicitDefEqProofs only [go_sem, codeD_eq, codeC_eq, hbb, hi, q1, w1, w2, hl])) | simp (disch := omega) only [wrapI, wrapU, shl1, shl1', shl1'', shrN, shrN', and_one] | ((with_reducible refine isEx3 ?_); refine ⟨(_, _, _), rfl, ?_, ?_⟩)
            all_goals first | omega | rfl | exact q5 | (simp; done) | trace_state
        · have ho' : o = false := by cases o with | true => exact absurd rfl ho | false => rfl
          subst ho'
          rw [if_neg (fun hh => ho hh.1)] at q5
          (try (simp -implicitDefEqProofs only [go_sem, codeD_eq, codeC_eq, hbb, hi, q1, w1, w2])); repeat' first | with_reducible exact True.intro | with_reducible refine And.intro ?_ ?_ | with_reducible intro _ | (((with_reducible refine vc_b ?_ ?_) <;> intro _) <;> try (simp -implicitDefEqProofs only [go_sem, codeD_eq, codeC_eq, hbb, hi, q1, w1, w2])) | simp (disch := omega) only [wrapI, wrapU, shl1, shl1', shl1'', shrN, shrN', and_one] | ((with_reducible refine isEx3 ?_); refine ⟨(_, _, _), rfl, ?_, ?_⟩)
          all_goals first | omega | rfl | exact q5 | (simp; done) | trace_state
    · rw [List.drop_eq_nil_of_le (by omega), sB] at q5
      subst q5
      (try (simp -implicitDefEqProofs only [go_sem, codeD_eq, codeC_eq, hi])); repeat' first | with_reducible exact True.intro | with_reducible refine And.intro ?_ ?_ | with_reducible intro _ | (((with_reducible refine vc_b ?_ ?_) <;> intro _) <;> try (simp -implicitDefEqProofs only [go_sem, codeD_eq, codeC_eq, hi])) | simp (disch := omega) only [wrapI, wrapU, shl1, shl1', shl1'', shrN, shrN', and_one] | ((with_reducible refine isEx3 ?_); refine ⟨(_, _, _), rfl, ?_, ?_⟩)
      all_goals first | omega | rfl | trace_state
end Go.Pw
end
