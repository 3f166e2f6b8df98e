/- A part of the proof. -/
import Derived.Test.YtgeodifpcminpaaCodesMa
set_option linter.all false
open Go Go.Pw Go.Proofs
namespace Go.Pw
set_option linter.unusedSimpArgs false
set_option linter.unusedVariables false
set_option maxRecDepth 100000
set_option maxHeartbeats 1600000

/-! What the specification's Apart finds. -/
def itr (st : Int → Int → Int) : Nat → Int → Int → Int
  | 0, _, l => l
  | k + 1, i, l => itr st k (i + 1) (st i l)
theorem itr_le {st : Int → Int → Int} {P : Int → Int → Prop} (h : ∀ i l x, x ≤ st i l ↔ x ≤ l ∧ P i x) : ∀ (n : Nat) (i l x : Int), x ≤ itr st n i l ↔ x ≤ l ∧ ∀ j, i ≤ j → j < i + n → P j x
  | 0, i, l, x => by
    simp only [itr]
    exact ⟨fun h => ⟨h, fun j h1 h2 => by omega⟩, fun h => h.1⟩
  | n + 1, i, l, x => by
    simp only [itr]
    rw [itr_le h n, h]
    constructor
    · rintro ⟨⟨h1, h2⟩, h3⟩
      refine ⟨h1, fun j h4 h5 => ?_⟩
      by_cases hj : j = i
      · subst hj; exact h2
      · exact h3 j (by omega) (by omega)
    · rintro ⟨h1, h2⟩
      exact ⟨⟨h1, h2 i (by omega) (by omega)⟩, fun j h4 h5 => h2 j (by omega) (by omega)⟩
theorem itr_bound {st : Int → Int → Int} {b : Int} (h : ∀ i l, 0 ≤ l ∧ l ≤ b → 0 ≤ st i l ∧ st i l ≤ b) : ∀ (n : Nat) (i l : Int), 0 ≤ l ∧ l ≤ b → 0 ≤ itr st n i l ∧ itr st n i l ≤ b
  | 0, _, _, hl => hl
  | n + 1, i, l, hl => by simp only [itr]; exact itr_bound h n _ _ (h i l hl)
theorem itr_step (st : Int → Int → Int) (n : Nat) {i : Int} (l : Int) (h0 : 0 ≤ i) (h : i < n) : itr st (n - i.toNat) i l = itr st (n - (i + 1).toNat) (i + 1) (st i l) := by
  rw [show n - i.toNat = (n - (i + 1).toNat) + 1 by omega, itr]
theorem itr_end (st : Int → Int → Int) (n : Nat) {i : Int} (l : Int) (h0 : 0 ≤ i) (h : ¬ i < n) : itr st (n - i.toNat) i l = l := by
  rw [show n - i.toNat = 0 by omega, itr]

def GCode.raT (c : GCode) (mark : List Int) (s w f : Int) : Int :=
  dist (mark.take (min mark.length ((bitsOf c.out.toNat (c.wrd s w)).drop f.toNat).length)) ((bitsOf c.out.toNat (c.wrd s w)).drop f.toNat) + c.apR (c.nxt s w) (mark.drop (min mark.length ((bitsOf c.out.toNat (c.wrd s w)).drop f.toNat).length))
def GCode.raS (c : GCode) (mark : List Int) (s w : Int) : Nat → Int → Int → Int := itr fun f l => min l (c.raT mark s w f)
def GCode.raW (c : GCode) (mark : List Int) (s : Int) : Nat → Int → Int → Int := itr fun w l => c.raS mark s w c.out.toNat 0 l
def GCode.raA (c : GCode) (mark : List Int) : Nat → Int → Int → Int := itr fun s l => c.raW mark s c.W 0 l

theorem min_le_iff (a b x : Int) : x ≤ min a b ↔ x ≤ a ∧ x ≤ b := by omega
theorem raS_le (c : GCode) (mark : List Int) (s w : Int) (n : Nat) (f l x : Int) : x ≤ c.raS mark s w n f l ↔ x ≤ l ∧ ∀ f', f ≤ f' → f' < f + n → x ≤ c.raT mark s w f' :=
  itr_le (P := fun f x => x ≤ c.raT mark s w f) (fun i l x => min_le_iff _ _ _) n f l x
theorem raW_le (c : GCode) (mark : List Int) (s : Int) (n : Nat) (w l x : Int) : x ≤ c.raW mark s n w l ↔ x ≤ l ∧ ∀ w', w ≤ w' → w' < w + n → ∀ f, 0 ≤ f → f < 0 + (c.out.toNat : Int) → x ≤ c.raT mark s w' f :=
  itr_le (P := fun w x => ∀ f, 0 ≤ f → f < 0 + (c.out.toNat : Int) → x ≤ c.raT mark s w f) (fun i l x => raS_le c mark s i c.out.toNat 0 l x) n w l x
theorem raA_le (c : GCode) (mark : List Int) (n : Nat) (s l x : Int) : x ≤ c.raA mark n s l ↔ x ≤ l ∧ ∀ s', s ≤ s' → s' < s + n → ∀ w, 0 ≤ w → w < 0 + (c.W : Int) → ∀ f, 0 ≤ f → f < 0 + (c.out.toNat : Int) → x ≤ c.raT mark s' w f :=
  itr_le (P := fun s x => ∀ w, 0 ≤ w → w < 0 + (c.W : Int) → ∀ f, 0 ≤ f → f < 0 + (c.out.toNat : Int) → x ≤ c.raT mark s w f) (fun i l x => raW_le c mark i c.W 0 l x) n s l x
theorem apPW_iff (c : GCode) {s f : Int} {mark : List Int} : ∀ (n : Nat) (w l x : Int), x ≤ c.apPW c.apR s f mark n w l ↔ x ≤ l ∧ ∀ w', w ≤ w' → w' < w + n → x ≤ c.raT mark s w' f
  | 0, w, l, x => by
    simp only [GCode.apPW]
    exact ⟨fun h => ⟨h, fun j h1 h2 => by omega⟩, fun h => h.1⟩
  | n + 1, w, l, x => by
    simp only [GCode.apPW]
    rw [apPW_iff c n, min_le_iff]
    constructor
    · rintro ⟨⟨h1, h2⟩, h3⟩
      refine ⟨h1, fun j h4 h5 => ?_⟩
      by_cases hj : j = w
      · subst hj; exact h2
      · exact h3 j (by omega) (by omega)
    · rintro ⟨h1, h2⟩
      exact ⟨⟨h1, h2 w (by omega) (by omega)⟩, fun j h4 h5 => h2 j (by omega) (by omega)⟩
theorem apP_iff (c : GCode) {mk : List Int} (hm : mk ≠ []) (hl : mk.length ≤ 16) {s f : Int} (hf : f.toNat < c.out.toNat) (x : Int) : x ≤ c.apP 16 s f mk ↔ x ≤ 16 ∧ ∀ w, 0 ≤ w → w < 0 + (c.W : Int) → x ≤ c.raT mk s w f := by
  have e1 : c.apPW c.apR s f mk c.W 0 16 = c.apP 16 s f mk := by
    rw [show (16 : Nat) = 15 + 1 from rfl, GCode.apP, if_neg hm]
    refine apPW_congr c (fun s' k hk => ?_) hm hf _ _ _
    have hkl : (mk.drop k).length ≤ 15 := by simp; omega
    show c.apP 16 s' 0 (mk.drop k) = c.apP 15 s' 0 (mk.drop k)
    rw [apP_fuel c 16 s' 0 _ (by omega) (by simp; omega), apP_fuel c 15 s' 0 _ hkl (by simp; omega)]
  rw [← e1]; exact apPW_iff c _ _ _ _

theorem apFirst_ge (c : GCode) (ho : 1 ≤ c.out) {mark : List Int} (hl : mark.length ≤ 16) {s x : Int} : ∀ (n : Nat) (f least : Int) (m : Memo), 0 ≤ f → f + n ≤ c.out → c.MemGood mark m → x ≤ least → (∀ f', f ≤ f' → f' < f + n → x ≤ c.apP 16 s f' mark) →
    x ≤ (c.apFirst mark s n f least m).1
  | 0, f, least, m, _, _, hg, hx, _ => hx
  | n + 1, f, least, m, h0, h1, hg, hx, ha => by
    simp only [GCode.apFirst]
    obtain ⟨k1, k2⟩ := apM_eq c (M := mark) ho 16 s f mark m (by simp) (Nat.le_refl _) hl h0 (by omega) hg
    refine apFirst_ge c ho hl n (f + 1) _ _ (by omega) (by omega) k2 ?_ fun f' h2 h3 => ha f' (by omega) (by omega)
    rw [k1]; have := ha f (by omega) (by omega); omega
theorem apStates_ge (c : GCode) (ho : 1 ≤ c.out) {mark : List Int} (hl : mark.length ≤ 16) {x : Int} : ∀ (n : Nat) (s least : Int) (m : Memo), c.MemGood mark m → x ≤ least → (∀ s', s ≤ s' → s' < s + n → ∀ f, 0 ≤ f → f < c.out → x ≤ c.apP 16 s' f mark) →
    x ≤ (c.apStates mark n s least m).1
  | 0, s, least, m, hg, hx, _ => hx
  | n + 1, s, least, m, hg, hx, ha => by
    simp only [GCode.apStates]
    have k := apFirst_le c ho hl (s := s) c.out.toNat 0 least m (by omega) (by omega) hg
    refine apStates_ge c ho hl n (s + 1) _ _ k.1 ?_ fun s' h1 h2 => ha s' (by omega) (by omega)
    exact apFirst_ge c ho hl _ 0 least m (by omega) (by omega) hg hx fun f h1 h2 => ha s (by omega) (by omega) f h1 (by omega)
/-- Both find the same. -/
theorem raA_apart (c : GCode) (h : c.ok = true) {mark : List Int} (h1 : 1 ≤ mark.length) (hl : mark.length ≤ 16) : c.raA mark c.words.length 0 mark.length = c.apart mark := by
  have hd := GCode.ok_head h
  have hm : mark ≠ [] := by intro e; subst e; simp at h1
  apply Int.le_antisymm
  · have hr := (raA_le c mark c.words.length 0 mark.length _).1 (Int.le_refl _)
    refine apStates_ge c (by omega) hl c.words.length 0 16 [] (fun e he => by cases he) (by omega) fun s h3 h4 f h5 h6 => ?_
    exact (apP_iff c hm hl (by omega) _).2 ⟨by omega, fun w h7 h8 => hr.2 s h3 h4 w h7 h8 f h5 (by omega)⟩
  · refine (raA_le c mark c.words.length 0 mark.length _).2 ⟨apart_high c h hl, fun s h3 h4 w h5 h6 f h7 h8 => ?_⟩
    have := apart_le c h hl (s := s) (f := f) (by simp only [GCode.isState, inR, decide_eq_true_eq]; omega) h7 (by omega)
    exact ((apP_iff c hm hl (by omega) _).1 this).2 w h5 h6

def cpR (r : Bool × List Int) : Bool × List Int := (false, r.2)
def copyC (c : GCode) : GCode := ⟨c.bits, c.out, c.least, c.most, c.words.isEmpty, c.words.map cpR, c.next.isEmpty, c.next.map cpR⟩
theorem cp_get (l : Rows) (i : Nat) : ((l.map cpR)[i]?.getD default).2 = (l[i]?.getD default).2 := by
  rw [List.getElem?_map]; cases l[i]? <;> simp [cpR]
theorem head_congr (b o l m : Int) (wn nn wn' nn' : Bool) (w w' n n' : Rows) (hw : w'.length = w.length) (hn : n'.length = n.length) :
    GCode.head ⟨b, o, l, m, wn', w', nn', n'⟩ = GCode.head ⟨b, o, l, m, wn, w, nn, n⟩ := by
  simp only [GCode.head]; rw [hw, hn]
theorem copy_ok (c : GCode) : (copyC c).ok = c.ok := by
  have h : ∀ (n : Nat) (hi : Int) (l : Rows), (l.map cpR).all (rowOk n hi) = l.all (rowOk n hi) := by
    intro n hi l; rw [List.all_map]; rfl
  have hl : ∀ l : Rows, (l.map cpR).length = l.length := fun l => List.length_map ..
  have hh : (copyC c).head = c.head := head_congr _ _ _ _ _ _ _ _ _ _ _ _ (hl c.words) (hl c.next)
  simp only [GCode.ok, hh]; simp only [copyC, h, hl]
theorem copy_wrd (c : GCode) : (copyC c).wrd = c.wrd := by
  funext s w; simp only [GCode.wrd, at2, copyC, cp_get]
theorem copy_nxt (c : GCode) : (copyC c).nxt = c.nxt := by
  funext s w; simp only [GCode.nxt, at2, copyC, cp_get]
theorem copy_state (c : GCode) : (copyC c).isState = c.isState := by
  funext s; simp [GCode.isState, copyC]

theorem copy_W (c : GCode) : (copyC c).W = c.W := rfl
theorem copy_apPW (c : GCode) (r : Int → List Int → Int) (s f : Int) (mark : List Int) : ∀ (n : Nat) (w l : Int), (copyC c).apPW r s f mark n w l = c.apPW r s f mark n w l
  | 0, _, _ => rfl
  | n + 1, w, l => by
    simp only [GCode.apPW, copy_wrd, copy_nxt]
    rw [copy_apPW c r s f mark n]; rfl
theorem copy_apP (c : GCode) : ∀ (n : Nat) (s f : Int) (mark : List Int), (copyC c).apP n s f mark = c.apP n s f mark
  | 0, _, _, _ => rfl
  | n + 1, s, f, mark => by
    simp only [GCode.apP]
    have : (fun s' mk => (copyC c).apP n s' 0 mk) = fun s' mk => c.apP n s' 0 mk := by funext s' mk; exact copy_apP c n s' 0 mk
    rw [this, copy_apPW, copy_W]
theorem copy_raT (c : GCode) (mark : List Int) (s w f : Int) : (copyC c).raT mark s w f = c.raT mark s w f := by
  simp only [GCode.raT, GCode.apR, copy_wrd, copy_nxt, copy_apP]; rfl
theorem copy_raA (c : GCode) (mark : List Int) : (copyC c).raA mark = c.raA mark := by
  have h1 : ∀ s w, (copyC c).raS mark s w = c.raS mark s w := fun s w => by unfold GCode.raS; simp only [copy_raT]
  have h2 : ∀ s, (copyC c).raW mark s = c.raW mark s := fun s => by unfold GCode.raW; simp only [h1]; rfl
  unfold GCode.raA; simp only [h2]; rfl
theorem copy_apart (c : GCode) (mark : List Int) : (copyC c).apartR mark = c.apartR mark := by
  simp only [GCode.apartR, copy_ok]
  by_cases h : c.ok = true
  · by_cases hm : isMarkB mark = true
    · have hm1 : 1 ≤ mark.length ∧ mark.length ≤ 16 := by simp [isMarkB, inR] at hm; omega
      rw [← raA_apart c h hm1.1 hm1.2, ← raA_apart (copyC c) ((copy_ok c).trans h) hm1.1 hm1.2, copy_raA]
      have : (copyC c).words.length = c.words.length := by simp [copyC]
      rw [this]
    · simp [hm]
  · simp [h]

theorem raT_pos (c : GCode) (mark : List Int) (s w f : Int) : 0 ≤ c.raT mark s w f := by
  have h1 := apP_pos c 16 (c.nxt s w) 0 (mark.drop (min mark.length ((bitsOf c.out.toNat (c.wrd s w)).drop f.toNat).length))
  have h2 := dist_bound (mark.take (min mark.length ((bitsOf c.out.toNat (c.wrd s w)).drop f.toNat).length)) ((bitsOf c.out.toNat (c.wrd s w)).drop f.toNat)
  simp only [GCode.raT, GCode.apR]; omega
theorem raS_bound (c : GCode) (mark : List Int) (s w : Int) {b : Int} (n : Nat) (f l : Int) (h : 0 ≤ l ∧ l ≤ b) : 0 ≤ c.raS mark s w n f l ∧ c.raS mark s w n f l ≤ b :=
  itr_bound (fun i l h => by
    have := raT_pos c mark s w i
    omega) n f l h
theorem raW_bound (c : GCode) (mark : List Int) (s : Int) {b : Int} (n : Nat) (w l : Int) (h : 0 ≤ l ∧ l ≤ b) : 0 ≤ c.raW mark s n w l ∧ c.raW mark s n w l ≤ b :=
  itr_bound (fun i l h => raS_bound c mark s i _ _ l h) n w l h
theorem raT_eq (c : GCode) (hok : c.ok = true) {mark : List Int} {s w f n : Int} (h0 : 0 ≤ f) (hf : f < c.out) (hn : min (c.out - f) mark.length = n) :
    c.raT mark s w f = dist (List.take n.toNat mark) (List.drop f.toNat (bitsOf c.out.toNat (c.wrd s w))) + c.apP 16 (c.nxt s w) 0 (mark.drop n.toNat) := by
  have hl := bitsOf_length c.out.toNat (c.wrd s w)
  have e1 : min mark.length ((bitsOf c.out.toNat (c.wrd s w)).drop f.toNat).length = n.toNat := by simp [hl]; omega
  simp only [GCode.raT, GCode.apR]
  rw [e1]

attribute [local congr] cg_pw cg_seqI cg_seqE cg_stepI cg_ev cg_evBin cg_condB cg_condV cg_thenQ cg_blockQ cg_onSome cg_onCells cg_onRow cg_onRow2 cg_frhV cg_frhO cg_onMap cg_onOpt cg_ghosts cg_ghost cg_evCall cg_part cg_rng cg_guardV cg_frzV cg_frpV cg_ownV cg_owcV cg_occV cg_occX cg_resK cg_res1 cg_yldP cg_rndE cg_onlyN cg_onHist
attribute [local irreducible] IntKind.wrap bitsOp Option.getD and or

theorem rowsD_len (l : Rows) : (rowsD l).length = l.length := by simp [rowsD]
theorem rowsD_unif (l : Rows) : Unif 1 (rowsD l) = True := unif_map fun _ => rfl
theorem rowsD_empty (l : Rows) : (rowsD l).isEmpty = l.isEmpty := by cases l <;> rfl
def cpT (l : Rows) (n : Nat) : Rows := (l.take n).map cpR
theorem cpT_len {l : Rows} {n : Nat} (h : n ≤ l.length) : (cpT l n).length = n := by simp [cpT]; omega
theorem cpT_snoc {l : Rows} {n : Nat} (h : n < l.length) : rowsD (cpT l n) ++ [.list false (ints (l[n]?.getD default).2)] = rowsD (cpT l (n + 1)) := by
  rw [cpT, cpT, List.take_add_one, List.getElem?_eq_getElem h]
  rw [Option.getD_some, List.map_append]
  simp only [rowsD, List.map_append, Option.toList, List.map_cons, List.map_nil]; rfl
theorem cpT_full (l : Rows) : cpT l l.length = l.map cpR := by simp [cpT]
theorem copyD_eq (c : GCode) : codeD (copyC c) = .agg [.int .i64 c.bits, .int .i64 c.out, .int .i64 c.least, .int .i64 c.most, .list c.words.isEmpty (rowsD (cpT c.words c.words.length)), .list c.next.isEmpty (rowsD (cpT c.next c.next.length))] := by
  rw [cpT_full, cpT_full]; rfl

theorem far_all {c : GCode} (h : c.far = false) : (c.words.length ≤ 20 ∧ ∀ j : Nat, j < c.words.length → (c.words[j]?.getD default).2.length ≤ 20) ∧ (c.next.length ≤ 20 ∧ ∀ j : Nat, j < c.next.length → (c.next[j]?.getD default).2.length ≤ 20) := by
  simp only [GCode.far, Bool.or_eq_false_iff, decide_eq_false_iff_not] at h
  obtain ⟨⟨⟨h1, h2⟩, h3⟩, h4⟩ := h
  rw [any_iff] at h3 h4
  refine ⟨⟨by omega, fun j hj => ?_⟩, by omega, fun j hj => ?_⟩
  · have := h3 j hj; rw [decide_eq_false_iff_not] at this; omega
  · have := h4 j hj; rw [decide_eq_false_iff_not] at this; omega

theorem ref04_Copy_ret (c : GCode) (hf : c.far = false) : Ret E0 F_ref04_Copy [codeD c] (codeD (copyC c)) := by
  rw [copyD_eq]
  refine ret_of_pw dec_ref04_Copy mixed (by simp) fun hwf => ?_
  simp only [wf_int, wf_bool, wf_ints, wf_list, wf_agg, wf_ptr, wf_fn, wf_tup, wf_all_cons, wf_all_nil, wf_all_map, inK_i64, maxLen_eq, List.length_map, ints_len, true_and, and_true, codeD_eq, codeC_eq, rowsD_eq] at hwf
  have hfw := (far_all hf).1
  have hfn := (far_all hf).2
  rw [enter_eq]; unfold pc_ref04_Copy
  (try (simp -implicitDefEqProofs only [go_sem, codeD_eq, codeC_eq])); repeat' first | with_reducible exact True.intro | with_reducible refine And.intro ?_ ?_ | with_reducible intro _ | (((with_reducible refine vc_b ?_ ?_) <;> intro _) <;> try (simp -implicitDefEqProofs only [go_sem, codeD_eq, codeC_eq])) | simp (disch := omega) only [wrapI, wrapU, shl1, shl1', shl1'', shrN, shrN', and_one] | ((with_reducible refine isEx3 ?_); refine ⟨(_, _, _), rfl, ?_, ?_⟩)
  refine pw_loopS (α := Int × Bool × (List D)) (l0 := ?l1) (m0 := ?m1) (fun x => [(4, .d (.int .i64 x.1))]) (fun x => [(26, .row 25 1 x.2.1 x.2.2)]) (fun x => 0 ≤ x.1 ∧ x.1 ≤ c.words.length ∧ x.2.1 = decide (x.1 = 0) ∧ x.2.2 = rowsD (cpT c.words x.1.toNat)) (fun x => (c.words.length - x.1).toNat) (?a1_0, ?a1_1, []) ?h01 ?he1 ?he21 ?hI1 ?step1
  case h01 => (simp -implicitDefEqProofs only [go_sem, codeD_eq, codeC_eq, rowsD_eq]; rfl)
  case he1 => rfl
  case he21 => rfl
  case' step1 => (rintro ⟨i, nl, L⟩ hI; try dsimp only at hI)
  case' hI1 => try dsimp only
  · simp; rfl
  · obtain ⟨h1, h2, h3, h4⟩ := hI
    change nl = decide (i = 0) at h3; change L = rowsD (cpT c.words i.toNat) at h4
    subst h3; subst h4
    by_cases hi : i < c.words.length
    · have hl := cpT_len (l := c.words) (n := i.toNat) (by omega)
      have hs := cpT_snoc (l := c.words) (n := i.toNat) (by omega)
      have hr := hfw.2 i.toNat (by omega)
      have h1' : (i + 1).toNat = i.toNat + 1 := by omega
      (try (simp -implicitDefEqProofs only [go_sem, rowsD_len, rowsD_unif, rowD_eq, hl])); repeat' first | with_reducible exact True.intro | with_reducible refine And.intro ?_ ?_ | with_reducible intro _ | (((with_reducible refine vc_b ?_ ?_) <;> intro _) <;> try (simp -implicitDefEqProofs only [go_sem, rowsD_len, rowsD_unif, rowD_eq, hl])) | simp (disch := omega) only [wrapI, wrapU, shl1, shl1', shl1'', shrN, shrN', and_one] | ((with_reducible refine isEx3 ?_); refine ⟨(_, _, _), rfl, ?_, ?_⟩)
      all_goals first | omega | (simp; done) | (simp; omega) | skip
      all_goals first | (exfalso; omega) | (simp; omega) | (rw [h1', hs]) | skip
    · have he : i.toNat = c.words.length := by omega
      rw [he]
      have hl := cpT_len (l := c.words) (n := c.words.length) (by omega)
      have hz : decide (i = 0) = c.words.isEmpty := by rw [Bool.eq_iff_iff]; simp only [decide_eq_true_eq, List.isEmpty_iff, ← List.length_eq_zero_iff]; omega
      rw [hz]
      (try (simp -implicitDefEqProofs only [go_sem, rowsD_len, rowsD_unif, hl])); repeat' first | with_reducible exact True.intro | with_reducible refine And.intro ?_ ?_ | with_reducible intro _ | (((with_reducible refine vc_b ?_ ?_) <;> intro _) <;> try (simp -implicitDefEqProofs only [go_sem, rowsD_len, rowsD_unif, hl])) | simp (disch := omega) only [wrapI, wrapU, shl1, shl1', shl1'', shrN, shrN', and_one] | ((with_reducible refine isEx3 ?_); refine ⟨(_, _, _), rfl, ?_, ?_⟩)
      all_goals first | omega | (simp; done) | (simp; omega) | skip
      refine pw_loopS (α := Int × Bool × (List D)) (l0 := ?l2) (m0 := ?m2) (fun x => [(5, .d (.int .i64 x.1))]) (fun x => [(45, .row 25 1 x.2.1 x.2.2)]) (fun x => 0 ≤ x.1 ∧ x.1 ≤ c.next.length ∧ x.2.1 = decide (x.1 = 0) ∧ x.2.2 = rowsD (cpT c.next x.1.toNat)) (fun x => (c.next.length - x.1).toNat) (?a2_0, ?a2_1, []) ?h02 ?he2 ?he22 ?hI2 ?step2
      case h02 => (simp -implicitDefEqProofs only [go_sem, codeD_eq, codeC_eq, rowsD_eq]; rfl)
      case he2 => rfl
      case he22 => rfl
      case' step2 => (rintro ⟨k, nl2, L2⟩ hI2; try dsimp only at hI2)
      case' hI2 => try dsimp only
      · simp; rfl
      · obtain ⟨g1, g2, g3, g4⟩ := hI2
        change nl2 = decide (k = 0) at g3; change L2 = rowsD (cpT c.next k.toNat) at g4
        subst g3; subst g4
        by_cases hk : k < c.next.length
        · have gl := cpT_len (l := c.next) (n := k.toNat) (by omega)
          have gs := cpT_snoc (l := c.next) (n := k.toNat) (by omega)
          have gr := hfn.2 k.toNat (by omega)
          have g1' : (k + 1).toNat = k.toNat + 1 := by omega
          (try (simp -implicitDefEqProofs only [go_sem, rowsD_len, rowsD_unif, rowD_eq, gl])); repeat' first | with_reducible exact True.intro | with_reducible refine And.intro ?_ ?_ | with_reducible intro _ | (((with_reducible refine vc_b ?_ ?_) <;> intro _) <;> try (simp -implicitDefEqProofs only [go_sem, rowsD_len, rowsD_unif, rowD_eq, gl])) | simp (disch := omega) only [wrapI, wrapU, shl1, shl1', shl1'', shrN, shrN', and_one] | ((with_reducible refine isEx3 ?_); refine ⟨(_, _, _), rfl, ?_, ?_⟩)
          all_goals first | omega | (simp; done) | (simp; omega) | skip
          all_goals first | (exfalso; omega) | (simp; omega) | (rw [g1', gs]) | skip
        · have ge : k.toNat = c.next.length := by omega
          rw [ge]
          have gl := cpT_len (l := c.next) (n := c.next.length) (by omega)
          have gz : decide (k = 0) = c.next.isEmpty := by rw [Bool.eq_iff_iff]; simp only [decide_eq_true_eq, List.isEmpty_iff, ← List.length_eq_zero_iff]; omega
          rw [gz]
          (try (simp -implicitDefEqProofs only [go_sem, rowsD_len, rowsD_unif, hl, gl])); repeat' first | with_reducible exact True.intro | with_reducible refine And.intro ?_ ?_ | with_reducible intro _ | (((with_reducible refine vc_b ?_ ?_) <;> intro _) <;> try (simp -implicitDefEqProofs only [go_sem, rowsD_len, rowsD_unif, hl, gl])) | simp (disch := omega) only [wrapI, wrapU, shl1, shl1', shl1'', shrN, shrN', and_one] | ((with_reducible refine isEx3 ?_); refine ⟨(_, _, _), rfl, ?_, ?_⟩)
          all_goals first | omega | (simp; done) | (simp; omega) | skip
          rfl



theorem ref04_Apart_ret (c : GCode) (nl : Bool) (mark : List Int) : Ret E0 F_ref04_Apart [codeD c, .list nl (ints mark)] (.tup [.int .i64 (c.apartR mark).1, .int .i64 (c.apartR mark).2]) := by
  refine ret_of_pw dec_ref04_Apart mixed (by simp) fun hwf => ?_
  rw [enter_eq]; unfold pc_ref04_Apart
  have cc := ref04_Check_ret c
  have cm := ref04_IsMark_ret nl mark
  cases hok : c.ok with
  | false =>
    have ho : c.apartR mark = (0, 40) := by simp [GCode.apartR, hok]
    rw [ho]
    rw [hok] at cc
    (try (simp -implicitDefEqProofs only [go_sem, codeD_eq, codeC_eq, rowsD_eq, errI])); repeat' first | with_reducible exact True.intro | with_reducible refine And.intro ?_ ?_ | with_reducible intro _ | (((with_reducible refine isCall ?_); first | refine call_b (cc) rfl ?_ ?_ | refine call_d (cc) rfl ?_ | refine call_sb (cc) rfl ?_ ?_ | refine call_s (cc) rfl rfl ?_ | refine call_b (cm) rfl ?_ ?_ | refine call_d (cm) rfl ?_ | refine call_sb (cm) rfl ?_ ?_ | refine call_s (cm) rfl rfl ?_) <;> try (simp -implicitDefEqProofs only [go_sem, codeD_eq, codeC_eq, rowsD_eq, errI])) | (((with_reducible refine vc_b ?_ ?_) <;> intro _) <;> try (simp -implicitDefEqProofs only [go_sem, codeD_eq, codeC_eq, rowsD_eq, errI])) | simp (disch := omega) only [wrapI, wrapU, shl1, shl1', shl1'', shrN, shrN', and_one] | ((with_reducible refine isEx2 ?_); refine ⟨(_, _), rfl, ?_, ?_⟩)
  | true =>
    rw [hok] at cc
    have hd := GCode.ok_head hok
    cases hmk : isMarkB mark with
    | false =>
      have ho : c.apartR mark = (0, 1) := by simp [GCode.apartR, hok, hmk]
      rw [ho]
      rw [hmk] at cm
      (try (simp -implicitDefEqProofs only [go_sem, codeD_eq, codeC_eq, rowsD_eq, errI])); repeat' first | with_reducible exact True.intro | with_reducible refine And.intro ?_ ?_ | with_reducible intro _ | (((with_reducible refine isCall ?_); first | refine call_b (cc) rfl ?_ ?_ | refine call_d (cc) rfl ?_ | refine call_sb (cc) rfl ?_ ?_ | refine call_s (cc) rfl rfl ?_ | refine call_b (cm) rfl ?_ ?_ | refine call_d (cm) rfl ?_ | refine call_sb (cm) rfl ?_ ?_ | refine call_s (cm) rfl rfl ?_) <;> try (simp -implicitDefEqProofs only [go_sem, codeD_eq, codeC_eq, rowsD_eq, errI])) | (((with_reducible refine vc_b ?_ ?_) <;> intro _) <;> try (simp -implicitDefEqProofs only [go_sem, codeD_eq, codeC_eq, rowsD_eq, errI])) | simp (disch := omega) only [wrapI, wrapU, shl1, shl1', shl1'', shrN, shrN', and_one] | ((with_reducible refine isEx2 ?_); refine ⟨(_, _), rfl, ?_, ?_⟩)
    | true =>
      rw [hmk] at cm
      have ho : c.apartR mark = (c.apart mark, 0) := by simp [GCode.apartR, hok, hmk]
      rw [ho]
      have hmb : areBits mark = true := by simp only [isMarkB, Bool.and_eq_true] at hmk; exact hmk.2
      have hm1 : 1 ≤ mark.length ∧ mark.length ≤ 16 := by simp [isMarkB, inR] at hmk; omega
      have cn := ref04_nearest_ret c hok nl mark hmb hm1
      have hW4 : c.W ≤ 4 := by
        have : c.bits.toNat = 1 ∨ c.bits.toNat = 2 := by omega
        unfold GCode.W; rcases this with e | e <;> rw [e] <;> decide
      have htl := tabR_len c mark (-1)
      (try (simp -implicitDefEqProofs only [go_sem, codeD_eq, codeC_eq, rowsD_eq, errI])); repeat' first | with_reducible exact True.intro | with_reducible refine And.intro ?_ ?_ | with_reducible intro _ | (((with_reducible refine isCall ?_); first | refine call_b (cc) rfl ?_ ?_ | refine call_d (cc) rfl ?_ | refine call_sb (cc) rfl ?_ ?_ | refine call_s (cc) rfl rfl ?_ | refine call_b (cm) rfl ?_ ?_ | refine call_d (cm) rfl ?_ | refine call_sb (cm) rfl ?_ ?_ | refine call_s (cm) rfl rfl ?_ | refine call_b (cn) rfl ?_ ?_ | refine call_d (cn) rfl ?_ | refine call_sb (cn) rfl ?_ ?_ | refine call_s (cn) rfl rfl ?_) <;> try (simp -implicitDefEqProofs only [go_sem, codeD_eq, codeC_eq, rowsD_eq, errI])) | (((with_reducible refine vc_b ?_ ?_) <;> intro _) <;> try (simp -implicitDefEqProofs only [go_sem, codeD_eq, codeC_eq, rowsD_eq, errI])) | simp (disch := omega) only [wrapI, wrapU, shl1, shl1', shl1'', shrN, shrN', and_one] | ((with_reducible refine isEx2 ?_); refine ⟨(_, _), rfl, ?_, ?_⟩)
      refine pw_loopS (α := Int × Int) (l0 := ?l3) (m0 := ?m3) (fun x => [(8, .d (.int .i64 x.1)), (7, .d (.int .i64 x.2))]) (fun x => []) (fun x => (0 ≤ x.1 ∧ x.1 ≤ c.words.length) ∧ (0 ≤ x.2 ∧ x.2 ≤ mark.length) ∧ c.raA mark (c.words.length - x.1.toNat) x.1 x.2 = c.apart mark) (fun x => (c.words.length - x.1).toNat) (?a3_0, ?a3_1) ?h03 ?he3 ?he23 ?hI3 ?step3
      case h03 => (simp -implicitDefEqProofs only [go_sem, rowsD_eq]; rfl)
      case he3 => rfl
      case he23 => rfl
      case' step3 => (rintro ⟨s, least⟩ hI; try dsimp only at hI)
      case' hI3 => try dsimp only
      · refine ⟨⟨by omega, by omega⟩, ?_, ?_⟩
        · simp
        · exact raA_apart c hok hm1.1 hm1.2
      · obtain ⟨⟨s0, s1⟩, hlb, heq⟩ := hI
        have hsw : s < c.words.length → IntKind.i64.wrap (s + 1) = s + 1 := fun h => wrapI _ (by omega)
        by_cases hs : s < c.words.length
        · have hsw := hsw hs
          have hst : s.toNat < c.words.length := by omega
          rw [GCode.raA, itr_step _ _ _ s0 hs, ← GCode.raA] at heq
          obtain ⟨V2, hV2⟩ : ∃ V2, c.raW mark s c.W 0 least = V2 := ⟨_, rfl⟩
          have hVb := raW_bound c mark s c.W 0 least hlb
          rw [hV2] at heq hVb
          have hws := GCode.ok_words hok s.toNat (by omega)
          have hns := GCode.ok_next hok s.toNat (by omega)
          have hwl : (c.words[s.toNat]?.getD default).2.length = c.W := hws.1
          have hnl : (c.next[s.toNat]?.getD default).2.length = c.W := hns.1
          have hN1 : s.toNat < c.next.length := by omega
          have hN2 : s < (c.next.length : Int) := by omega
          (try (simp -implicitDefEqProofs only [go_sem, rowsD_eq, hs])); repeat' first | with_reducible exact True.intro | with_reducible refine And.intro ?_ ?_ | with_reducible intro _ | (((with_reducible refine vc_b ?_ ?_) <;> intro _) <;> try (simp -implicitDefEqProofs only [go_sem, rowsD_eq, hs])) | simp (disch := omega) only [wrapI, wrapU, shl1, shl1', shl1'', shrN, shrN', and_one] | ((with_reducible refine isEx2 ?_); refine ⟨(_, _), rfl, ?_, ?_⟩)
          refine pw_loopS (α := Int × Int) (l0 := ?l4) (m0 := ?m4) (fun x => [(9, .d (.int .i64 x.1)), (7, .d (.int .i64 x.2))]) (fun x => []) (fun x => (0 ≤ x.1 ∧ x.1 ≤ c.W) ∧ (0 ≤ x.2 ∧ x.2 ≤ mark.length) ∧ c.raW mark s (c.W - x.1.toNat) x.1 x.2 = V2) (fun x => (c.W - x.1).toNat) (?a4_0, ?a4_1) ?h04 ?he4 ?he24 ?hI4 ?step4
          case h04 => (simp -implicitDefEqProofs only [go_sem, rowsD_eq]; rfl)
          case he4 => rfl
          case he24 => rfl
          case' step4 => (rintro ⟨w, lw⟩ hI2; try dsimp only at hI2)
          case' hI4 => try dsimp only
          · exact ⟨⟨by omega, by omega⟩, hlb, hV2⟩
          · obtain ⟨⟨w0, w1⟩, hlb2, heq2⟩ := hI2
            by_cases hw : w < c.W
            · have hww : IntKind.i64.wrap (w + 1) = w + 1 := wrapI _ (by omega)
              have hwt : w.toNat < c.W := by omega
              rw [GCode.raW, itr_step _ _ _ w0 hw, ← GCode.raW] at heq2
              obtain ⟨V3, hV3⟩ : ∃ V3, c.raS mark s w c.out.toNat 0 lw = V3 := ⟨_, rfl⟩
              have hVb3 := raS_bound c mark s w c.out.toNat 0 lw hlb2
              rw [hV3] at heq2 hVb3
              have h2o : (2 : Int) ^ c.out.toNat ≤ 32 := by
                have : c.out.toNat = 1 ∨ c.out.toNat = 2 ∨ c.out.toNat = 3 ∨ c.out.toNat = 4 ∨ c.out.toNat = 5 := by omega
                rcases this with e | e | e | e | e <;> rw [e] <;> decide
              have hwv := hws.2 _ (getD_mem0 (i := w.toNat) (by omega))
              have hwd : (c.words[s.toNat]?.getD default).2[w.toNat]?.getD 0 = c.wrd s w := rfl
              rw [hwd] at hwv
              have csp := ref04_Spread_ret c (c.wrd s w) (by omega) ⟨hwv.1, by omega⟩
              have hspl := bitsOf_length c.out.toNat (c.wrd s w)
              have hsp0 : (bitsOf c.out.toNat (c.wrd s w)).isEmpty = false := by
                cases hx : bitsOf c.out.toNat (c.wrd s w) with
                | nil => rw [hx] at hspl; simp at hspl; omega
                | cons _ _ => rfl
              rw [hsp0] at csp
              have hnv := hns.2 _ (getD_mem0 (i := w.toNat) (by omega))
              have hnd : (c.next[s.toNat]?.getD default).2[w.toNat]?.getD 0 = c.nxt s w := rfl
              rw [hnd] at hnv
              obtain ⟨q, hq⟩ : ∃ q, c.nxt s w = q := ⟨_, rfl⟩
              rw [hq] at hnd hnv
              have hq0 := hnv.1
              have hq1 : q < (c.words.length : Int) := by omega
              have hq2 : q.toNat < c.words.length := by omega
              (try (simp -implicitDefEqProofs only [go_sem, rowsD_eq, rowD_eq, hs, hst, hwl, hw])); repeat' first | with_reducible exact True.intro | with_reducible refine And.intro ?_ ?_ | with_reducible intro _ | (((with_reducible refine vc_b ?_ ?_) <;> intro _) <;> try (simp -implicitDefEqProofs only [go_sem, rowsD_eq, rowD_eq, hs, hst, hwl, hw])) | simp (disch := omega) only [wrapI, wrapU, shl1, shl1', shl1'', shrN, shrN', and_one] | ((with_reducible refine isEx2 ?_); refine ⟨(_, _), rfl, ?_, ?_⟩)
              all_goals (try omega)
              refine pw_loopS (α := Int × Int) (l0 := ?l5) (m0 := ?m5) (fun x => [(10, .d (.int .i64 x.1)), (7, .d (.int .i64 x.2))]) (fun x => []) (fun x => (0 ≤ x.1 ∧ x.1 ≤ c.out) ∧ (0 ≤ x.2 ∧ x.2 ≤ mark.length) ∧ c.raS mark s w (c.out.toNat - x.1.toNat) x.1 x.2 = V3) (fun x => (c.out - x.1).toNat) (?a5_0, ?a5_1) ?h05 ?he5 ?he25 ?hI5 ?step5
              case h05 => (simp -implicitDefEqProofs only [go_sem, rowsD_eq]; rfl)
              case he5 => rfl
              case he25 => rfl
              case' step5 => (rintro ⟨f, lf⟩ hI3; try dsimp only at hI3)
              case' hI5 => try dsimp only
              · exact ⟨⟨by omega, by omega⟩, hlb2, hV3⟩
              · obtain ⟨⟨f0, f1⟩, hlb3, heq3⟩ := hI3
                by_cases hf : f < c.out
                · have hfw : IntKind.i64.wrap (f + 1) = f + 1 := wrapI _ (by omega)
                  have hfo : IntKind.i64.wrap (c.out - f) = c.out - f := wrapI _ (by omega)
                  rw [GCode.raS, itr_step _ _ _ f0 (by omega), ← GCode.raS] at heq3
                  obtain ⟨n, hn⟩ : ∃ n, min (c.out - f) (mark.length : Int) = n := ⟨_, rfl⟩
                  try dsimp only at heq3
                  rw [raT_eq c hok f0 hf hn, hq] at heq3
                  have hb0 : 0 ≤ n := by omega
                  have hb2 : n ≤ (mark.length : Int) := by omega
                  have hb3 : n < ((mark.length + 1 : Nat) : Int) := by omega
                  have hb4 : n.toNat < mark.length + 1 := by omega
                  have cd := ref04_Distance_ret nl false (List.take n.toNat mark) (bitsOf c.out.toNat (c.wrd s w)) f f0 (by rw [hspl]; simp; omega) (by simp; omega) (by rw [hspl]; omega)
                  have hdb := dist_bound (List.take n.toNat mark) (List.drop f.toNat (bitsOf c.out.toNat (c.wrd s w)))
                  have hxl : (List.take n.toNat mark).length ≤ 16 := by simp; omega
                  generalize dist (List.take n.toNat mark) (List.drop f.toNat (bitsOf c.out.toNat (c.wrd s w))) = dv at *
                  have hg : (c.tabR mark (-1))[n.toNat]?.getD default = (false, c.nearL mark n.toNat) := by rw [tabR_get c mark (-1) (by omega), if_pos (by omega)]
                  have hnq := nearL_get c mark n.toNat hq0 hq1
                  have hap := apP_pos c 16 q 0 (mark.drop n.toNat)
                  have hah := apP_high c (by omega) 16 q 0 (mark.drop n.toNat) (by omega) (by omega)
                  have hal : (mark.drop n.toNat).length ≤ 16 := by simp; omega
                  have hNl := nearL_len c mark n.toNat
                  generalize c.apP 16 q 0 (mark.drop n.toNat) = av at *
                  have hsm : IntKind.i64.wrap (dv + av) = dv + av := wrapI _ (by omega)
                  (try (simp -implicitDefEqProofs only [go_sem, rowsD_eq, rowD_eq, hs, hst, hN1, hN2, hwl, hnl, hwt, hw, w0, s0, f0, hf, hfw, hfo, hn, hb0, hb2, hb3, hb4, hwd, hnd, hg, hq0, hq1, hq2, hnq, hNl, hsm, htl])); repeat' first | with_reducible exact True.intro | with_reducible refine And.intro ?_ ?_ | with_reducible intro _ | (((with_reducible refine isCall ?_); first | refine call_b (csp) rfl ?_ ?_ | refine call_d (csp) rfl ?_ | refine call_sb (csp) rfl ?_ ?_ | refine call_s (csp) rfl rfl ?_ | refine call_b (cd) rfl ?_ ?_ | refine call_d (cd) rfl ?_ | refine call_sb (cd) rfl ?_ ?_ | refine call_s (cd) rfl rfl ?_) <;> try (simp -implicitDefEqProofs only [go_sem, rowsD_eq, rowD_eq, hs, hst, hN1, hN2, hwl, hnl, hwt, hw, w0, s0, f0, hf, hfw, hfo, hn, hb0, hb2, hb3, hb4, hwd, hnd, hg, hq0, hq1, hq2, hnq, hNl, hsm, htl])) | (((with_reducible refine vc_b ?_ ?_) <;> intro _) <;> try (simp -implicitDefEqProofs only [go_sem, rowsD_eq, rowD_eq, hs, hst, hN1, hN2, hwl, hnl, hwt, hw, w0, s0, f0, hf, hfw, hfo, hn, hb0, hb2, hb3, hb4, hwd, hnd, hg, hq0, hq1, hq2, hnq, hNl, hsm, htl])) | simp (disch := omega) only [wrapI, wrapU, shl1, shl1', shl1'', shrN, shrN', and_one] | ((with_reducible refine isEx2 ?_); refine ⟨(_, _), rfl, ?_, ?_⟩)
                  all_goals (try omega)
                  all_goals first | exact heq3 | trace_state
                · have hfe : f = c.out := by omega
                  rw [GCode.raS, itr_end _ _ _ f0 (by omega)] at heq3
                  subst heq3
                  (try (simp -implicitDefEqProofs only [go_sem, rowsD_eq, rowD_eq, hf, hww])); repeat' first | with_reducible exact True.intro | with_reducible refine And.intro ?_ ?_ | with_reducible intro _ | (((with_reducible refine vc_b ?_ ?_) <;> intro _) <;> try (simp -implicitDefEqProofs only [go_sem, rowsD_eq, rowD_eq, hf, hww])) | simp (disch := omega) only [wrapI, wrapU, shl1, shl1', shl1'', shrN, shrN', and_one] | ((with_reducible refine isEx2 ?_); refine ⟨(_, _), rfl, ?_, ?_⟩)
                  all_goals (try omega)
                  all_goals first | exact heq2 | trace_state
            · rw [GCode.raW, itr_end _ _ _ w0 hw] at heq2
              subst heq2
              (try (simp -implicitDefEqProofs only [go_sem, rowsD_eq, rowD_eq, hs, hst, hwl, hw, hsw])); repeat' first | with_reducible exact True.intro | with_reducible refine And.intro ?_ ?_ | with_reducible intro _ | (((with_reducible refine vc_b ?_ ?_) <;> intro _) <;> try (simp -implicitDefEqProofs only [go_sem, rowsD_eq, rowD_eq, hs, hst, hwl, hw, hsw])) | simp (disch := omega) only [wrapI, wrapU, shl1, shl1', shl1'', shrN, shrN', and_one] | ((with_reducible refine isEx2 ?_); refine ⟨(_, _), rfl, ?_, ?_⟩)
              all_goals (try omega)
              all_goals first | exact heq | trace_state
        · rw [GCode.raA, itr_end _ _ _ s0 hs] at heq
          (try (simp -implicitDefEqProofs only [go_sem, rowsD_eq, rowD_eq, hs])); repeat' first | with_reducible exact True.intro | with_reducible refine And.intro ?_ ?_ | with_reducible intro _ | (((with_reducible refine vc_b ?_ ?_) <;> intro _) <;> try (simp -implicitDefEqProofs only [go_sem, rowsD_eq, rowD_eq, hs])) | simp (disch := omega) only [wrapI, wrapU, shl1, shl1', shl1'', shrN, shrN', and_one] | ((with_reducible refine isEx2 ?_); refine ⟨(_, _), rfl, ?_, ?_⟩)
          all_goals (try omega)
          all_goals first | (rw [heq]; done) | trace_state

theorem CodesMarks_ret (c : GCode) (n1 n2 : Bool) (mark bits : List Int) (e : Int) : Ret E0 F_law04_CodesMarks [codeD c, .agg [.list n1 (ints mark), .list n2 (ints bits), .int .i64 e]] (.bool true) := by
  refine ret_of_pw dec_law04_CodesMarks mixed (by simp) fun hwf => ?_
  rw [enter_eq]; unfold pc_law04_CodesMarks
  have c0 := law04_Far_ret c
  have cw := law04_works_ret
  cases hf : c.far with
  | true =>
    rw [hf] at c0
    (try (simp -implicitDefEqProofs only [go_sem, codeD_eq, codeC_eq])); repeat' first | with_reducible exact True.intro | with_reducible refine And.intro ?_ ?_ | with_reducible intro _ | (((with_reducible refine isCall ?_); first | refine call_b (c0) rfl ?_ ?_ | refine call_d (c0) rfl ?_ | refine call_sb (c0) rfl ?_ ?_ | refine call_s (c0) rfl rfl ?_ | refine call_b (cw) rfl ?_ ?_ | refine call_d (cw) rfl ?_ | refine call_sb (cw) rfl ?_ ?_ | refine call_s (cw) rfl rfl ?_) <;> try (simp -implicitDefEqProofs only [go_sem, codeD_eq, codeC_eq])) | (((with_reducible refine vc_b ?_ ?_) <;> intro _) <;> try (simp -implicitDefEqProofs only [go_sem, codeD_eq, codeC_eq])) | simp (disch := omega) only [wrapI, wrapU, shl1, shl1', shl1'', shrN, shrN', and_one] 
  | false =>
    rw [hf] at c0
    have c1 := fun a b => codes_Find_ret a b mark bits e
    have c2 := fun a b => ref04_Find_ret a b mark bits e
    have c3 := ref04_Copy_ret c hf
    have c4 := fun a => codes_Apart_ret (copyC c) a mark
    have c5 := fun a => ref04_Apart_ret c a mark
    simp only [copy_apart] at c4
    generalize findR mark bits e = R at *
    generalize c.apartR mark = A at *
    generalize copyC c = C at *
    have c6 := fun a b => law04_sameInts_ret a b R.1 R.1
    simp only [decide_true] at c6
    (try (simp -implicitDefEqProofs only [go_sem, codeD_eq, codeC_eq])); repeat' first | with_reducible exact True.intro | with_reducible refine And.intro ?_ ?_ | with_reducible intro _ | (((with_reducible refine isCall ?_); first | refine call_b (c0) rfl ?_ ?_ | refine call_d (c0) rfl ?_ | refine call_sb (c0) rfl ?_ ?_ | refine call_s (c0) rfl rfl ?_ | refine call_b (cw) rfl ?_ ?_ | refine call_d (cw) rfl ?_ | refine call_sb (cw) rfl ?_ ?_ | refine call_s (cw) rfl rfl ?_ | refine call_b (c1 _ _) rfl ?_ ?_ | refine call_d (c1 _ _) rfl ?_ | refine call_sb (c1 _ _) rfl ?_ ?_ | refine call_s (c1 _ _) rfl rfl ?_ | refine call_b (c2 _ _) rfl ?_ ?_ | refine call_d (c2 _ _) rfl ?_ | refine call_sb (c2 _ _) rfl ?_ ?_ | refine call_s (c2 _ _) rfl rfl ?_ | refine call_b (c3) rfl ?_ ?_ | refine call_d (c3) rfl ?_ | refine call_sb (c3) rfl ?_ ?_ | refine call_s (c3) rfl rfl ?_ | refine call_b (c4 _) rfl ?_ ?_ | refine call_d (c4 _) rfl ?_ | refine call_sb (c4 _) rfl ?_ ?_ | refine call_s (c4 _) rfl rfl ?_ | refine call_b (c5 _) rfl ?_ ?_ | refine call_d (c5 _) rfl ?_ | refine call_sb (c5 _) rfl ?_ ?_ | refine call_s (c5 _) rfl rfl ?_ | refine call_b (c6 _ _) rfl ?_ ?_ | refine call_d (c6 _ _) rfl ?_ | refine call_sb (c6 _ _) rfl ?_ ?_ | refine call_s (c6 _ _) rfl rfl ?_) <;> try (simp -implicitDefEqProofs only [go_sem, codeD_eq, codeC_eq])) | (((with_reducible refine vc_b ?_ ?_) <;> intro _) <;> try (simp -implicitDefEqProofs only [go_sem, codeD_eq, codeC_eq])) | simp (disch := omega) only [wrapI, wrapU, shl1, shl1', shl1'', shrN, shrN', and_one] 
    all_goals first | omega | rfl | trace_state

def mrkT : Ty := .str [.list (.int .i64), .list (.int .i64), .int .i64]
theorem typed_mrk {x : D} (h : TypedV mrkT x) : ∃ n1 l n2 m e, x = .agg [.list n1 (ints l), .list n2 (ints m), .int .i64 e] := by
  obtain ⟨h, hx⟩ := h
  obtain ⟨a1, r1, e1, t1, h⟩ := typed_cons h
  obtain ⟨a2, r2, e2, t2, h⟩ := typed_cons h
  obtain ⟨a3, r3, e3, t3, h⟩ := typed_cons h
  have e6 := typed_nil h
  obtain ⟨n1, l, rfl⟩ := typed_ints t1
  obtain ⟨n2, m, rfl⟩ := typed_ints t2
  obtain ⟨e, rfl⟩ := typed_int t3
  refine ⟨n1, l, n2, m, e, ?_⟩
  rw [hx, e1, e2, e3, e6]; rfl
end Go.Pw
