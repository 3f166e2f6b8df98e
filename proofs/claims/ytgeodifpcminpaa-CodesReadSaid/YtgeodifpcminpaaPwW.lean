/- A region whose order is drawn. -/
import Derived.Test.YtgeodifpcminpaaPwV
set_option linter.all false
namespace Go.Pw
set_option linter.unusedSimpArgs false
set_option linter.unusedVariables false

/-- The states along the order of the text. -/
def stL : List (Ins × List Nat) → List (AV × Chg) → PSt → Nat → PSt
  | (I, _) :: l, r :: tr, s, k + 1 => stL l tr (put s I.dst r.1 r.2) k
  | _, _, s, _ => s

def recL : List (Ins × List Nat) → List (AV × Chg) → PSt → List Rec
  | (I, _) :: l, r :: tr, s => (r.2.site, foot1 I s) :: recL l tr (put s I.dst r.1 r.2)
  | _, _, _ => []

variable {E : Env}

theorem recL_get : ∀ {l : List (Ins × List Nat)} {tr : List (AV × Chg)} {s : PSt} {k : Nat} {I : Ins} {dy : List Nat} {r : AV × Chg}, l[k]? = some (I, dy) → tr[k]? = some r →
    (recL l tr s)[k]? = some (r.2.site, foot1 I (stL l tr s k))
  | [], _, _, _, _, _, _, h, _ => by simp at h
  | _ :: _, [], _, _, _, _, _, _, h => by simp at h
  | (J, dj) :: l, q :: tr, s, 0, I, dy, r, h1, h2 => by
    simp at h1 h2; obtain ⟨rfl, rfl⟩ := h1; subst h2; simp [recL, stL]
  | (J, dj) :: l, q :: tr, s, k + 1, I, dy, r, h1, h2 => by
    simp at h1 h2
    simp only [recL, stL, List.getElem?_cons_succ]
    exact recL_get h1 h2

theorem stL_succ : ∀ {l : List (Ins × List Nat)} {tr : List (AV × Chg)} {s : PSt} {k : Nat} {I : Ins} {dy : List Nat} {r : AV × Chg}, l[k]? = some (I, dy) → tr[k]? = some r →
    stL l tr s (k + 1) = put (stL l tr s k) I.dst r.1 r.2
  | [], _, _, _, _, _, _, h, _ => by simp at h
  | _ :: _, [], _, _, _, _, _, _, h => by simp at h
  | (J, dj) :: l, q :: tr, s, 0, I, dy, r, h1, h2 => by
    simp at h1 h2; obtain ⟨rfl, rfl⟩ := h1; subst h2
    simp only [stL]
  | (J, dj) :: l, q :: tr, s, k + 1, I, dy, r, h1, h2 => by
    simp at h1 h2
    simp only [stL]
    exact stL_succ h1 h2

theorem trace : ∀ {l : List (Ins × List Nat)} {rec : List Rec} {s : PSt} {K : PSt → Prop}, seqD E l rec s K → ∃ tr : List (AV × Chg), tr.length = l.length ∧ K (stL l tr s l.length) ∧
    ∀ (k : Nat) (I : Ins) (dy : List Nat) (r : AV × Chg), l[k]? = some (I, dy) → tr[k]? = some r →
      (∀ o, o ∈ r.2.site → o ∈ wfp1 I (stL l tr s k)) ∧
      (∀ s' K', (∀ t, t ∈ I.reads → s'.sl t = (stL l tr s k).sl t) → AgreeV (foot1 I (stL l tr s k)) (stL l tr s k).V s'.V → K' r.1 r.2 → stepI E I s' K') ∧
      (∀ j, j ∈ dy → ∃ q, (rec ++ recL l tr s)[j]? = some q ∧ apartS q (r.2.site, foot1 I (stL l tr s k)) = true)
  | [], rec, s, K, h => ⟨[], rfl, h, fun k I dy r hk => by simp at hk⟩
  | (I, dy) :: l, rec, s, K, h => by
    simp only [seqD] at h
    obtain ⟨v, ch, ⟨hdy, hK⟩, hw, hloc⟩ := stepI_loc h
    obtain ⟨tr, h1, h2, h3⟩ := trace hK
    refine ⟨(v, ch) :: tr, by simp [h1], by simpa [stL] using h2, fun k J dj r hk hr => ?_⟩
    cases k with
    | zero =>
      simp at hk hr
      obtain ⟨rfl, rfl⟩ := hk
      subst hr
      simp only [stL]
      refine ⟨hw, hloc, fun j hj => ?_⟩
      have := List.all_eq_true.1 hdy j hj
      split at this
      · rename_i q hq
        refine ⟨q, ?_, this⟩
        rw [List.getElem?_append_left (List.getElem?_eq_some_iff.1 hq).1]; exact hq
      · cases this
    | succ k =>
      simp at hk hr
      obtain ⟨a1, a2, a3⟩ := h3 k J dj r hk hr
      simp only [stL]
      refine ⟨a1, a2, fun j hj => ?_⟩
      obtain ⟨q, hq, hq2⟩ := a3 j hj
      refine ⟨q, ?_, hq2⟩
      simpa [recL, List.append_assoc] using hq

def apartI (J I : Ins) : Bool :=
  (match J.dst with | some t => !I.reads.contains t && I.dst != some t | none => true) && (match I.dst with | some t => !J.reads.contains t | none => true)

def trivF : Foot → Foot → Bool
  | .none, _ => true
  | _, .none => true
  | .read, .read => true
  | _, _ => false

def okD (ops : List Oper) (pre : List (List Nat)) (dis : List (Ins × List Nat)) : Bool :=
  (List.range ops.length).all fun k =>
    match ops[k]?, dis[k]?, pre[k]? with
    | some o, some (I, dy), some p =>
       (o.after.toList.all fun e => !Region.binds .any e || decide (e.on < k)) &&
       (p.all fun j => o.after.toList.any fun e => Region.binds .any e && (e.on == j || (match pre[e.on]? with | some q => q.contains j | none => false))) &&
       ((List.range k).all fun j => p.contains j || (match dis[j]? with | some (J, _) => apartI J I && (dy.contains j || trivF J.op.foot I.op.foot) | none => false))
    | _, _, _ => false

theorem okD_at {ops : List Oper} {pre : List (List Nat)} {dis : List (Ins × List Nat)} (h : okD ops pre dis = true) {k : Nat} (hk : k < ops.length) : ∃ o I dy p, ops[k]? = some o ∧ dis[k]? = some (I, dy) ∧ pre[k]? = some p ∧
    (∀ e, e ∈ o.after.toList → Region.binds .any e = true → e.on < k) ∧ (∀ j, j ∈ p → ∃ e, e ∈ o.after.toList ∧ Region.binds .any e = true ∧ (e.on = j ∨ ∃ q, pre[e.on]? = some q ∧ j ∈ q)) ∧
    (∀ j, j < k → j ∉ p → ∃ J dj, dis[j]? = some (J, dj) ∧ apartI J I = true ∧ (j ∈ dy ∨ trivF J.op.foot I.op.foot = true)) := by
  have := List.all_eq_true.1 h k (by simpa using hk)
  split at this
  · rename_i o I dy p h1 h2 h3
    simp only [Bool.and_eq_true] at this
    obtain ⟨⟨a, b⟩, c⟩ := this
    refine ⟨o, I, dy, p, h1, h2, h3, fun e he hb => ?_, fun j hj => ?_, fun j hj hjp => ?_⟩
    · have := List.all_eq_true.1 a e he
      simpa [hb] using this
    · have := List.all_eq_true.1 b j hj
      obtain ⟨e, he, h4⟩ := List.any_eq_true.1 this
      simp only [Bool.and_eq_true, Bool.or_eq_true, beq_iff_eq] at h4
      refine ⟨e, he, h4.1, h4.2.imp id fun h5 => ?_⟩
      split at h5
      · rename_i q hq; exact ⟨q, hq, by simpa using h5⟩
      · cases h5
    · have := List.all_eq_true.1 c j (by simpa using hj)
      have hnp : p.contains j = false := by simpa using hjp
      rw [hnp, Bool.false_or] at this
      split at this
      · rename_i J dj hJ
        simp only [Bool.and_eq_true, Bool.or_eq_true] at this
        exact ⟨J, dj, hJ, this.1, this.2.imp (by simp) id⟩
      · cases this
  · cases this

theorem apartI_spec {J I : Ins} (h : apartI J I = true) : (∀ t, J.dst = some t → t ∉ I.reads) ∧ (∀ t, I.dst = some t → t ∉ J.reads) ∧ (∀ t, J.dst = some t → I.dst ≠ some t) := by
  unfold apartI at h
  simp only [Bool.and_eq_true] at h
  refine ⟨fun t ht => ?_, fun t ht => ?_, fun t ht => ?_⟩
  · rw [ht] at h; simp at h; exact h.1.1
  · rw [ht] at h; simp at h; exact h.2
  · rw [ht] at h; simp at h; exact h.1.2

theorem triv_free {J I : Ins} {s s' : PSt} {a b : Chg} (h : trivF J.op.foot I.op.foot = true) (ha : ∀ o, o ∈ a.site → o ∈ wfp1 J s) (hb : ∀ o, o ∈ b.site → o ∈ wfp1 I s') :
    (∀ o, o ∈ a.site → o ∉ foot1 I s') ∧ ∀ o, o ∈ b.site → o ∉ foot1 J s := by
  unfold wfp1 wfp at ha hb
  unfold foot1 fp
  cases hJ : J.op.foot <;> cases hI : I.op.foot <;> simp_all [trivF]

section
variable {c : Ctx} {β : Nat → Nat → Value} {s : PSt} {a : Act} {w : World} {K : PSt → Prop}

theorem getD_set_listed {listed : Array Bool} {i : Nat} (hi : i < listed.size) (k : Nat) (d : Bool) : (listed.setIfInBounds i true).getD k d = if k = i then true else listed.getD k d := by
  by_cases h : k = i
  · subst h; simp [Array.getD_eq_getD_getElem?, hi]
  · simp [Array.getD_eq_getD_getElem?, Array.getElem?_setIfInBounds_ne (Ne.symm h), h]

theorem count_le {p q : Nat → Bool} {i : Nat} : ∀ {l : List Nat}, l.Nodup → i ∈ l → p i = true → (∀ k, q k = if k = i then false else p k) → (l.filter q).length + 1 = (l.filter p).length
  | [], _, h, _, _ => by cases h
  | x :: l, hn, hi, hp, hq => by
    rw [List.nodup_cons] at hn
    by_cases hx : x = i
    · subst hx
      have hqx : q x = false := by rw [hq]; simp
      have hrest : l.filter q = l.filter p := List.filter_congr fun y hy => by
        rw [hq]; have : y ≠ x := fun e => hn.1 (e ▸ hy)
        simp [this]
      simp [List.filter_cons, hqx, hp, hrest]
    · have hil : i ∈ l := by
        cases hi with
        | head => exact absurd rfl hx
        | tail _ h => exact h
      have ih := count_le hn.2 hil hp hq
      have hqx : q x = p x := by rw [hq]; simp [hx]
      cases hpx : p x <;> simp [List.filter_cons, hqx, hpx] <;> omega

theorem count_set {listed : Array Bool} {n i fuel : Nat} (hi : i < listed.size) (hin : i < n) (h : listed.getD i false = false) (hc : ((List.range n).filter fun k => !listed.getD k false).length = fuel + 1) :
    ((List.range n).filter fun k => !(listed.setIfInBounds i true).getD k false).length = fuel := by
  have := count_le (p := fun k => !listed.getD k false) (q := fun k => !(listed.setIfInBounds i true).getD k false) (i := i) (l := List.range n) List.nodup_range (by simpa using hin) (by simp [h]) (fun k => by
    rw [getD_set_listed hi]; split <;> simp)
  omega

/-- ANY ORDER DOES WHAT THE ORDER OF THE TEXT DOES. -/
theorem draw_sound {fl : List Nat} {ns : Nat} {ops : List Oper} {dis : List (Ins × List Nat)} {pre : List (List Nat)} {Q : Exit → Act → World → Prop} (hdec : ∀ (k : Nat) (o : Oper) (I : Ins) (dy : List Nat), ops[k]? = some o → dis[k]? = some (I, dy) → decI E true fl ns ops o = some I) (hlen : dis.length = ops.length) (hok : okD ops pre dis = true)
    (h : Rel E c β s a.tmps w) (hn : a.tmps.size = ns) (hs : seqD E dis [] s K) (hQ : ∀ s' β' tm' w', K s' → Rel E c β' s' tm' w' → tm'.size = ns → Q .normal ⟨tm', a.defers⟩ w') :
    wpAny E.P .any ops.toArray Q ops.length (Array.replicate ops.length false) a w := by
  obtain ⟨tr, htl, hK, htr⟩ := trace hs
  -- the functions
  let I : Nat → Ins := fun k => (dis.getD k default).1
  let v : Nat → AV := fun k => (tr.getD k (.undef, .none)).1
  let ch : Nat → Chg := fun k => (tr.getD k (.undef, .none)).2
  let F : Nat → List Nat := fun k => foot1 (I k) (stL dis tr s k)
  have hI : ∀ {k J dy}, dis[k]? = some (J, dy) → I k = J := fun {k J dy} h => by simp [I, List.getD, h]
  have hr : ∀ {k r}, tr[k]? = some r → v k = r.1 ∧ ch k = r.2 := fun {k r} h => by simp [v, ch, List.getD, h]
  have hst : ∀ k, k ≤ ops.length → after I v ch s (fun _ => true) k = stL dis tr s k := by
    intro k
    induction k with
    | zero => intro _; cases dis <;> cases tr <;> rfl
    | succ k ih =>
      intro hk
      have h1 : dis[k]? = some dis[k] := List.getElem?_eq_getElem (by omega)
      have h2 : tr[k]? = some tr[k] := List.getElem?_eq_getElem (by omega)
      simp only [after, if_true, ih (by omega)]
      rw [stL_succ h1 h2, hI h1, (hr h2).1, (hr h2).2]
  have hsite : ∀ i o, i < ops.length → o ∈ (ch i).site → o ∈ F i := by
    intro i o hi ho
    have h1 : dis[i]? = some dis[i] := List.getElem?_eq_getElem (by omega)
    have h2 : tr[i]? = some tr[i] := List.getElem?_eq_getElem (by omega)
    rw [(hr h2).2] at ho
    have := (htr i _ _ _ h1 h2).1 o ho
    show o ∈ foot1 (I i) _
    rw [hI h1]; exact wfp_fp this
  -- pairs without an order
  have hfree : ∀ j k p, j < k → k < ops.length → pre[k]? = some p → j ∉ p → Free I ch F j k := by
    intro j k p hjk hk hp hjp
    obtain ⟨o, Ik, dy, p', h1, h2, h3, h4, h5, h6⟩ := okD_at hok hk
    rw [hp] at h3; simp at h3; subst h3
    obtain ⟨J, dj, h7, h8, h9⟩ := h6 j hjk hjp
    have g1 : tr[k]? = some tr[k] := List.getElem?_eq_getElem (by omega)
    have g2 : tr[j]? = some tr[j] := List.getElem?_eq_getElem (by omega)
    obtain ⟨d1, d2, d3⟩ := apartI_spec h8
    have key : (∀ o, o ∈ (ch j).site → o ∉ F k) ∧ ∀ o, o ∈ (ch k).site → o ∉ F j := by
      show (∀ o, o ∈ (ch j).site → o ∉ foot1 (I k) _) ∧ ∀ o, o ∈ (ch k).site → o ∉ foot1 (I j) _
      rw [hI h2, hI h7, (hr g1).2, (hr g2).2]
      rcases h9 with h9 | h9
      · obtain ⟨q, hq, hq2⟩ := (htr k _ _ _ h2 g1).2.2 j h9
        rw [List.nil_append, recL_get h7 g2] at hq
        simp at hq; subst hq
        simp only [apartS, Bool.and_eq_true] at hq2
        refine ⟨fun o ho => ?_, fun o ho => ?_⟩
        · have := List.all_eq_true.1 hq2.1 o ho; simpa using this
        · have := List.all_eq_true.1 hq2.2 o ho; simpa using this
      · exact triv_free h9 (htr j _ _ _ h7 g2).1 (htr k _ _ _ h2 g1).1
    exact ⟨by rw [hI h2, hI h7]; exact d1, by rw [hI h2, hI h7]; exact d2, by rw [hI h2, hI h7]; exact d3, key.1, key.2⟩
  -- sets that are closed downwards
  have hclosed : ∀ (L : Nat → Bool), (∀ k o, ops[k]? = some o → L k = true → ∀ e, e ∈ o.after.toList → Region.binds .any e = true → L e.on = true) → ∀ k, k < ops.length → ∀ p, pre[k]? = some p →
      (∀ o, ops[k]? = some o → ∀ e, e ∈ o.after.toList → Region.binds .any e = true → L e.on = true) → ∀ j, j ∈ p → L j = true := by
    intro L hL k
    induction k using Nat.strongRecOn with
    | _ k ih =>
      intro hk p hp hpre j hj
      obtain ⟨o, Ik, dy, p', h1, h2, h3, h4, h5, h6⟩ := okD_at hok hk
      rw [hp] at h3; simp at h3; subst h3
      obtain ⟨e, he, hb, h7⟩ := h5 j hj
      have hlt := h4 e he hb
      have hLe := hpre o h1 e he hb
      rcases h7 with h7 | ⟨q, hq, hjq⟩
      · rw [← h7]; exact hLe
      · refine ih e.on hlt (by omega) q hq (fun o' ho' e' he' hb' => hL e.on o' ho' hLe e' he' hb') j hjq
  have main : ∀ (fuel : Nat) (listed : Array Bool) (tm : Array Value) (β : Nat → Nat → Value) (w : World), listed.size = ops.length → ((List.range ops.length).filter fun k => !listed.getD k false).length = fuel →
      (∀ k o, ops[k]? = some o → listed.getD k false = true → ∀ e, e ∈ o.after.toList → Region.binds .any e = true → listed.getD e.on false = true) →
      Rel E c β (after I v ch s (fun k => listed.getD k false) ops.length) tm w → tm.size = ns → wpAny E.P .any ops.toArray Q fuel listed ⟨tm, a.defers⟩ w := by
    intro fuel
    induction fuel with
    | zero =>
      intro listed tm β w hsz hcount hcl hrel htm
      have hall : ∀ k, k < ops.length → listed.getD k false = true := by
        intro k hk
        have hnil := List.eq_nil_of_length_eq_zero hcount
        have : k ∉ (List.range ops.length).filter fun k => !listed.getD k false := by rw [hnil]; simp
        simpa [hk] using this
      refine ⟨?_, ?_⟩
      · cases hre : Region.ready .any ops.toArray listed with
        | nil => rfl
        | cons i rest =>
          have hi : i ∈ Region.ready .any ops.toArray listed := by rw [hre]; simp
          simp only [Region.ready, List.mem_filter, List.mem_range, List.size_toArray, Bool.and_eq_true] at hi
          have := hall i hi.1
          have hi2 := hi.2.1
          have hlt : i < listed.size := by omega
          simp [Array.getD_eq_getD_getElem?, hlt] at this hi2
          rw [this] at hi2; cases hi2
      · refine hQ _ β tm w ?_ hrel htm
        have := after_congr (I := I) (v := v) (ch := ch) (s0 := s) (L := fun k => listed.getD k false) (L' := fun _ => true) (n := ops.length) hall ops.length (Nat.le_refl _)
        rw [this, hst _ (Nat.le_refl _), ← hlen]; exact hK
    | succ fuel ih =>
      intro listed tm β w hsz hcount hcl hrel htm
      refine ⟨fun hnil => ?_, fun i hi => ?_⟩
      · -- the least that is not listed is ready
        exfalso
        have hex : ∃ k, k < ops.length ∧ listed.getD k false = false := by
          cases hf : (List.range ops.length).filter fun k => !listed.getD k false with
          | nil => rw [hf] at hcount; cases hcount
          | cons k rest =>
            have : k ∈ (List.range ops.length).filter fun k => !listed.getD k false := by rw [hf]; simp
            exact ⟨k, by simpa using this⟩
        have hmin : ∃ k, k < ops.length ∧ listed.getD k false = false ∧ ∀ j, j < k → listed.getD j false = true := by
          obtain ⟨k, hk⟩ := hex
          induction k using Nat.strongRecOn with
          | _ k ihk =>
            by_cases hall : ∀ j, j < k → listed.getD j false = true
            · exact ⟨k, hk.1, hk.2, hall⟩
            · simp only [Classical.not_forall] at hall
              obtain ⟨j, hj, hjl⟩ := hall
              exact ihk j hj ⟨by omega, by simpa using hjl⟩
        obtain ⟨k, hk, hkl, hbelow⟩ := hmin
        obtain ⟨o, Ik, dy, p, h1, h2, h3, h4, h5, h6⟩ := okD_at hok hk
        have : k ∈ Region.ready .any ops.toArray listed := by
          simp only [Region.ready, List.mem_filter, List.mem_range, List.size_toArray, Bool.and_eq_true]
          refine ⟨hk, ?_, ?_⟩
          · have hlt : k < listed.size := by omega
            simp [Array.getD_eq_getD_getElem?, hlt] at hkl ⊢; exact hkl
          · simp only [List.getElem?_toArray, h1, Option.map_some, Option.getD_some, Array.all_eq_true', Bool.or_eq_true, Bool.not_eq_true']
            intro e he
            by_cases hb : Region.binds .any e = true
            · exact .inr (hbelow _ (h4 e (by simpa using he) hb))
            · exact .inl (by simpa using hb)
        rw [hnil] at this; cases this
      · simp only [Region.ready, List.mem_filter, List.mem_range, List.size_toArray, Bool.and_eq_true] at hi
        obtain ⟨hin, hil, hia⟩ := hi
        have hlt : i < listed.size := by omega
        have hil' : listed.getD i false = false := by
          simp [Array.getD_eq_getD_getElem?, hlt] at hil ⊢; exact hil
        obtain ⟨o, Ii, dy, p, h1, h2, h3, h4, h5, h6⟩ := okD_at hok hin
        simp only [List.getElem?_toArray, h1, Option.map_some, Option.getD_some, Array.all_eq_true', Bool.or_eq_true, Bool.not_eq_true'] at hia
        have hpre : ∀ e, e ∈ o.after.toList → Region.binds .any e = true → listed.getD e.on false = true := fun e he hb => by
          rcases hia e (by simpa using he) with h | h
          · rw [hb] at h; cases h
          · exact h
        have g2 : tr[i]? = some tr[i] := List.getElem?_eq_getElem (by omega)
        have hun1 : ∀ j, j < i → listed.getD j false = false → Free I ch F j i := fun j hj hjl => by
          refine hfree j i p hj hin h3 fun hjp => ?_
          have := hclosed (fun k => listed.getD k false) hcl i hin p h3 (fun o' ho' e he hb => by rw [h1] at ho'; simp at ho'; subst ho'; exact hpre e he hb) j hjp
          rw [hjl] at this; cases this
        have hun2 : ∀ j, i < j → j < ops.length → listed.getD j false = true → Free I ch F i j := fun j hj hjn hjl => by
          obtain ⟨oj, Ij, dyj, pj, k1, k2, k3, k4, k5, k6⟩ := okD_at hok hjn
          refine hfree i j pj hj hjn k3 fun hip => ?_
          have := hclosed (fun k => listed.getD k false) hcl j hjn pj k3 (fun o' ho' e he hb => hcl j o' ho' hjl e he hb) i hip
          rw [hil'] at this; cases this
        have hag := after_agree (I := I) (v := v) (ch := ch) (s0 := s) (F := F) (L := fun k => listed.getD k false) (k := i) (n := ops.length) (by omega) hil' hun1 fun j hj hjn hjl => (hun2 j hj hjn hjl).symm
        have hins := after_insert (I := I) (v := v) (ch := ch) (s0 := s) (F := F) (L := fun k => listed.getD k false) (L' := fun k => (listed.setIfInBounds i true).getD k false) (k := i) (n := ops.length) hin hil' (fun k => getD_set_listed hlt k false) (fun j hj hjn hjl => (hun2 j hj hjn hjl).symm) hsite
        rw [hst i (by omega)] at hag
        have hstep : stepI E Ii (after I v ch s (fun k => listed.getD k false) ops.length) (fun v' ch' => v' = v i ∧ ch' = ch i) := by
          refine (htr i _ _ _ h2 g2).2.1 _ _ (fun t ht => ?_) ?_ ⟨(hr g2).1.symm, (hr g2).2.symm⟩
          · have := hag.1 t (by rw [hI h2]; exact ht)
            exact this
          · have := hag.2
            show AgreeV (foot1 Ii _) _ _
            have hF : F i = foot1 Ii (stL dis tr s i) := by show foot1 (I i) _ = _; rw [hI h2]
            rw [← hF]; exact this
        unfold wpOp
        simp only [List.getElem?_toArray, h1]
        refine step_sound (a := ⟨tm, a.defers⟩) hrel (hdec i o Ii dy h1 h2) htm hstep fun v' ch' β' tm' w' hvc hrel' htm' => ?_
        obtain ⟨rfl, rfl⟩ := hvc
        refine ih (listed.setIfInBounds i true) tm' β' w' (by simpa using hsz) ?_ (fun k o' ho' hk e he hb => ?_) ?_ htm'
        · exact count_set hlt hin hil' hcount
        · rw [getD_set_listed hlt] at hk ⊢
          split
          · rfl
          · split at hk
            · rename_i hki; subst hki
              rw [h1] at ho'; simp at ho'; subst ho'
              exact hpre e he hb
            · exact hcl k o' ho' hk e he hb
        · rw [hins, hI h2]; exact hrel'
  have h0 : after I v ch s (fun k => (Array.replicate ops.length false).getD k false) ops.length = s := by
    have hf : ∀ k, (Array.replicate ops.length false).getD k false = false := fun k => by
      simp only [Array.getD_eq_getD_getElem?, Array.getElem?_replicate]; split <;> rfl
    have : ∀ m, after I v ch s (fun k => (Array.replicate ops.length false).getD k false) m = s := by
      intro m
      induction m with
      | zero => rfl
      | succ m ih =>
        simp only [after]
        rw [if_neg (by rw [hf]; simp)]; exact ih
    exact this _
  have hf : ∀ k, (Array.replicate ops.length false).getD k false = false := fun k => by
    simp only [Array.getD_eq_getD_getElem?, Array.getElem?_replicate]; split <;> rfl
  refine main ops.length _ a.tmps β w (by simp) ?_ (fun k o ho hk => by rw [hf] at hk; cases hk) (by rw [h0]; exact h) hn
  have : ((List.range ops.length).filter fun k => !(Array.replicate ops.length false).getD k false) = List.range ops.length := by
    rw [List.filter_eq_self]; intro k _; rw [hf]; rfl
  rw [this]; simp
end
end Go.Pw
