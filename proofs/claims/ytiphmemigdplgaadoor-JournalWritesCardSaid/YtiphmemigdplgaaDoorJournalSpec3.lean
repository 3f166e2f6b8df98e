/- A part of the proof. -/
import Derived.Test.YtiphmemigdplgaaDoorJournalU
set_option linter.all false
namespace Go.Pw
set_option linter.unusedVariables false
theorem allOk_congr {l k : GLog} (h1 : k.blocks = l.blocks) (h2 : k.slots = l.slots) : ∀ n, k.allOk n = l.allOk n
  | 0 => rfl
  | n + 1 => by rw [GLog.allOk, GLog.allOk, allOk_congr h1 h2 n, h1, h2]
theorem ns_check (l : GLog) : l.ns.check = l.check := by
  unfold GLog.check
  rw [allOk_congr (l := l) (k := l.ns) rfl rfl]; rfl
theorem op_eq (l : GLog) : l.op = l.cp.ns := rfl
theorem op_check (l : GLog) : l.op.check = l.check := by
  have h := allOk_congr (l := l) (k := l.op) rfl rfl
  have s : Same l.disk l.op.disk := ⟨rfl, rfl, rfl⟩
  unfold GLog.check GLog.head
  rw [h, show l.op.disk.ok = l.disk.ok from rfl, show l.op.slots = l.slots from rfl, s.size]; rfl
theorem setS_full_congr {l k : GLog} (h : k.slots = l.slots) : k.full = l.full := by
  unfold GLog.full GLog.many GLog.newest
  rw [h]
  exact whole_congr fun i _ => by unfold GLog.at'; rw [h]
theorem setS_kept_congr {l k : GLog} (h : k.slots = l.slots) : k.kept = l.kept := by
  unfold GLog.kept GLog.many GLog.newest
  rw [h]
  exact keptN_congr fun i _ => by unfold GLog.at'; rw [h]
theorem openE_of {l : GLog} (h1 : l.check = 0) (h2 : l.full = true) : l.openE = 0 := by unfold GLog.openE; rw [h1, h2]; rfl
theorem recE_of {l : GLog} (h : l.openE = 0) : l.recE = l.kept := by unfold GLog.recE; rw [if_pos h]
theorem putN_check {l : GLog} (hc : l.check = 0) (g : l.Good) (es : List GWr) : ∀ i, errN l.blocks l.slots es i = 0 → (l.setS (putN l.slots es i)).check = 0
  | 0, _ => hc
  | i + 1, h => by
    have h0 := errN_zero h (Nat.le_succ i)
    exact put_check (l := l.setS (putN l.slots es i)) (putN_check hc g es i h0) (putN_good g es i h0) (errN_step h (Nat.lt_succ_self i))
theorem putN_full {l : GLog} (g : l.Good) (hf : l.full = true) (es : List GWr) : ∀ i, errN l.blocks l.slots es i = 0 → (l.setS (putN l.slots es i)).full = true
  | 0, _ => hf
  | i + 1, h => by
    have h0 := errN_zero h (Nat.le_succ i)
    exact put_full (l := l.setS (putN l.slots es i)) (putN_good g es i h0) (putN_full g hf es i h0) (errN_step h (Nat.lt_succ_self i))
theorem torn_all {l : GLog} (hc : l.check = 0) (g : l.Good) (hr : l.newest.num + 1 < l.newest.tail + l.slots.length) : (l.setS (tornS l.slots)).check = 0 ∧ (l.setS (tornS l.slots)).newest = l.newest ∧ (l.setS (tornS l.slots)).kept = l.kept ∧ (l.setS (tornS l.slots)).full = l.full := by
  obtain ⟨n1, n2, n3⟩ := newest_good g
  refine ⟨check_set hc (slot_bad rfl), torn_kept g fun k h1 h2 => ?_⟩
  rw [newest_eq] at *
  exact mod_ne (by omega) (show k < (nwS l.slots).num + 1 by omega) (by omega)
/-- After a failure of the power. -/
theorem cut_all {l : GLog} (hc : l.check = 0) (hf : l.full = true) {es : List GWr} {d : Nat} {torn : Bool} (h : errN l.blocks l.slots es es.length = 0) (hd : d ≤ es.length) (ht : torn = true → d < es.length) :
    (l.op.setS (cutS l.slots es d torn)).openE = 0 ∧ (l.op.setS (cutS l.slots es d torn)).kept = (l.setS (putN l.slots es d)).kept ∧ (l.op.setS (cutS l.slots es d torn)).newest = (l.setS (putN l.slots es d)).newest := by
  have g := op_good (check_good hc)
  have hc' : l.op.check = 0 := (op_check l).trans hc
  have hf' : l.op.full = true := (setS_full_congr (l := l) (k := l.op) rfl).trans hf
  have he := errN_zero h hd
  have c1 := putN_check (l := l.op) hc' g es d he
  have g1 := putN_good (l := l.op) g es d he
  have f1 := putN_full (l := l.op) g hf' es d he
  have k1 : (l.op.setS (putN l.slots es d)).kept = (l.setS (putN l.slots es d)).kept := setS_kept_congr rfl
  cases torn with
  | false => exact ⟨openE_of c1 f1, k1, rfl⟩
  | true =>
    have ha := errN_step h (ht rfl)
    obtain ⟨_, _, _, a4, _⟩ := appE_0 ha
    obtain ⟨t1, t2, t3, t4⟩ := torn_all (l := l.op.setS (putN l.slots es d)) c1 g1 a4
    exact ⟨openE_of t1 (t4.trans f1), t3.trans k1, t2⟩
theorem take_at {es : List GWr} {d i : Nat} (h : i < d) : (es.take d)[i]?.getD default = es[i]?.getD default := by rw [List.getElem?_take_of_lt h]
theorem putN_take (s : List GRec) (es : List GWr) (d : Nat) : ∀ i, i ≤ d → putN s (es.take d) i = putN s es i
  | 0, _ => rfl
  | i + 1, h => by rw [putN, putN, putN_take s es d i (by omega), take_at (by omega)]
theorem errN_take (b : Int) (s : List GRec) (es : List GWr) (d : Nat) : ∀ i, i ≤ d → errN b s (es.take d) i = errN b s es i
  | 0, _ => rfl
  | i + 1, h => by rw [errN, errN, errN_take b s es d i (by omega), putN_take s es d i (by omega), take_at (by omega)]
theorem cutE_of {l : GLog} (h : l.openE = 0) (es : List GWr) (d : Int) (torn : Bool) (hd : 0 ≤ d ∧ d ≤ es.length) (ht : torn = true → d ≠ es.length) : l.cutE es d torn = errN l.blocks l.slots es es.length := by
  unfold GLog.cutE
  have : argBad es d torn = false := by
    unfold argBad
    rw [inZ_iff.2 hd]
    cases torn with
    | false => rfl
    | true => simp [ht rfl]
  rw [this, if_neg (by simpa using h)]; simp
theorem cutL_of {l : GLog} {es : List GWr} {d : Int} {torn : Bool} (h : l.cutE es d torn = 0) : l.cutL es d torn = l.op.setS (cutS l.slots es d.toNat torn) := by unfold GLog.cutL; rw [if_pos h]
theorem cutL_sn {l : GLog} {es : List GWr} {d : Int} {torn : Bool} : (l.cutL es d torn).sn = true → (l.cutL es d torn).slots = [] := by
  unfold GLog.cutL
  split
  · intro h; cases h
  · intro _; rfl
theorem cutL_zn {l : GLog} {es : List GWr} {d : Int} {torn : Bool} : (l.cutL es d torn).disk.zn = true → (l.cutL es d torn).disk.zones = [] := by
  unfold GLog.cutL
  split
  · intro h
    have h' : (l.disk.zn && l.disk.zones.isEmpty) = true := h
    rw [Bool.and_eq_true] at h'
    show l.disk.zones = []
    simpa using h'.2
  · intro _; rfl

/-- What was kept and what the first i entries add. -/
def expN (ks : List GRec) (n : Int) (ws : List GWr) : Nat → List GRec
  | 0 => ks
  | i + 1 => expN ks n ws i ++ [⟨n + i + 1, (ws[i]?.getD default).blk, (ws[i]?.getD default).val, (ws[i]?.getD default).tail, false⟩]
def expT (ws : List GWr) : Nat → Int
  | 0 => 0
  | i + 1 => (ws[i]?.getD default).tail
def expF (e : Bool) (t : Int) (al : List GRec) : Nat → List GRec
  | 0 => []
  | i + 1 => expF e t al i ++ if e || decide (t ≤ (al[i]?.getD default).num) then [al[i]?.getD default] else []
def expect (ks : List GRec) (n : Int) (ws : List GWr) : List GRec := expF (decide (ws.length = 0)) (expT ws ws.length) (expN ks n ws ws.length) (expN ks n ws ws.length).length
theorem expN_len (ks : List GRec) (n : Int) (ws : List GWr) : ∀ i, (expN ks n ws i).length = ks.length + i
  | 0 => rfl
  | i + 1 => by rw [expN, List.length_append, expN_len ks n ws i]; simp; omega
theorem expF_len (e : Bool) (t : Int) (al : List GRec) : ∀ i, (expF e t al i).length ≤ i
  | 0 => by simp [expF]
  | i + 1 => by
    have := expF_len e t al i
    rw [expF, List.length_append]; split <;> simp <;> omega
theorem expF_eq (e : Bool) (t : Int) (al : List GRec) : ∀ i, i ≤ al.length → expF e t al i = (al.take i).filter fun r => e || decide (t ≤ r.num)
  | 0, _ => by simp [expF]
  | i + 1, h => by
    rw [expF, expF_eq e t al i (by omega), List.take_add_one, List.filter_append, List.getElem?_eq_getElem (by omega)]
    simp only [Option.getD_some, Option.toList_some, List.filter_cons, List.filter_nil]
theorem expect_eq (ks : List GRec) (n : Int) (ws : List GWr) : expect ks n ws = (expN ks n ws ws.length).filter fun r => decide (ws.length = 0) || decide (expT ws ws.length ≤ r.num) := by
  unfold expect
  rw [expF_eq _ _ _ _ (Nat.le_refl _), List.take_length]
theorem expN_take (ks : List GRec) (n : Int) (ws : List GWr) (d : Nat) : ∀ i, i ≤ d → expN ks n (ws.take d) i = expN ks n ws i
  | 0, _ => rfl
  | i + 1, h => by rw [expN, expN, expN_take ks n ws d i (by omega), take_at (by omega)]
theorem expT_take (ws : List GWr) (d i : Nat) (h : i ≤ d) : expT (ws.take d) i = expT ws i := by
  cases i with
  | zero => rfl
  | succ i => rw [expT, expT, take_at (by omega)]
theorem putN_tail {l : GLog} (g : l.Good) (es : List GWr) (i : Nat) (h : errN l.blocks l.slots es (i + 1) = 0) : nwS (putN l.slots es (i + 1)) = recS (putN l.slots es i) (es[i]?.getD default) := by
  have h0 := errN_zero h (Nat.le_succ i)
  exact put_newest (l := l.setS (putN l.slots es i)) (putN_good g es i h0) (errN_step h (Nat.lt_succ_self i))
theorem putN_kept {l : GLog} (g : l.Good) (hf : l.full = true) (es : List GWr) : ∀ i, errN l.blocks l.slots es i = 0 → (l.setS (putN l.slots es i)).kept = (expN l.kept l.newest.num es i).filter fun r => decide (i = 0) || decide (expT es i ≤ r.num)
  | 0, _ => by
    rw [expN]
    have : (fun r : GRec => decide ((0 : Nat) = 0) || decide (expT es 0 ≤ r.num)) = fun _ => true := by funext r; simp
    rw [this, List.filter_eq_self.2 (fun _ _ => rfl)]; rfl
  | i + 1, h => by
    have h0 := errN_zero h (Nat.le_succ i)
    have hs := errN_step h (Nat.lt_succ_self i)
    have gi := putN_good g es i h0
    have ih := putN_kept g hf es i h0
    have hn := putN_newest g es i h0
    obtain ⟨_, _, a3, _, _⟩ := appE_0 hs
    have hk := put_kept (l := l.setS (putN l.slots es i)) gi (putN_full g hf es i h0) hs
    rw [ih] at hk
    have e1 : (l.setS (putN l.slots es (i + 1))).kept = _ := hk
    rw [e1, expN, List.filter_append, List.filter_filter]
    have hr : recS (putN l.slots es i) (es[i]?.getD default) = ⟨l.newest.num + i + 1, (es[i]?.getD default).blk, (es[i]?.getD default).val, (es[i]?.getD default).tail, false⟩ := by
      unfold recS; rw [hn]
    have hr' : recS (l.setS (putN l.slots es i)).slots (es[i]?.getD default) = ⟨l.newest.num + i + 1, (es[i]?.getD default).blk, (es[i]?.getD default).val, (es[i]?.getD default).tail, false⟩ := hr
    rw [hr']
    congr 1
    · refine List.filter_congr fun r hr => ?_
      rw [expT]
      have hi1 : decide (i + 1 = 0) = false := by simp
      rw [hi1, Bool.false_or]
      cases i with
      | zero => simp
      | succ j =>
        have ht := putN_tail g es j h0
        have a3' : (recS (putN l.slots es j) (es[j]?.getD default)).tail ≤ (es[j + 1]?.getD default).tail := by rw [← ht]; exact a3.1
        have a3'' : (es[j]?.getD default).tail ≤ (es[j + 1]?.getD default).tail := a3'
        rw [expT]
        by_cases hx : (es[j + 1]?.getD default).tail ≤ r.num
        · rw [decide_eq_true hx, decide_eq_true (show (es[j]?.getD default).tail ≤ r.num by omega)]; simp
        · rw [decide_eq_false hx]; simp
    · simp only [List.filter_cons, List.filter_nil]
      rw [expT, decide_eq_true (show (es[i]?.getD default).tail ≤ l.newest.num + i + 1 by omega), Bool.or_true]; simp
theorem putN_expect {l : GLog} (g : l.Good) (hf : l.full = true) (es : List GWr) (d : Nat) (hd : d ≤ es.length) (h : errN l.blocks l.slots es d = 0) : (l.setS (putN l.slots es d)).kept = expect l.kept l.newest.num (es.take d) := by
  have hl : (es.take d).length = d := by simp; omega
  rw [expect_eq, hl, expN_take _ _ _ _ _ (Nat.le_refl _), expT_take _ _ _ (Nat.le_refl _)]
  exact putN_kept g hf es d h
end Go.Pw
