/- A part of the proof. -/
import Derived.Test.YtlmkpaimjpdhiaaDoorPkZa
import Derived.IntWalk
set_option linter.all false
namespace Go.Pw
set_option linter.unusedSimpArgs false
set_option linter.unusedVariables false

def dmy : Nat := 0
theorem dmy_eq : dmy = 0 := Eq.symm (Eq.symm rfl)

def guardV (v : AV) (b : Bool) (A B : Prop) : Prop :=
  match v with
  | .d (.bool b') => condB (b == b') A B
  | .tup [] => B
  | _ => False
def frzV (v : AV) (t : Nat) (sl : Nat → AV) (V : View) (KS : PSt → Prop) : Prop :=
  match v with
  | .own o g => onRow (V.get o g) fun _ _ nl l => KS ⟨upd sl t (.d (.list nl l)), V.drop o⟩
  | _ => KS ⟨sl, V⟩
def frpV (v : AV) (t : Nat) (sl : Nat → AV) (V : View) (KS : PSt → Prop) : Prop :=
  match v with
  | .ptr o g 0 => onCells (V.get o g) fun xs => onSome (listM AV.toD1 xs) fun cs => cs ≠ [] ∧ KS ⟨upd sl t (.d (.ptr cs)), V.drop o⟩
  | _ => KS ⟨sl, V⟩
def frhO (y : Option AObj) (o g : Nat) (sl : Nat → AV) (V : View) (KS : PSt → Prop) : Prop :=
  match y with
  | some (.rowH ety l i q p) => onRow (V.get q p) fun _ _ nl xs => KS ⟨sl, (V.drop q).app (.keep o g (.row ety 1 false (l.set i (.list nl xs))))⟩
  | _ => KS ⟨sl, V⟩
def frhV (v : AV) (sl : Nat → AV) (V : View) (KS : PSt → Prop) : Prop :=
  match v with
  | .own o g => frhO (V.get o g) o g sl V KS
  | _ => KS ⟨sl, V⟩
def frmV (v : AV) (t : Nat) (sl : Nat → AV) (V : View) (KS : PSt → Prop) : Prop :=
  match v with
  | .mref .out o g => onMtx (V.get o g) fun _ _ nl ix rows => KS ⟨upd sl t (.d (.list nl (matL ix rows))), V.drop o⟩
  | _ => KS ⟨sl, V⟩
def fraO (x : Option AObj) (t o : Nat) (sl : Nat → AV) (V : View) (KS : PSt → Prop) : Prop :=
  match x with
  | some (.cells (c :: l)) => KS ⟨upd sl t (.ablk false (c :: l) 0), V.drop o⟩
  | _ => False
def fraV (v : AV) (t : Nat) (sl : Nat → AV) (V : View) (KS : PSt → Prop) : Prop :=
  match v with
  | .ptr o g 0 => fraO (V.get o g) t o sl V KS
  | _ => KS ⟨sl, V⟩
def frcX (x : Option AV) (b g k : Nat) (xs : List AV) (sl : Nat → AV) (V : View) (KS : PSt → Prop) : Prop :=
  match x with
  | some (.own o p) => onRow (V.get o p) fun _ _ nl l => KS ⟨sl, (V.drop o).app (.keep b g (.cells (xs.set k (.d (.list nl l)))))⟩
  | _ => KS ⟨sl, V⟩
def frcV (v : AV) (off : Nat) (sl : Nat → AV) (V : View) (KS : PSt → Prop) : Prop :=
  match v with
  | .ptr b g f => (match V.get b g with
    | some (.cells xs) => frcX xs[f + off]? b g (f + off) xs sl V KS
    | _ => KS ⟨sl, V⟩)
  | _ => KS ⟨sl, V⟩
def frcO (y : Option AObj) (b g k : Nat) (sl : Nat → AV) (V : View) (KS : PSt → Prop) : Prop :=
  match y with
  | some (.cells xs) => frcX xs[k]? b g k xs sl V KS
  | _ => KS ⟨sl, V⟩
def owmV (v : AV) (t o e1 e2 : Nat) (sl : Nat → AV) (V : View) (KS : PSt → Prop) : Prop :=
  match v with
  | .d (.list true []) => o < lim ∧ KS ⟨upd sl t (.mref .out o (V.cn o)), V.app (.fresh o (.mat e1 e2 true [] []))⟩
  | _ => KS ⟨sl, V⟩
def ownV (v : AV) (t o ety es : Nat) (sl : Nat → AV) (V : View) (KS : PSt → Prop) : Prop :=
  match v with
  | .d (.list true []) => o < lim ∧ KS ⟨upd sl t (.own o (V.cn o)), V.app (.fresh o (.row ety es true []))⟩
  | _ => KS ⟨sl, V⟩
def occX (x : Option AV) (b g k o ety es : Nat) (xs : List AV) (sl : Nat → AV) (V : View) (KS : PSt → Prop) : Prop :=
  match x with
  | some (.d (.list true [])) => o < lim ∧ o ≠ b ∧ KS ⟨sl, (V.app (.fresh o (.row ety es true []))).app (.keep b g (.cells (xs.set k (.own o (V.cn o)))))⟩
  | _ => KS ⟨sl, V⟩
def occV (y : Option AObj) (b g k o ety es : Nat) (sl : Nat → AV) (V : View) (KS : PSt → Prop) : Prop :=
  match y with
  | some (.cells xs) => occX xs[k]? b g k o ety es xs sl V KS
  | _ => KS ⟨sl, V⟩
def owcV (v : AV) (off o ety es : Nat) (sl : Nat → AV) (V : View) (KS : PSt → Prop) : Prop :=
  match v with
  | .ptr b g f => occV (V.get b g) b g (f + off) o ety es sl V KS
  | _ => KS ⟨sl, V⟩

section
variable {E : Env} {Q : PExit → PSt → Prop} {s s' : PSt} {K : AV → Chg → Prop} {KS : PSt → Prop}
/- simp takes a rule for congruence only where something turns: so something always does. -/
theorem cg_pw {z : Nat} {p : PC} (hz : dmy = z) (h : s = s') : pw E p Q s = pw E p Q s' := by rw [h]
theorem cg_seqI {z : Nat} {l : List Ins} (hz : dmy = z) (h : s = s') : seqI E l s KS = seqI E l s' KS := by rw [h]
theorem cg_stepI {z : Nat} {I : Ins} (hz : dmy = z) (h : s = s') : stepI E I s K = stepI E I s' K := by rw [h]
theorem cg_ev {z : Nat} {dst : Option Nat} {op : IOp} {V V' : View} {xs xs' : List AV} (hz : dmy = z) (hV : V = V') (h : xs = xs') : ev E dst V op xs K = ev E dst V' op xs' K := by rw [h, hV]
theorem cg_evBin {z : Nat} {b : BinOp} {k k' k1 k2 : IntKind} {x y x' y' : Int} {C : AV → Prop} (hz : dmy = z) (h1 : k = k1) (h2 : k' = k2) (hx : x = x') (hy : y = y') : evBin b k k' x y C = evBin b k1 k2 x' y' C := by rw [h1, h2, hx, hy]
theorem cg_condB {z : Nat} {c c' : Bool} {A B : Prop} (hz : dmy = z) (h : c = c') : condB c A B = condB c' A B := by rw [h]
theorem cg_condV {z : Nat} {v v' : AV} {A B : Prop} (hz : dmy = z) (h : v = v') : condV v A B = condV v' A B := by rw [h]
theorem cg_thenQ {z : Nat} {e e' : PExit} {A : PSt → Prop} (hz : dmy = z) (he : e = e') (h : s = s') : thenQ A Q e s = thenQ A Q e' s' := by rw [he, h]
theorem cg_blockQ {z : Nat} {i : Nat} {e e' : PExit} (hz : dmy = z) (he : e = e') (h : s = s') : blockQ i Q e s = blockQ i Q e' s' := by rw [he, h]
theorem cg_onSome {α : Type} {z : Nat} {x y : Option α} {A : α → Prop} (hz : dmy = z) (h : x = y) : onSome x A = onSome y A := by rw [h]
theorem cg_onCells {z : Nat} {x y : Option AObj} {A} (hz : dmy = z) (h : x = y) : onCells x A = onCells y A := by rw [h]
theorem cg_onRow {z : Nat} {x y : Option AObj} {A} (hz : dmy = z) (h : x = y) : onRow x A = onRow y A := by rw [h]
theorem cg_ghosts {z : Nat} {gs : List Ghost} (hz : dmy = z) (h : s = s') : ghosts gs s KS = ghosts gs s' KS := by rw [h]
theorem cg_ghost {z : Nat} {g : Ghost} (hz : dmy = z) (h : s = s') : ghost g s KS = ghost g s' KS := by rw [h]
theorem cg_evCall {z : Nat} {dst : Option Nat} {V V' : View} {f : FuncId} {xs xs' : List AV} (hz : dmy = z) (hV : V = V') (h : xs = xs') : evCall E dst V f xs K = evCall E dst V' f xs' K := by rw [h, hV]
theorem cg_part {z : Nat} {α : Type} {ag : Bool} {n n' : Nat} {cs cs' : List α} {off off' : Nat} {mk : List α → AV} {one : α → AV} {C : AV → Prop} (hz : dmy = z) (hn : n = n') (h : cs = cs') (ho : off = off') : evPart ag n cs off mk one C = evPart ag n' cs' off' mk one C := by rw [hn, h, ho]
theorem cg_rng {z : Nat} {lo hi : Bool} {n n' : Nat} {xs xs' : List AV} {C : Nat → Nat → Prop} (hz : dmy = z) (hn : n = n') (h : xs = xs') : rngP lo hi n xs C = rngP lo hi n' xs' C := by rw [hn, h]
theorem cg_guardV {z : Nat} {v v' : AV} {b : Bool} {A B : Prop} (hz : dmy = z) (h : v = v') : guardV v b A B = guardV v' b A B := by rw [h]
theorem cg_frzV {z : Nat} {v v' : AV} {t : Nat} {sl : Nat → AV} {V : View} (hz : dmy = z) (h : v = v') : frzV v t sl V KS = frzV v' t sl V KS := by rw [h]
theorem cg_ownV {z : Nat} {v v' : AV} {t o ety es : Nat} {sl : Nat → AV} {V : View} (hz : dmy = z) (h : v = v') : ownV v t o ety es sl V KS = ownV v' t o ety es sl V KS := by rw [h]
theorem cg_resK {z : Nat} {rs : List RT} {K : List AV → Prop} (hz : dmy = z) (h : s = s') : resK E s rs K = resK E s' rs K := by rw [h]
theorem cg_res1 {z : Nat} {r : RT} {K : AV → Prop} (hz : dmy = z) (h : s = s') : res1 E s r K = res1 E s' r K := by rw [h]

theorem vc_b {b : Bool} {A B : Prop} (h1 : b = true → A) (h2 : b = false → B) : condB b A B := ⟨h1, h2⟩
theorem stepI_g {d t b op xs} {sl : Nat → AV} {V : View} : stepI E ⟨d, some (t, b), op, xs⟩ ⟨sl, V⟩ K = guardV (sl t) b (ev E d V op (xs.map (Opd.val sl)) K) (K (.tup []) .none) := rfl
theorem guard_t {b : Bool} {A B : Prop} : guardV (.d (.bool b)) true A B = condB b A B := by simp [guardV]
theorem guard_f {b : Bool} {A B : Prop} : guardV (.d (.bool b)) false A B = condB b B A := by cases b <;> simp [guardV]
theorem guard_u {b : Bool} {A B : Prop} : guardV (.tup []) b A B = B := rfl
theorem ghost_fz {t : Nat} {sl : Nat → AV} {V : View} : ghost (.freeze t) ⟨sl, V⟩ KS = frzV (sl t) t sl V KS := by
  simp only [ghost, frzV]
  cases sl t with
  | own o g => simp only; cases V.get o g with
    | none => rfl
    | some x => cases x <;> rfl
  | _ => rfl
theorem frz_own {t o g : Nat} {sl : Nat → AV} {V : View} : frzV (.own o g) t sl V KS = onRow (V.get o g) fun _ _ nl l => KS ⟨upd sl t (.d (.list nl l)), V.drop o⟩ := rfl
theorem frz_d {t : Nat} {x : D} {sl : Nat → AV} {V : View} : frzV (.d x) t sl V KS = KS ⟨sl, V⟩ := rfl
theorem frz_ex {t : Nat} {x : List D} {sl : Nat → AV} {V : View} : frzV (.ex x) t sl V KS = KS ⟨sl, V⟩ := rfl
theorem frz_undef {t : Nat} {sl : Nat → AV} {V : View} : frzV .undef t sl V KS = KS ⟨sl, V⟩ := rfl
theorem ghost_fp {t : Nat} {sl : Nat → AV} {V : View} : ghost (.frzP t) ⟨sl, V⟩ KS = frpV (sl t) t sl V KS := by
  simp only [ghost, frpV]
  cases sl t with
  | ptr o g f =>
    cases f with
    | zero =>
      simp only; cases V.get o g with
      | none => rfl
      | some x =>
        cases x with
        | cells xs =>
          simp only [onCells]
          cases listM AV.toD1 xs with
          | none => rfl
          | some l => cases l <;> simp [onSome]
        | _ => rfl
    | succ n => rfl
  | _ => rfl
theorem frp_ptr {t o g : Nat} {sl : Nat → AV} {V : View} : frpV (.ptr o g 0) t sl V KS = onCells (V.get o g) fun xs => onSome (listM AV.toD1 xs) fun cs => cs ≠ [] ∧ KS ⟨upd sl t (.d (.ptr cs)), V.drop o⟩ := rfl
theorem cg_frpV {z : Nat} {v v' : AV} {t : Nat} {sl : Nat → AV} {V : View} (hz : dmy = z) (h : v = v') : frpV v t sl V KS = frpV v' t sl V KS := by rw [h]
theorem cg_onRow2 {z : Nat} {x y : Option AObj} {A B} (hz : dmy = z) (h : x = y) : onRow2 x A B = onRow2 y A B := by rw [h]
theorem ghost_ow {t o ety es : Nat} {sl : Nat → AV} {V : View} : ghost (.own t o ety es) ⟨sl, V⟩ KS = ownV (sl t) t o ety es sl V KS := rfl
theorem ghost_fm {t : Nat} {sl : Nat → AV} {V : View} : ghost (.frzM t) ⟨sl, V⟩ KS = frmV (sl t) t sl V KS := by
  simp only [ghost, frmV]
  cases sl t with
  | mref k o g =>
    cases k with
    | out => simp only; cases V.get o g with
      | none => rfl
      | some x => cases x <;> rfl
    | _ => rfl
  | _ => rfl
theorem frm_mref {t o g : Nat} {sl : Nat → AV} {V : View} : frmV (.mref .out o g) t sl V KS = onMtx (V.get o g) fun _ _ nl ix rows => KS ⟨upd sl t (.d (.list nl (matL ix rows))), V.drop o⟩ := rfl
theorem cg_frmV {z : Nat} {v v' : AV} {t : Nat} {sl : Nat → AV} {V : View} (hz : dmy = z) (h : v = v') : frmV v t sl V KS = frmV v' t sl V KS := by rw [h]
theorem ghost_fa {t : Nat} {sl : Nat → AV} {V : View} : ghost (.frzA t) ⟨sl, V⟩ KS = fraV (sl t) t sl V KS := by
  simp only [ghost, fraV]
  cases sl t with
  | ptr o g f =>
    cases f with
    | zero => rfl
    | succ n => rfl
  | _ => rfl
theorem fra_ptr {t o g : Nat} {sl : Nat → AV} {V : View} : fraV (.ptr o g 0) t sl V KS = fraO (V.get o g) t o sl V KS := rfl
theorem frao_cells {t o : Nat} {c : AV} {l : List AV} {sl : Nat → AV} {V : View} : fraO (some (.cells (c :: l))) t o sl V KS = KS ⟨upd sl t (.ablk false (c :: l) 0), V.drop o⟩ := rfl
theorem cg_fraV {z : Nat} {v v' : AV} {t : Nat} {sl : Nat → AV} {V : View} (hz : dmy = z) (h : v = v') : fraV v t sl V KS = fraV v' t sl V KS := by rw [h]
theorem cg_fraO {z : Nat} {y y' : Option AObj} {t o : Nat} {sl : Nat → AV} {V : View} (hz : dmy = z) (h : y = y') : fraO y t o sl V KS = fraO y' t o sl V KS := by rw [h]
theorem ghost_fc {t off : Nat} {sl : Nat → AV} {V : View} : ghost (.frzC t off) ⟨sl, V⟩ KS = frcV (sl t) off sl V KS := by
  simp only [ghost, frcV]
  cases sl t with
  | ptr b g f =>
    simp only
    cases V.get b g with
    | none => rfl
    | some x =>
      cases x with
      | cells xs =>
        simp only [frcX]
        cases xs[f + off]? with
        | none => rfl
        | some y =>
          cases y with
          | own o p => simp only; cases V.get o p with
            | none => rfl
            | some z => cases z <;> rfl
          | _ => rfl
      | _ => rfl
  | _ => rfl
theorem frc_ptr {b g f off : Nat} {sl : Nat → AV} {V : View} : frcV (.ptr b g f) off sl V KS = frcO (V.get b g) b g (f + off) sl V KS := by
  simp only [frcV, frcO]
theorem frco_cells {b g k : Nat} {xs : List AV} {sl : Nat → AV} {V : View} : frcO (some (.cells xs)) b g k sl V KS = frcX xs[k]? b g k xs sl V KS := rfl
theorem frcx_own {b g k o p : Nat} {xs : List AV} {sl : Nat → AV} {V : View} : frcX (some (.own o p)) b g k xs sl V KS = onRow (V.get o p) fun _ _ nl l => KS ⟨sl, (V.drop o).app (.keep b g (.cells (xs.set k (.d (.list nl l)))))⟩ := rfl
theorem frcx_d {b g k : Nat} {x : D} {xs : List AV} {sl : Nat → AV} {V : View} : frcX (some (.d x)) b g k xs sl V KS = KS ⟨sl, V⟩ := rfl
theorem cg_frcV {z : Nat} {v v' : AV} {off : Nat} {sl : Nat → AV} {V : View} (hz : dmy = z) (h : v = v') : frcV v off sl V KS = frcV v' off sl V KS := by rw [h]
theorem cg_frcO {z : Nat} {y y' : Option AObj} {b g k k' : Nat} {sl : Nat → AV} {V : View} (hz : dmy = z) (h : y = y') (hk : k = k') : frcO y b g k sl V KS = frcO y' b g k' sl V KS := by rw [h, hk]
theorem cg_frcX {z : Nat} {y y' : Option AV} {b g k : Nat} {xs : List AV} {sl : Nat → AV} {V : View} (hz : dmy = z) (h : y = y') : frcX y b g k xs sl V KS = frcX y' b g k xs sl V KS := by rw [h]
theorem ghost_om {t o e1 e2 : Nat} {sl : Nat → AV} {V : View} : ghost (.ownM t o e1 e2) ⟨sl, V⟩ KS = owmV (sl t) t o e1 e2 sl V KS := rfl
theorem owm_nil {t o e1 e2 : Nat} {sl : Nat → AV} {V : View} : owmV (.d (.list true [])) t o e1 e2 sl V KS = (o < lim ∧ KS ⟨upd sl t (.mref .out o (V.cn o)), V.app (.fresh o (.mat e1 e2 true [] []))⟩) := rfl
theorem owm_mref {t o e1 e2 : Nat} {k o' g} {sl : Nat → AV} {V : View} : owmV (.mref k o' g) t o e1 e2 sl V KS = KS ⟨sl, V⟩ := rfl
theorem cg_owmV {z : Nat} {v v' : AV} {t o e1 e2 : Nat} {sl : Nat → AV} {V : View} (hz : dmy = z) (h : v = v') : owmV v t o e1 e2 sl V KS = owmV v' t o e1 e2 sl V KS := by rw [h]
theorem cg_onMtx {z : Nat} {x y : Option AObj} {A} (hz : dmy = z) (h : x = y) : onMtx x A = onMtx y A := by rw [h]
theorem own_nil {t o ety es : Nat} {sl : Nat → AV} {V : View} : ownV (.d (.list true [])) t o ety es sl V KS = (o < lim ∧ KS ⟨upd sl t (.own o (V.cn o)), V.app (.fresh o (.row ety es true []))⟩) := rfl
theorem own_own {t o ety es o' g : Nat} {sl : Nat → AV} {V : View} : ownV (.own o' g) t o ety es sl V KS = KS ⟨sl, V⟩ := rfl
end

theorem upd_app {α : Type} (f : Nat → α) (i : Nat) (x : α) (j : Nat) : upd f i x j = if j = i then x else f j := rfl
theorem upd_pull (f : Nat → Nat) (i x y : Nat) : upd (upd f i x) i y = upd f i y := by funext j; simp only [upd]; split <;> rfl

theorem one_d {x : D} : (AV.d x).one = x.one := rfl
theorem one_own {o g} : (AV.own o g).one = true := rfl
theorem one_fn {f c} : (AV.fn f c).one = true := rfl
theorem done_int {k n} : (D.int k n).one = true := rfl
theorem done_bool {b} : (D.bool b).one = true := rfl
theorem done_list {n l} : (D.list n l).one = true := rfl
theorem cl_agg {c} : (AV.agg c).cells? = some c := rfl
theorem cl_dagg {c} : (AV.d (.agg c)).cells? = some (c.map .d) := rfl
theorem cl_int {k n} : (AV.d (.int k n)).cells? = some [.d (.int k n)] := rfl
theorem cl_bool {b} : (AV.d (.bool b)).cells? = some [.d (.bool b)] := rfl
theorem cl_list {n l} : (AV.d (.list n l)).cells? = some [.d (.list n l)] := rfl
theorem cl_own {o g} : (AV.own o g).cells? = some [.own o g] := rfl
theorem cl_fn {f c} : (AV.fn f c).cells? = some [.fn f c] := rfl

theorem t1_int {k n} : AV.toD1 (.d (.int k n)) = some (.int k n) := rfl
theorem t1_list {n l} : AV.toD1 (.d (.list n l)) = some (.list n l) := rfl
theorem listM_nil {α β : Type} {f : α → Option β} : listM f [] = some [] := rfl
theorem listM_cons {α β : Type} {f : α → Option β} {x : α} {xs : List α} : listM f (x :: xs) = match f x with
    | none => none
    | some y => match listM f xs with | none => none | some ys => some (y :: ys) := rfl
theorem t1_agg {cs} : AV.toD1 (.agg cs) = match listM AV.toD0 cs with | some l => some (.agg l) | none => none := rfl
theorem al_list {V : View} {n l} : (AV.d (.list n l)).asList V = some (n, l) := rfl
theorem al_ex {V : View} {l} : (AV.ex l).asList V = some (false, l) := rfl
theorem al_own {V : View} {o g} : (AV.own o g).asList V = match V.get o g with | some (.row _ _ nil xs) => some (nil, xs) | _ => none := rfl
theorem al_mo {V : View} {o g} : (AV.mref .out o g).asList V = match V.get o g with | some (.mat _ _ nil ix rows) => some (nil, matL ix rows) | _ => none := rfl
theorem al_mr {V : View} {j o g} : (AV.mref (.row j) o g).asList V = match V.get o g with | some (.mat _ _ _ _ rows) => rows[j]? | _ => none := rfl
theorem matL_len {ix rows} : (matL ix rows).length = ix.length := by simp [matL]
theorem as_d {V : View} {x} : appSrc V none (.d x) = match (AV.d x).asList V with | some (_, ys) => some ys | none => none := rfl
theorem as_ex {V : View} {x} : appSrc V none (.ex x) = match (AV.ex x).asList V with | some (_, ys) => some ys | none => none := rfl
theorem as_some {V : View} {z n} : appSrc V (some z) (.d (.int .i64 n)) = if 0 ≤ n ∧ n ≤ (bound : Int) then some (List.replicate n.toNat z) else none := rfl
theorem fillR_nil {es xs} : fillR es xs [] = some xs := rfl
theorem fillR_cons {es xs i v rest} : fillR es xs ((i, v) :: rest) = match v.toD1 with
    | none => none
    | some x => if x.cells.length = es ∧ i < xs.length then fillR es (xs.set i x) rest else none := rfl
theorem fillA_nil {cs} : fillA cs [] = some cs := rfl
theorem fillA_cons {cs off size v rest} : fillA cs (((off, size), v) :: rest) = match v.cells? with
    | none => none
    | some vs => if vs.length = size ∧ off + size ≤ cs.length then fillA (splice cs off vs) rest else none := rfl
theorem cells_int {k n} : (D.int k n).cells = [.int k n] := rfl
theorem cells_list {n l} : (D.list n l).cells = [.list n l] := rfl
theorem up_int {k n} : up (.int k n) = .d (.int k n) := rfl
theorem up_list {n l} : up (.list n l) = .d (.list n l) := rfl
theorem up_agg {l} : up (.agg l) = .d (.agg l) := rfl
theorem up_tup {l} : up (.tup l) = .tup (l.map .d) := rfl
theorem site_none : Chg.site .none = [] := rfl
theorem site_seq {a b} : Chg.site (.seq a b) = a.site ++ b.site := rfl
theorem site_fresh {o x} : Chg.site (.fresh o x) = [o] := rfl
theorem site_keep {o g x} : Chg.site (.keep o g x) = [o] := rfl

def ints (xs : List Int) : List D := xs.map (D.int .i64)
@[simp] theorem ints_nil : ints [] = [] := rfl
theorem ints_nil_iff (xs : List Int) : (ints xs = []) = (xs = []) := by cases xs <;> simp [ints]
theorem ints_len (xs : List Int) : (ints xs).length = xs.length := by simp [ints]
theorem ints_app (xs ys : List Int) : ints xs ++ ints ys = ints (xs ++ ys) := by simp [ints]
theorem ints_snoc (xs : List Int) (y : Int) : ints xs ++ [.int .i64 y] = ints (xs ++ [y]) := by simp [ints]
theorem ints_set (xs : List Int) (i : Nat) (y : Int) : (ints xs).set i (.int .i64 y) = ints (xs.set i y) := by simp [ints, List.map_set]
theorem ints_rep (n : Nat) (y : Int) : List.replicate n (D.int .i64 y) = ints (List.replicate n y) := by simp [ints]
theorem ints_empty (xs : List Int) : (ints xs).isEmpty = xs.isEmpty := by cases xs <;> rfl
theorem ints_unif (xs : List Int) : Unif 1 (ints xs) = True := by
  simp only [Unif, ints, eq_iff_iff, iff_true]; intro x hx; simp at hx; obtain ⟨n, _, rfl⟩ := hx; rfl
theorem unif_nil {es : Nat} : Unif es [] = True := by simp [Unif]
theorem unif_cons {es : Nat} {x : D} {l : List D} : Unif es (x :: l) = (x.cells.length = es ∧ Unif es l) := by simp [Unif]
theorem unif_map {α : Type} {es : Nat} {f : α → D} {l : List α} (h : ∀ x, (f x).cells.length = es) : Unif es (l.map f) = True := by
  simp only [Unif, eq_iff_iff, iff_true]; intro x hx; simp at hx; obtain ⟨y, _, rfl⟩ := hx; exact h y
theorem onSome_ints {xs : List Int} {i : Nat} {A : D → Prop} : onSome (ints xs)[i]? A = (i < xs.length ∧ A (.int .i64 (xs[i]?.getD 0))) := by
  unfold ints
  rw [List.getElem?_map]
  by_cases h : i < xs.length
  · simp [h, onSome]
  · have : xs[i]? = none := List.getElem?_eq_none (by omega)
    simp [this, h, onSome]
theorem onSome_map {α : Type} [Inhabited α] {f : α → D} {xs : List α} {i : Nat} {A : D → Prop} : onSome (xs.map f)[i]? A = (i < xs.length ∧ A (f (xs[i]?.getD default))) := by
  rw [List.getElem?_map]
  by_cases h : i < xs.length
  · simp [h, onSome]
  · have : xs[i]? = none := List.getElem?_eq_none (by omega)
    simp [this, h, onSome]
theorem onSome_nats {xs : List Nat} {i : Nat} {A : Nat → Prop} : onSome xs[i]? A = (i < xs.length ∧ A (xs[i]?.getD 0)) := by
  by_cases h : i < xs.length
  · simp [h, onSome]
  · have : xs[i]? = none := List.getElem?_eq_none (by omega)
    simp [this, h, onSome]
def mrows {α : Type} (f : α → D) (M : List (List α)) : List (Bool × List D) := M.map fun r => (false, r.map f)
section
variable {E : Env} {dst : Option Nat} {V : View} {K : AV → Chg → Prop} {f : FuncId} {xs : List AV}
theorem call_d {ds : List D} {r : D} (h : Ret E f ds r) (ha : argsD0 xs = some ds) (hk : K (up r) .none) : evCall E dst V f xs K := .inl ⟨ds, r, ha, h, hk⟩
theorem call_s {ds : List D} {r : D} (h : Ret E f ds r) (ha : argsD V xs = some ds) (hf : r.flat = true) (hk : K (up r) .none) : evCall E dst V f xs K := .inr (.inl ⟨ds, r, ha, h, hf, hk⟩)
end

section
variable {E : Env} {Q : PExit → PSt → Prop} {s : PSt}
def setL (l : List (Nat × AV)) (k : Nat) (v : AV) : List (Nat × AV) := l.map fun p => if p.1 = k then (k, v) else p
def setO (l : List (Nat × (Nat × AObj))) (k : Nat) (x : AObj) : List (Nat × (Nat × AObj)) := l.map fun p => if p.1 = k then (k, (0, x)) else p
def setLs (l : List (Nat × AV)) : List (Nat × AV) → List (Nat × AV)
  | [] => l
  | (k, v) :: r => setL (setLs l r) k v
def setOs (l : List (Nat × (Nat × AObj))) : List (Nat × AObj) → List (Nat × (Nat × AObj))
  | [] => l
  | (k, v) :: r => setO (setOs l r) k v

theorem setL_nil {k : Nat} {v : AV} : setL [] k v = [] := rfl
theorem setL_cons {a k : Nat} {b v : AV} {l} : setL ((a, b) :: l) k v = (if a = k then (k, v) else (a, b)) :: setL l k v := rfl
theorem setO_nil {k : Nat} {v : AObj} : setO [] k v = [] := rfl
theorem setO_cons {a k : Nat} {b : Nat × AObj} {v : AObj} {l} : setO ((a, b) :: l) k v = (if a = k then (k, (0, v)) else (a, b)) :: setO l k v := rfl
theorem setLs_nil {l} : setLs l [] = l := rfl
theorem setLs_cons {l k v r} : setLs l ((k, v) :: r) = setL (setLs l r) k v := rfl
theorem setOs_nil {l} : setOs l [] = l := rfl
theorem setOs_cons {l k v r} : setOs l ((k, v) :: r) = setO (setOs l r) k v := rfl
theorem val_t {f : Nat → AV} {n : Nat} : Opd.val f (.t n) = f n := rfl
theorem val_k {f : Nat → AV} {v : AV} : Opd.val f (.k v) = v := rfl
theorem splice_eq {α : Type} (cs : List α) (off : Nat) (vs : List α) : splice cs off vs = cs.take off ++ vs ++ cs.drop (off + vs.length) := rfl

theorem pw_loopS {α : Type} (up : α → List (Nat × AV)) (uo : α → List (Nat × AObj)) (Inv : α → Prop) (μ : α → Nat) (x0 : α) {gs : List Ghost} {ks os : List Nat} {a : PC}
    {l0 : List (Nat × AV)} {m0 : List (Nat × (Nat × AObj))} (h0 : ghosts gs s fun s1 => s1.nrm ks os = ⟨look l0, ⟨lookO m0, fun _ => 1⟩⟩)
    (he : setLs l0 (up x0) = l0) (he' : setOs m0 (uo x0) = m0) (hI : Inv x0)
    (step : ∀ x, Inv x → pw E a (thenQ (fun s' => ghosts gs s' fun s1 => ∃ y, s1.nrm ks os = ⟨look (setLs l0 (up y)), ⟨lookO (setOs m0 (uo y)), fun _ => 1⟩⟩ ∧ Inv y ∧ μ y < μ x) Q) ⟨look (setLs l0 (up x)), ⟨lookO (setOs m0 (uo x)), fun _ => 1⟩⟩) :
    pw E (.loop gs ks os a) Q s :=
  pw_loopI (fun x => ⟨look (setLs l0 (up x)), ⟨lookO (setOs m0 (uo x)), fun _ => 1⟩⟩) Inv μ x0 (by rw [he, he']; exact h0) hI step
end

theorem wrapI (n : Int) (h : -9223372036854775808 ≤ n ∧ n ≤ 9223372036854775807) : IntKind.i64.wrap n = n := Go.IntWalk.i64_in n h

theorem retQ_ret {E : Env} {rs r s} : retQ E rs r .ret s = resK E s rs (snapR s.V r) := rfl
theorem resK_nil {E : Env} {s K} : resK E s [] K = K [] := rfl
theorem resK_cons {E : Env} {s r l K} : resK E s (r :: l) K = res1 E s r fun v => resK E s l fun vs => K (v :: vs) := rfl
theorem res1_t {E : Env} {s n K} : res1 E s (.t n) K = K (s.sl n) := rfl
theorem res1_c {E : Env} {s a ty ag n K} : res1 E s (.c a ty ag n) K = ev E none s.V (.load ag n) [s.sl a] fun v _ => K v := rfl
theorem snapR_1 {V r v} : snapR V r [v] = (v.snap V = some r) := rfl
theorem snapR_2 {V r v u} : snapR V r [v, u] = ((listM (AV.snap V) [v, u]).map .tup = some r) := rfl
theorem snapR_3 {V r v u t} : snapR V r [v, u, t] = ((listM (AV.snap V) [v, u, t]).map .tup = some r) := rfl
theorem sn_int {V k n} : AV.snap V (.d (.int k n)) = some (.int k n) := rfl
theorem sn_bool {V b} : AV.snap V (.d (.bool b)) = some (.bool b) := rfl
theorem sn_list {V n l} : AV.snap V (.d (.list n l)) = some (.list n l) := rfl
theorem sn_own {V o g} : AV.snap V (.own o g) = match V.get o g with | some (.row _ _ nil xs) => some (.list nil xs) | _ => none := rfl
theorem sn_agg {V cs} : AV.snap V (.agg cs) = match listM (AV.snap0 V) cs with | some l => some (.agg l) | none => none := rfl
theorem s0_int {V k n} : AV.snap0 V (.d (.int k n)) = some (.int k n) := rfl
theorem some_eq {α : Type} {a b : α} : (some a = some b) = (a = b) := by simp
theorem omap_some {α β : Type} {f : α → β} {a : α} : Option.map f (some a) = some (f a) := rfl

/- A comparison parts the ways. -/
section
variable {k k' : IntKind} {a b : Int} {C : AV → Prop}
theorem bin_eql : evBin .eql k k' a b C = (k = k' ∧ (a = b → C (.d (.bool true))) ∧ (¬ a = b → C (.d (.bool false)))) := by
  rw [evBin_eql]; by_cases h : a = b <;> simp [h]
theorem bin_neq : evBin .neq k k' a b C = (k = k' ∧ (a = b → C (.d (.bool false))) ∧ (¬ a = b → C (.d (.bool true)))) := by
  rw [evBin_neq]; by_cases h : a = b <;> simp [h]
theorem bin_lss : evBin .lss k k' a b C = (k = k' ∧ (a < b → C (.d (.bool true))) ∧ (¬ a < b → C (.d (.bool false)))) := by
  rw [evBin_lss]; by_cases h : a < b <;> simp [h]
theorem bin_leq : evBin .leq k k' a b C = (k = k' ∧ (a ≤ b → C (.d (.bool true))) ∧ (¬ a ≤ b → C (.d (.bool false)))) := by
  rw [evBin_leq]; by_cases h : a ≤ b <;> simp [h]
theorem bin_gtr : evBin .gtr k k' a b C = (k = k' ∧ (b < a → C (.d (.bool true))) ∧ (¬ b < a → C (.d (.bool false)))) := by
  rw [evBin_gtr]; by_cases h : b < a <;> simp [h]
theorem bin_geq : evBin .geq k k' a b C = (k = k' ∧ (b ≤ a → C (.d (.bool true))) ∧ (¬ b ≤ a → C (.d (.bool false)))) := by
  rw [evBin_geq]; by_cases h : b ≤ a <;> simp [h]
end
section
variable {E : Env} {dst : Option Nat} {V : View} {K : AV → Chg → Prop} {f : FuncId} {xs : List AV}
theorem call_b {ds : List D} {b : Bool} (h : Ret E f ds (.bool b)) (ha : argsD0 xs = some ds) (h1 : b = true → K (.d (.bool true)) .none) (h2 : b = false → K (.d (.bool false)) .none) : evCall E dst V f xs K :=
  call_d h ha (by cases b with | true => exact h1 rfl | false => exact h2 rfl)
theorem call_sb {ds : List D} {b : Bool} (h : Ret E f ds (.bool b)) (ha : argsD V xs = some ds) (h1 : b = true → K (.d (.bool true)) .none) (h2 : b = false → K (.d (.bool false)) .none) : evCall E dst V f xs K :=
  call_s h ha rfl (by cases b with | true => exact h1 rfl | false => exact h2 rfl)
theorem onSome_if {α : Type} {p : Prop} [Decidable p] {x : α} {A : α → Prop} : onSome (if p then some x else none) A = (p ∧ A x) := by
  by_cases h : p <;> simp [h, onSome]
end

/- Regions in any order: only what is asked for is written down. -/
section
variable {E : Env} {K : PSt → Prop}
def lookR (j : Nat) : List (Nat × Rec) → Option Rec
  | [] => none
  | (i, r) :: l => if j = i then some r else lookR j l
def apartO (x : Option Rec) (b : Rec) : Bool := match x with | some r => apartS r b | none => false
def recI (need : List Nat) (i : Nat) (r : Rec) (rec : List (Nat × Rec)) : List (Nat × Rec) := if need.contains i then (i, r) :: rec else rec
def seqE (E : Env) : Nat → List Nat → List (Ins × List Nat) → List (Nat × Rec) → PSt → (PSt → Prop) → Prop
  | _, _, [], _, s, K => K s
  | i, need, (I, dy) :: l, rec, s, K => stepI E I s fun v ch =>
      (dy.all fun j => apartO (lookR j rec) (ch.site, foot1 I s)) = true ∧
      seqE E (i + 1) need l (recI need i (ch.site, foot1 I s) rec) (put s I.dst v ch) K

theorem seqE_eq {need : List Nat} : ∀ {l : List (Ins × List Nat)} {rec : List Rec} {recE : List (Nat × Rec)} {s : PSt}, (∀ j, j ∈ l.flatMap (·.2) → j ∈ need) → (∀ j, j ∈ need → lookR j recE = rec[j]?) → seqD E l rec s K = seqE E rec.length need l recE s K
  | [], _, _, _, _, _ => rfl
  | (I, dy) :: l, rec, recE, s, hn, hr => by
    simp only [seqD, seqE]
    congr 1
    funext v ch
    have h1 : (dy.all fun j => match rec[j]? with | some r => apartS r (ch.site, foot1 I s) | none => false) = (dy.all fun j => apartO (lookR j recE) (ch.site, foot1 I s)) := by
      rw [Bool.eq_iff_iff, List.all_eq_true, List.all_eq_true]
      have : ∀ j, j ∈ dy → (match rec[j]? with | some r => apartS r (ch.site, foot1 I s) | none => false) = apartO (lookR j recE) (ch.site, foot1 I s) := fun j hj => by
        rw [hr j (hn j (by simp [hj]))]; rfl
      exact ⟨fun h j hj => by rw [← this j hj]; exact h j hj, fun h j hj => by rw [this j hj]; exact h j hj⟩
    refine congr (congrArg And (congrArg (fun b => b = true) h1)) ?_
    have h2 := seqE_eq (need := need) (l := l) (rec := rec ++ [(ch.site, foot1 I s)]) (recE := recI need rec.length (ch.site, foot1 I s) recE) (s := put s I.dst v ch) (fun j hj => hn j (by simp at hj ⊢; exact .inr hj)) fun j hj => by
      unfold recI
      by_cases h : need.contains rec.length = true
      · rw [if_pos h]
        simp only [lookR]
        by_cases hjl : j = rec.length
        · subst hjl; simp
        · rw [if_neg hjl, hr j hj]
          by_cases hlt : j < rec.length
          · rw [List.getElem?_append_left hlt]
          · rw [List.getElem?_eq_none (by omega), List.getElem?_eq_none (by simp; omega)]
      · rw [if_neg h, hr j hj]
        have hne : j ≠ rec.length := by rintro rfl; exact h (by simpa using hj)
        by_cases hlt : j < rec.length
        · rw [List.getElem?_append_left hlt]
        · rw [List.getElem?_eq_none (by omega), List.getElem?_eq_none (by simp; omega)]
    rw [h2]; simp
theorem pw_draw' {Q : PExit → PSt → Prop} {s : PSt} {gs l ks} : pw E (.draw gs l ks) Q s = ghosts gs s fun s' => seqE E 0 (l.flatMap (·.2)) l [] s' fun s' => Q .normal (s'.keep ks) := by
  rw [pw_draw]
  congr 1; funext s'
  exact seqE_eq (rec := []) (recE := []) (fun j hj => hj) fun j hj => by simp [lookR]
theorem seqE_nil {i need r} {s : PSt} : seqE E i need [] r s K = K s := rfl
theorem seqE_cons0 {i need I l r} {s : PSt} : seqE E i need ((I, []) :: l) r s K = stepI E I s fun v ch => seqE E (i + 1) need l (recI need i (ch.site, foot1 I s) r) (put s I.dst v ch) K := by
  simp [seqE]
theorem seqE_cons {i need I j dy l r} {s : PSt} : seqE E i need ((I, j :: dy) :: l) r s K = stepI E I s fun v ch =>
      ((j :: dy).all fun j => apartO (lookR j r) (ch.site, foot1 I s)) = true ∧ seqE E (i + 1) need l (recI need i (ch.site, foot1 I s) r) (put s I.dst v ch) K := rfl
theorem cg_seqE {z : Nat} {i i' need need' l} {r r' : List (Nat × Rec)} {s s' : PSt} (hz : dmy = z) (hi : i = i') (hn : need = need') (hr : r = r') (h : s = s') : seqE E i need l r s K = seqE E i' need' l r' s' K := by rw [h, hr, hi, hn]
theorem recI_t {need : List Nat} {i : Nat} {r : Rec} {rec : List (Nat × Rec)} (h : need.contains i = true) : recI need i r rec = (i, r) :: rec := by simp only [recI, h, if_true]
theorem recI_f {need : List Nat} {i : Nat} {r : Rec} {rec : List (Nat × Rec)} (h : need.contains i = false) : recI need i r rec = rec := by simp only [recI, h, Bool.false_eq_true, if_false]
theorem lookR_nil {j : Nat} : lookR j [] = none := rfl
theorem lookR_cons {j i : Nat} {r : Rec} {l} : lookR j ((i, r) :: l) = if j = i then some r else lookR j l := rfl
theorem apartO_s {r b : Rec} : apartO (some r) b = apartS r b := rfl
theorem ap_eq {a f b f'} : apartS (a, f) (b, f') = ((a.all fun o => !f'.contains o) && (b.all fun o => !f.contains o)) := rfl
theorem foot1_eq {d g op xs} {sl : Nat → AV} {V : View} : foot1 ⟨d, g, op, xs⟩ ⟨sl, V⟩ = fp V d op (xs.map (Opd.val sl)) := rfl
theorem st_d {x} : AV.sites (.d x) = [] := by cases x <;> rfl
theorem st_ex {x} : AV.sites (.ex x) = [] := rfl
theorem st_dptr {x n} : AV.sites (.dptr x n) = [] := rfl
theorem st_own {o g} : AV.sites (.own o g) = [o] := rfl
theorem st_ptr {o g f} : AV.sites (.ptr o g f) = [o] := rfl
theorem st_rptr {o g e i f} : AV.sites (.rptr o g e i f) = [o] := rfl
theorem st_mref {k o g} : AV.sites (.mref k o g) = [o] := rfl
theorem st_ablk {s l f} : AV.sites (.ablk s l f) = AV.sites.sitesL l := rfl
theorem st_agg {l} : AV.sites (.agg l) = AV.sites.sitesL l := rfl
theorem st_fn {f l} : AV.sites (.fn f l) = AV.sites.sitesL l := rfl
theorem st_tup {l} : AV.sites (.tup l) = AV.sites.sitesL l := rfl
theorem stL_nil : AV.sites.sitesL [] = [] := rfl
theorem stL_cons {x l} : AV.sites.sitesL (x :: l) = x.sites ++ AV.sites.sitesL l := rfl
section
variable {d : Option Nat} {xs : List AV} {V : View}
theorem fp_mov : fp V d .mov xs = [] := rfl
theorem fp_pick : fp V d .pick xs = [] := rfl
theorem fp_bin {b} : fp V d (.bin b) xs = [] := rfl
theorem fp_un {b} : fp V d (.un b) xs = [] := rfl
theorem fp_faddr {a} : fp V d (.faddr a) xs = [] := rfl
theorem fp_iaddrA {a b} : fp V d (.iaddrA a b) xs = [] := rfl
theorem fp_build {a b} : fp V d (.build a b) xs = [] := rfl
theorem fp_mkrow {a b c e} : fp V d (.mkrow a b c e) xs = [] := rfl
theorem fp_extract {a} : fp V d (.extract a) xs = [] := rfl
theorem fp_load {a b} : fp V d (.load a b) xs = AV.sites.sitesL xs := rfl
theorem fp_iaddrS {a} : fp V d (.iaddrS a) xs = AV.sites.sitesL xs := rfl
theorem fp_len {a} : fp V d (.len a) xs = AV.sites.sitesL xs := rfl
theorem fp_store {a} : fp V d (.store a) xs = d.toList ++ AV.sites.sitesL xs := rfl
theorem fp_call {a} : fp V d (.call a) xs = callF d V xs := rfl
theorem fp_callv : fp V d .callv xs = callF d V xs := rfl
theorem callF_some {t} : callF (some t) V xs = newS t ++ V.reach 3 (AV.sites.sitesL xs) := rfl
theorem newS_eq {t} : newS t = [t, t + 10000, t + 20000, t + 30000] := rfl
theorem reach_nil : ∀ {n : Nat}, V.reach n [] = []
  | 0 => rfl
  | n + 1 => by simp only [View.reach, List.flatMap_nil, reach_nil, List.append_nil]
theorem reach_3 {o l} : V.reach 3 (o :: l) = (o :: l) ++ V.reach 2 ((o :: l).flatMap V.osites) := rfl
def obSites : Option (Nat × AObj) → List Nat
  | some (_, .cells xs) => AV.sites.sitesL xs
  | some (_, .rowH _ _ _ q _) => [q]
  | _ => []
theorem osites_eq {ob cn o} : (View.mk ob cn).osites o = obSites (ob o) := rfl
theorem obs_cells {g xs} : obSites (some (g, .cells xs)) = AV.sites.sitesL xs := rfl
theorem obs_mat {g a b c d e} : obSites (some (g, .mat a b c d e)) = [] := rfl
theorem fp_app {a b c e} : fp V d (.app a b c e) xs = d.toList ++ AV.sites.sitesL xs := rfl
end
theorem toL_some {a : Nat} : (some a).toList = [a] := rfl
theorem toL_none : (none : Option Nat).toList = [] := rfl
end

theorem wf_int {k n} : (D.int k n).WF = InK k n := by rw [D.WF]
theorem wf_bool {b} : (D.bool b).WF = True := by rw [D.WF]
theorem wf_list {nl xs} : (D.list nl xs).WF = (xs.length ≤ maxLen ∧ ∀ x, x ∈ xs → x.WF) := by rw [D.WF]
theorem wf_agg {xs} : (D.agg xs).WF = (∀ x, x ∈ xs → x.WF) := by rw [D.WF]
theorem wf_ptr {xs} : (D.ptr xs).WF = (∀ x, x ∈ xs → x.WF) := by rw [D.WF]
theorem wf_fn {f xs} : (D.fn f xs).WF = (∀ x, x ∈ xs → x.WF) := by rw [D.WF]
theorem wf_tup {xs} : (D.tup xs).WF = (∀ x, x ∈ xs → x.WF) := by rw [D.WF]
theorem wf_ints {nl} {xs : List Int} : (D.list nl (ints xs)).WF = (xs.length ≤ maxLen ∧ ∀ x, x ∈ xs → InK .i64 x) := by
  rw [wf_list, ints_len]; simp [ints, wf_int]
theorem wf_all_cons {x : D} {l : List D} : (∀ y, y ∈ x :: l → y.WF) = (x.WF ∧ ∀ y, y ∈ l → y.WF) := by simp
theorem wf_all_nil : (∀ y, y ∈ ([] : List D) → y.WF) = True := by simp
theorem wf_all_map {α : Type} {f : α → D} {l : List α} : (∀ y, y ∈ l.map f → y.WF) = (∀ x, x ∈ l → (f x).WF) := by simp
theorem inK_i64 {n : Int} : InK .i64 n = (-9223372036854775808 ≤ n ∧ n ≤ 9223372036854775807) := by
  simp [InK, IntKind.min, IntKind.max, IntKind.signed, IntKind.bits]
theorem maxLen_eq : maxLen = 9223372036854775807 := rfl

theorem argsD0_cons {x : AV} {d : D} {xs : List AV} {ds : List D} (h : x.toD1 = some d) (h' : listM AV.toD1 xs = some ds) : argsD0 (x :: xs) = some (d :: ds) := by
  simp only [argsD0, listM, h, h']

theorem bound_eq : bound = 1073741824 := rfl
theorem lim_eq : lim = 900000 := rfl

/-! Functions that are handed objects. -/
theorem enterM_eq (V0 : List (Nat × Nat × AObj)) (xs : List AV) : PSt.enterM V0 xs = ⟨look (xs.zipIdx.map fun (d, k) => (k, d)), ⟨lookO V0, fun _ => 1⟩⟩ := by
  have key : ∀ (xs : List AV) (n t : Nat), (match xs[t]? with | some d => d | none => .undef) = look ((xs.zipIdx n).map fun (d, k) => (k, d)) (n + t) := by
    intro xs
    induction xs with
    | nil => intro n t; simp [look]
    | cons x xs ih =>
      intro n t
      cases t with
      | zero => simp [look]
      | succ t =>
        have := ih (n + 1) t
        simp only [List.getElem?_cons_succ, List.zipIdx_cons, List.map_cons, look]
        rw [if_neg (by omega), this]
        congr 1; omega
  unfold PSt.enterM
  congr 1
  funext t
  have := key xs 0 t
  simp only [Nat.zero_add] at this
  rw [← this]
  cases xs[t]? <;> rfl
theorem call_m {E : Env} {dst : Option Nat} {V : View} {K : AV → Chg → Prop} {f : FuncId} {xs : List AV} {V0 V1 : List (Nat × Nat × AObj)} {cxs : List AV} {r r' : AV} {ch : Chg} (ρ ρ2 : Ren) (h : CallM E f V0 cxs V1 r) (h1 : argsM ρ cxs xs)
    (h2 : Handed V (callF dst V xs) ρ V0) (h3 : namesOk V.cn dst V0 V1 ρ ρ2 = true) (h4 : r.ren ρ2 = some r') (h5 : backC ρ ρ2 V1 = some ch) (hk : K r' ch) : evCall E dst V f xs K :=
  .inr (.inr (.inr ⟨V0, cxs, V1, r, r', ch, ρ, ρ2, h1, h, h2, h3, h4, h5, hk⟩))
theorem retM_ret {E : Env} {rs V1 r s} : retM E rs V1 r .ret s = (resK E s rs (mkR V1 s.V r) ∧ inV s.V V1) := rfl
theorem retM_normal {E : Env} {rs V1 r s} : retM E rs V1 r .normal s = (resK E s rs (mkR V1 s.V r) ∧ inV s.V V1) := rfl
section
variable {V : View} {V1 : List (Nat × Nat × AObj)}
theorem mkR_1 {r v} : mkR V1 V r [v] = compR V1 V v r := rfl
theorem mkR_0 {rs} : mkR V1 V (.tup rs) [] = compL V1 V [] rs := rfl
theorem compL_nil : compL V1 V [] [] = True := rfl
theorem compR_d {v d} : compR V1 V v (.d d) = (v.snap V = some d ∧ (v.sites.all fun o => !hasO V1 o) = true) := rfl
theorem compR_own {v o g} : compR V1 V v (.own o g) = (v = .own o g) := rfl
theorem hasO_nil {o} : hasO [] o = false := rfl
theorem hasO_cons {p l o} : hasO (p :: l) o = (p.1 == o || hasO l o) := rfl
def inOb : Option (Nat × AObj) → Nat → AObj → Prop
  | some (g', .map t l), g, .map t' l' => g' = g ∧ t = t' ∧ l = l'
  | some (g', .row a b c l), g, .row a' b' c' l' => g' = g ∧ a = a' ∧ b = b' ∧ c = c' ∧ l = l'
  | some (g', .cells l), g, .cells l' => g' = g ∧ l = l'
  | some (g', .hist a b c), g, .hist a' b' c' => g' = g ∧ a = a' ∧ b = b' ∧ c = c'
  | some (g', .rowH a b c d e), g, .rowH a' b' c' d' e' => g' = g ∧ a = a' ∧ b = b' ∧ c = c' ∧ d = d' ∧ e = e'
  | some (g', .mat a b c d e), g, .mat a' b' c' d' e' => g' = g ∧ a = a' ∧ b = b' ∧ c = c' ∧ d = d' ∧ e = e'
  | _, _, _ => False
theorem inOb_eq {x : Option (Nat × AObj)} {g : Nat} {y : AObj} : inOb x g y = (x = some (g, y)) := by
  cases x with
  | none => simp [inOb]
  | some p => obtain ⟨g', z⟩ := p; cases z <;> cases y <;> simp [inOb]
theorem inOb_row {g' a b c l g a' b' c' l'} : inOb (some (g', .row a b c l)) g (.row a' b' c' l') = (g' = g ∧ a = a' ∧ b = b' ∧ c = c' ∧ l = l') := rfl
theorem inOb_mat {g' a b c d e g a' b' c' d' e'} : inOb (some (g', .mat a b c d e)) g (.mat a' b' c' d' e') = (g' = g ∧ a = a' ∧ b = b' ∧ c = c' ∧ d = d' ∧ e = e') := rfl
theorem inOb_cells {g' l g l'} : inOb (some (g', .cells l)) g (.cells l') = (g' = g ∧ l = l') := rfl
theorem inV_nil : inV V [] = True := rfl
theorem inV_cons {o g x l} : inV V ((o, g, x) :: l) = (inOb (V.ob o) g x ∧ inV V l) := by rw [inOb_eq]; rfl
end

theorem isCall {E : Env} {dst : Option Nat} {V : View} {K : AV → Chg → Prop} {f : FuncId} {xs : List AV} (h : evCall E dst V f xs K) : evCall E dst V f xs K := h
theorem isEx {α : Type} {S : PSt} {T : α → PSt} {I M : α → Prop} (h : ∃ y, S = T y ∧ I y ∧ M y) : ∃ y, S = T y ∧ I y ∧ M y := h
theorem isEx2 {α β : Type} {S : PSt} {T : α × β → PSt} {I M : α × β → Prop} (h : ∃ y, S = T y ∧ I y ∧ M y) : ∃ y, S = T y ∧ I y ∧ M y := h
theorem isEx3 {α β γ : Type} {S : PSt} {T : α × β × γ → PSt} {I M : α × β × γ → Prop} (h : ∃ y, S = T y ∧ I y ∧ M y) : ∃ y, S = T y ∧ I y ∧ M y := h
theorem isEx4 {α β γ δ : Type} {S : PSt} {T : α × β × γ × δ → PSt} {I M : α × β × γ × δ → Prop} (h : ∃ y, S = T y ∧ I y ∧ M y) : ∃ y, S = T y ∧ I y ∧ M y := h
theorem take_rest {α : Type} (xs : List α) (a : Nat) : (xs.drop a).take (xs.length - a) = xs.drop a := List.take_of_length_le (by simp)
theorem take_all {α : Type} (xs : List α) : xs.take xs.length = xs := List.take_length
theorem sub_zero' (n : Nat) : n - 0 = n := rfl

def allP (a b : List D) : Prop := allEq a b = true
section
variable {E : Env} {dst : Option Nat} {V : View} {K : AV → Chg → Prop}
end

def Det (E : Env) (p : PC) (Q : PExit → PSt → Prop) (s : PSt) : Prop := ∃ e s', Q e s' ∧ ∀ Q' : PExit → PSt → Prop, Q' e s' → pw E p Q' s
/- THE RULES, as one set. -/
attribute [go_sem] dmy_eq pw_skip pw_dead pw_reg pw_draw' pw_seq pw_cond pw_block pw_exit pw_ret thenQ_normal thenQ_exit thenQ_ret blockQ_normal blockQ_ret blockQ_exit ghosts_nil ghosts_cons ghost_fz ghost_fp frp_ptr ghost_fm frm_mref ghost_fa fra_ptr frao_cells ghost_fc frc_ptr frco_cells frcx_own frcx_d ghost_om owm_nil owm_mref ghost_ow frz_own frz_d frz_ex frz_undef own_nil own_own seqI_nil seqI_cons seqE_nil seqE_cons0 seqE_cons recI_t recI_f lookR_nil lookR_cons apartO_s ap_eq foot1_eq st_d st_ex st_dptr st_own st_ptr st_rptr st_mref st_ablk st_agg st_fn st_tup stL_nil stL_cons fp_mov fp_pick fp_bin fp_un fp_faddr fp_iaddrA fp_build fp_mkrow fp_extract fp_load fp_iaddrS fp_len fp_store fp_call fp_callv fp_app toL_some toL_none List.flatMap_cons List.flatMap_nil site_none site_fresh site_keep site_seq callF_some newS_eq reach_nil reach_3 osites_eq obs_cells obs_mat stepI_plain stepI_g guard_t guard_f guard_u put_some put_none app_none app_keep app_fresh app_seq keep_eq nrm_eq look_cons look_nil lookO_cons lookO_nil get_at upd_look upd_app upd_pull drop_eq lookO2_nil lookO2_cons onrm_row onrm_mat onrm_cells nrm_d nrm_undef nrm_own nrm_ptr nrm_mref nrm_ablk nrm_fn nrmL_nil nrmL_cons live_eq one_d one_own one_fn done_int done_bool done_list cl_agg cl_dagg cl_int cl_bool cl_list cl_own cl_fn t1_int t1_list listM_nil listM_cons t1_agg al_list al_ex al_own al_mo al_mr matL_len as_d as_ex as_some fillR_nil fillR_cons fillA_nil fillA_cons cells_int cells_list up_int up_list up_agg up_tup ev_mov ev_pick ev_bin ev_not ev_load_ptr ev_load_rptr ev_load_dptr ev_load_d ev_store_ptr ev_store_rptr_d ev_faddr_ptr ev_faddr_dptr ev_faddr_d ev_iaddr_d ev_box ev_conv ev_extract ev_call ev_iaddr_own ev_iaddrA_d ev_build ev_mkrow_nil ev_mkrow_d ev_mkrow_own ev_load_xp ev_load_mp ev_load_ab ev_store_xp ev_store_mp ev_iaddr_mo ev_iaddr_mr ev_app_m onMtx_some onSome_nats ev_mkrowO ev_mkfn ev_zero ev_mksl_own ev_mksl_d ev_slice_d ev_slice_ownh ev_cap rng_ft rng_tf ev_len ev_eqnil ev_app_own ev_app_nil ev_app_ex ev_app_exD ev_callv_fn ev_callv_d part_t part_f bin_eql bin_neq bin_lss bin_leq bin_gtr bin_geq onSome_if evBin_add evBin_sub evBin_mul evBin_quo evBin_rem evBin_shl evBin_shr evBin_and evBin_xor onSome_some onCells_some onRow_some onRow2_row take_rest take_all sub_zero' condV_bool condB_true condB_false ints_nil_iff ints_len ints_app ints_snoc ints_set ints_rep ints_empty ints_unif unif_nil unif_cons onSome_ints onSome_map retQ_ret retM_ret retM_normal mkR_0 mkR_1 compL_nil compR_d compR_own hasO_nil hasO_cons inOb_row inOb_mat inOb_cells inV_nil inV_cons resK_nil resK_cons res1_t res1_c snapR_1 snapR_2 snapR_3 sn_int sn_bool sn_list sn_own sn_agg s0_int some_eq omap_some val_t val_k List.map_cons List.map_nil List.zipIdx_cons List.zipIdx_nil List.zip_cons_cons List.zip_nil_left List.length_cons List.length_nil List.getElem?_cons_zero List.getElem?_cons_succ List.drop_zero List.drop_succ_cons List.take_succ_cons List.take_zero List.take_nil List.drop_nil List.contains_cons List.contains_nil List.filter_cons List.filter_nil List.all_cons List.all_nil List.cons_append List.nil_append List.append_nil List.set_cons_zero List.set_cons_succ splice_eq List.replicate_succ List.replicate_zero List.isEmpty_cons List.isEmpty_nil List.length_map id_eq Nat.lt_irrefl Nat.zero_add Nat.add_zero Nat.zero_mul Nat.one_mul Nat.mul_one if_true if_false Bool.false_eq_true Bool.not_true Bool.not_false Bool.true_or Bool.false_or Bool.or_true Bool.or_false Bool.true_and Bool.false_and Bool.and_true Bool.and_false beq_self_eq_true Bool.and_self Bool.or_self true_and and_true false_and and_false ite_self exists_prop_of_true exists_prop not_false_eq_true not_true_eq_false forall_const eq_self and_self true_implies false_implies implies_true ne_eq List.cons_ne_nil Nat.le_refl Nat.not_lt_zero setL_nil setL_cons setO_nil setO_cons setLs_nil setLs_cons setOs_nil setOs_cons Int.toNat_natCast Int.toNat_zero bound_eq lim_eq
attribute [go_sem_proc] Nat.reduceAdd Nat.reduceSub Nat.reduceMul Nat.reduceEqDiff Nat.reduceBEq Nat.reduceLeDiff Nat.reduceLT Int.reduceToNat Int.reduceLE Int.reduceLT Int.reduceNeg reduceIte reduceCtorEq Int.reduceEq Int.reduceAdd Int.reduceSub Int.reduceMul
end Go.Pw
