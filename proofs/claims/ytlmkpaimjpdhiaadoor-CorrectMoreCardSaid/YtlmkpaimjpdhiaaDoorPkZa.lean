/- A part of the proof. -/
import Derived.Test.YtlmkpaimjpdhiaaDoorPwZ
set_option linter.all false
section
namespace Go.Pw
set_option linter.unusedSimpArgs false
set_option linter.unusedVariables false

def onCells (x : Option AObj) (A : List AV → Prop) : Prop := match x with | some (.cells cs) => A cs | _ => False
def onRow (x : Option AObj) (A : Nat → Nat → Bool → List D → Prop) : Prop := match x with | some (.row a b c l) => A a b c l | _ => False
def onRow2 (x : Option AObj) (A : Nat → Nat → Bool → List D → Prop) (B : Nat → List D → Nat → Nat → Nat → Prop) : Prop := match x with | some (.row a b c l) => A a b c l | some (.rowH a l i q p) => B a l i q p | _ => False
def onMap (x : Option AObj) (A : KTy → List (D × D) → Prop) : Prop := match x with | some (.map t l) => A t l | _ => False
def onMtx (x : Option AObj) (A : Nat → Nat → Bool → List Nat → List (Bool × List D) → Prop) : Prop := match x with | some (.mat a b c d e) => A a b c d e | _ => False
def onSome {α : Type} (x : Option α) (A : α → Prop) : Prop := match x with | some v => A v | none => False
def onOpt {α : Type} (x : Option α) (A : α → Prop) (B : Prop) : Prop := match x with | some v => A v | none => B

theorem onCells_congr {x y : Option AObj} {A} (h : x = y) : onCells x A = onCells y A := by rw [h]
theorem onRow_congr {x y : Option AObj} {A} (h : x = y) : onRow x A = onRow y A := by rw [h]
theorem onMap_congr {x y : Option AObj} {A} (h : x = y) : onMap x A = onMap y A := by rw [h]
theorem onSome_congr {α : Type} {x y : Option α} {A : α → Prop} (h : x = y) : onSome x A = onSome y A := by rw [h]
theorem onOpt_congr {α : Type} {x y : Option α} {A : α → Prop} {B : Prop} (h : x = y) : onOpt x A B = onOpt y A B := by rw [h]
theorem onCells_some (cs A) : onCells (some (.cells cs)) A = A cs := rfl
theorem onRow_some (a b c l A) : onRow (some (.row a b c l)) A = A a b c l := rfl
theorem onRow2_row (a b c l A B) : onRow2 (some (.row a b c l)) A B = A a b c l := rfl
theorem onRow2_rowH (a l i q p A B) : onRow2 (some (.rowH a l i q p)) A B = B a l i q p := rfl
theorem onMap_some (t l A) : onMap (some (.map t l)) A = A t l := rfl
theorem onSome_some {α : Type} (v : α) (A : α → Prop) : onSome (some v) A = A v := rfl
theorem onOpt_some {α : Type} (v : α) (A : α → Prop) (B : Prop) : onOpt (some v) A B = A v := rfl
theorem onOpt_none {α : Type} (A : α → Prop) (B : Prop) : onOpt none A B = B := rfl

section
variable {E : Env} {dst : Option Nat} {V : View} {K : AV → Chg → Prop}

theorem part_t {α : Type} {n : Nat} {cs : List α} {off : Nat} {mk : List α → AV} {one : α → AV} {C : AV → Prop} : evPart true n cs off mk one C = (off + n ≤ cs.length ∧ C (mk ((cs.drop off).take n))) := by simp [evPart]
theorem part_f {α : Type} {n : Nat} {cs : List α} {off : Nat} {mk : List α → AV} {one : α → AV} {C : AV → Prop} : evPart false n cs off mk one C = onSome cs[off]? fun v => C (one v) := by
  simp only [evPart, Bool.false_eq_true, if_false]; cases cs[off]? <;> rfl

theorem ev_load_ptr {ag n o g off} : ev E dst V (.load ag n) [.ptr o g off] K = onCells (V.get o g) fun cs => evPart ag n cs off .agg id (K · .none) := by
  simp only [ev]; cases V.get o g with
  | none => rfl
  | some x => cases x <;> rfl
theorem ev_load_rptr {ag n o g es i off} : ev E dst V (.load ag n) [.rptr o g es i off] K = onRow2 (V.get o g) (fun _ es' _ l => es = es' ∧ onSome l[i]? fun x => evPart ag n x.cells off (fun cs => .d (.agg cs)) .d (K · .none))
    fun _ l k q p => es = 1 ∧ (i = k → evPart ag n [.own q p] off .agg id (K · .none)) ∧ (i ≠ k → onSome l[i]? fun x => evPart ag n x.cells off (fun cs => .d (.agg cs)) .d (K · .none)) := by
  simp only [ev]; cases V.get o g with
  | none => rfl
  | some x =>
    cases x with
    | row a b c l => simp only [onRow2]; cases l[i]? <;> rfl
    | rowH a l k q p => simp only [onRow2]; cases l[i]? <;> rfl
    | _ => rfl
theorem ev_load_dptr {ag n cs off} : ev E dst V (.load ag n) [.dptr cs off] K = evPart ag n cs off (fun cs => .d (.agg cs)) .d (K · .none) := rfl
theorem ev_load_d {ag n cs} : ev E dst V (.load ag n) [.d (.ptr cs)] K = evPart ag n cs 0 (fun cs => .d (.agg cs)) .d (K · .none) := rfl
theorem ev_store_ptr {n o g off v} : ev E dst V (.store n) [.ptr o g off, v] K = onCells (V.get o g) fun cs => onSome v.cells? fun vs => vs.length = n ∧ off + n ≤ cs.length ∧ K .undef (.keep o g (.cells (splice cs off vs))) := by
  unfold ev onCells onSome; simp only
  cases V.get o g with
  | none => rfl
  | some x => cases x <;> cases v.cells? <;> rfl
theorem ev_faddr_ptr {off o g a} : ev E dst V (.faddr off) [.ptr o g a] K = K (.ptr o g (a + off)) .none := rfl
theorem ev_faddr_rptr {off o g es i a} : ev E dst V (.faddr off) [.rptr o g es i a] K = K (.rptr o g es i (a + off)) .none := rfl
theorem ev_faddr_dptr {off cs a} : ev E dst V (.faddr off) [.dptr cs a] K = K (.dptr cs (a + off)) .none := rfl
theorem ev_faddr_d {off cs} : ev E dst V (.faddr off) [.d (.ptr cs)] K = K (.dptr cs off) .none := rfl
theorem ev_lenL {nl : Bool} {l : List D} : ev E dst V (.len false) [.d (.list nl l)] K = K (.d (.int .i64 l.length)) .none := rfl
theorem ev_iaddr_d {es nl l k i} : ev E dst V (.iaddrS es) [.d (.list nl l), .d (.int k i)] K = (0 ≤ i ∧ i < l.length ∧ onSome l[i.toNat]? fun x => x.cells.length = es ∧ K (.dptr x.cells 0) .none) := by
  simp only [ev]; cases l[i.toNat]? <;> rfl
theorem ev_box {t v} : ev E (some t) V .box [v] K = onSome v.cells? fun cs => t < lim ∧ K (.ptr t (V.cn t) 0) (.fresh t (.cells cs)) := by
  simp only [ev]; cases v.cells? <;> rfl
theorem ev_conv {k k' n} : ev E dst V (.conv k) [.d (.int k' n)] K = K (.d (.int k (k.wrap n))) .none := rfl
theorem ev_beq {n x y} : ev E dst V (.beq n) [.d (.bool x), .d (.bool y)] K = K (.d (.bool (if n then !(x == y) else (x == y)))) .none := rfl
theorem ev_extract {i vs} : ev E dst V (.extract i) [.tup vs] K = onSome vs[i]? fun v => K v .none := by
  simp only [ev]; cases vs[i]? <;> rfl
theorem ev_call {f xs} : ev E dst V (.call f) xs K = evCall E dst V f xs K := rfl

theorem ev_store_rptr_d {n o g es0 i off x} : ev E dst V (.store n) [.rptr o g es0 i off, .d x] K = onRow (V.get o g) fun ety es nl l => onSome (AV.d x).toD1 fun y => es0 = es ∧ onSome l[i]? fun x => y.cells.length = n ∧ off + n ≤ x.cells.length ∧ (n = es ∨ 1 < x.cells.length) ∧
    K .undef (.keep o g (.row ety es nl (l.set i (if n = es then y else .agg (splice x.cells off y.cells))))) := by
  simp only [ev]; cases V.get o g with
  | none => rfl
  | some x =>
    cases x with
    | row a b c l => simp only [onRow]; cases (AV.d x).toD1 with
      | none => rfl
      | some y => simp only [onSome]; cases l[i]? <;> rfl
    | _ => rfl
theorem ev_store_rptr_agg {n o g es0 i off x} : ev E dst V (.store n) [.rptr o g es0 i off, .agg x] K = onRow (V.get o g) fun ety es nl l => onSome (AV.agg x).toD1 fun y => es0 = es ∧ onSome l[i]? fun x => y.cells.length = n ∧ off + n ≤ x.cells.length ∧ (n = es ∨ 1 < x.cells.length) ∧
    K .undef (.keep o g (.row ety es nl (l.set i (if n = es then y else .agg (splice x.cells off y.cells))))) := by
  simp only [ev]; cases V.get o g with
  | none => rfl
  | some x =>
    cases x with
    | row a b c l => simp only [onRow]; cases (AV.agg x).toD1 with
      | none => rfl
      | some y => simp only [onSome]; cases l[i]? <;> rfl
    | _ => rfl
theorem ev_store_rptr_ex {n o g es0 i off x} : ev E dst V (.store n) [.rptr o g es0 i off, .ex x] K = onRow (V.get o g) fun ety es nl l => onSome (AV.ex x).toD1 fun y => es0 = es ∧ onSome l[i]? fun x => y.cells.length = n ∧ off + n ≤ x.cells.length ∧ (n = es ∨ 1 < x.cells.length) ∧
    K .undef (.keep o g (.row ety es nl (l.set i (if n = es then y else .agg (splice x.cells off y.cells))))) := by
  simp only [ev]; cases V.get o g with
  | none => rfl
  | some x =>
    cases x with
    | row a b c l => simp only [onRow]; cases (AV.ex x).toD1 with
      | none => rfl
      | some y => simp only [onSome]; cases l[i]? <;> rfl
    | _ => rfl
theorem ev_store_rptr_fn {n o g es0 i off f x} : ev E dst V (.store n) [.rptr o g es0 i off, .fn f x] K = onRow (V.get o g) fun ety es nl l => onSome (AV.fn f x).toD1 fun y => es0 = es ∧ onSome l[i]? fun x => y.cells.length = n ∧ off + n ≤ x.cells.length ∧ (n = es ∨ 1 < x.cells.length) ∧
    K .undef (.keep o g (.row ety es nl (l.set i (if n = es then y else .agg (splice x.cells off y.cells))))) := by
  simp only [ev]; cases V.get o g with
  | none => rfl
  | some x =>
    cases x with
    | row a b c l => simp only [onRow]; cases (AV.fn f x).toD1 with
      | none => rfl
      | some y => simp only [onSome]; cases l[i]? <;> rfl
    | _ => rfl
theorem ev_store_rptr_own {n o g es0 i off q p} : ev E dst V (.store n) [.rptr o g es0 i off, .own q p] K = onRow2 (V.get o g) (fun ety es nl l => es0 = 1 ∧ es = 1 ∧ nl = false ∧ off = 0 ∧ n = 1 ∧ i < l.length ∧ K .undef (.keep o g (.rowH ety l i q p)))
    fun ety l k _ _ => es0 = 1 ∧ off = 0 ∧ n = 1 ∧ i = k ∧ K .undef (.keep o g (.rowH ety l k q p)) := by
  simp only [ev]; cases V.get o g with
  | none => rfl
  | some x => cases x <;> rfl
theorem ev_nilck_ptr {o g off} : ev E dst V .nilck [.ptr o g off] K = K (.ptr o g off) .none := rfl
theorem ev_nilck_rptr {o g es i off} : ev E dst V .nilck [.rptr o g es i off] K = K (.rptr o g es i off) .none := rfl
theorem ev_nilck_dptr {cs off} : ev E dst V .nilck [.dptr cs off] K = K (.dptr cs off) .none := rfl
theorem ev_nilck_d {cs} : ev E dst V .nilck [.d (.ptr cs)] K = K (.d (.ptr cs)) .none := rfl
theorem ev_field_agg {ag off n cs} : ev E dst V (.field ag off n) [.agg cs] K = evPart ag n cs off .agg id (K · .none) := rfl
theorem ev_field_d {ag off n cs} : ev E dst V (.field ag off n) [.d (.agg cs)] K = evPart ag n cs off (fun cs => .d (.agg cs)) .d (K · .none) := rfl
theorem ev_iaddr_own {es o g k i} : ev E dst V (.iaddrS es) [.own o g, .d (.int k i)] K = onRow2 (V.get o g) (fun _ es' _ l => es = es' ∧ 0 ≤ i ∧ i < l.length ∧ K (.rptr o g es i.toNat 0) .none) fun _ l _ _ _ => es = 1 ∧ 0 ≤ i ∧ i < l.length ∧ K (.rptr o g es i.toNat 0) .none := by
  simp only [ev]; cases V.get o g with
  | none => rfl
  | some x => cases x <;> rfl
theorem ev_iaddr_ex {es l k i} : ev E dst V (.iaddrS es) [.ex l, .d (.int k i)] K = (0 ≤ i ∧ i < l.length ∧ onSome l[i.toNat]? fun x => x.cells.length = es ∧ K (.dptr x.cells 0) .none) := by
  simp only [ev]; cases l[i.toNat]? <;> rfl
theorem ev_iaddrA_ptr {len es o g off k i} : ev E dst V (.iaddrA len es) [.ptr o g off, .d (.int k i)] K = (0 ≤ i ∧ i < len ∧ K (.ptr o g (off + i.toNat * es)) .none) := rfl
theorem ev_iaddrA_dptr {len es cs off k i} : ev E dst V (.iaddrA len es) [.dptr cs off, .d (.int k i)] K = (0 ≤ i ∧ i < len ∧ K (.dptr cs (off + i.toNat * es)) .none) := rfl
theorem ev_iaddrA_d {len es cs k i} : ev E dst V (.iaddrA len es) [.d (.ptr cs), .d (.int k i)] K = (0 ≤ i ∧ i < len ∧ K (.dptr cs (i.toNat * es)) .none) := rfl
theorem ev_index_agg {len es ag cs k i} : ev E dst V (.index len es ag) [.agg cs, .d (.int k i)] K = (0 ≤ i ∧ i < len ∧ evPart ag es cs (i.toNat * es) .agg id (K · .none)) := rfl
theorem ev_index_d {len es ag cs k i} : ev E dst V (.index len es ag) [.d (.agg cs), .d (.int k i)] K = (0 ≤ i ∧ i < len ∧ evPart ag es cs (i.toNat * es) (fun cs => .d (.agg cs)) .d (K · .none)) := rfl
theorem ev_build {z pl xs} : ev E dst V (.build z pl) xs K = onSome (fillA (z.map .d) (pl.zip xs)) fun cs => pl.length = xs.length ∧ K (.agg cs) .none := by
  simp only [ev]; cases fillA (z.map .d) (pl.zip xs) <;> rfl
theorem ev_mkrow_nil {es z n ix} : ev E dst V (.mkrow es z n ix) [] K = onSome (fillR es (List.replicate n z) (ix.zip [])) fun l => ix.length = 0 ∧ K (.ex l) .none := by
  simp only [ev]; cases fillR es (List.replicate n z) (ix.zip []) <;> rfl
theorem ev_mkrow_d {es z n ix x xs} : ev E dst V (.mkrow es z n ix) (.d x :: xs) K = onSome (fillR es (List.replicate n z) (ix.zip (.d x :: xs))) fun l => ix.length = (.d x :: xs).length ∧ K (.ex l) .none := by
  simp only [ev]; cases fillR es (List.replicate n z) (ix.zip (.d x :: xs)) <;> rfl
theorem ev_mkrow_agg {es z n ix x xs} : ev E dst V (.mkrow es z n ix) (.agg x :: xs) K = onSome (fillR es (List.replicate n z) (ix.zip (.agg x :: xs))) fun l => ix.length = (.agg x :: xs).length ∧ K (.ex l) .none := by
  simp only [ev]; cases fillR es (List.replicate n z) (ix.zip (.agg x :: xs)) <;> rfl
theorem ev_mkrow_ex {es z n ix x xs} : ev E dst V (.mkrow es z n ix) (.ex x :: xs) K = onSome (fillR es (List.replicate n z) (ix.zip (.ex x :: xs))) fun l => ix.length = (.ex x :: xs).length ∧ K (.ex l) .none := by
  simp only [ev]; cases fillR es (List.replicate n z) (ix.zip (.ex x :: xs)) <;> rfl
theorem ev_mkrow_fn {es z n ix f x xs} : ev E dst V (.mkrow es z n ix) (.fn f x :: xs) K = onSome (fillR es (List.replicate n z) (ix.zip (.fn f x :: xs))) fun l => ix.length = (.fn f x :: xs).length ∧ K (.ex l) .none := by
  simp only [ev]; cases fillR es (List.replicate n z) (ix.zip (.fn f x :: xs)) <;> rfl
theorem ev_mkrow_own {es z n ix q p} : ev E dst V (.mkrow es z n ix) [.own q p] K = (es = 1 ∧ n = 1 ∧ ix = [0] ∧ K (.ablk true [.own q p] 0) .none) := rfl
/-! Matrices, and blocks that are written no more. -/
theorem onMtx_some (a b c d e A) : onMtx (some (.mat a b c d e)) A = A a b c d e := rfl
theorem ev_load_xp {ag n o g i} : ev E dst V (.load ag n) [.mref (.xp i) o g] K = onMtx (V.get o g) fun _ _ _ ix _ => onSome ix[i]? fun j => evPart ag n [.mref (.row j) o g] 0 .agg id (K · .none) := by
  simp only [ev]; cases V.get o g with
  | none => rfl
  | some x =>
    cases x with
    | mat a b c ix rows => simp only [onMtx]; cases ix[i]? <;> rfl
    | _ => rfl
theorem ev_load_mp {ag n o g j k} : ev E dst V (.load ag n) [.mref (.mp j k) o g] K = onMtx (V.get o g) fun _ _ _ _ rows => onSome rows[j]? fun x => onSome x.2[k]? fun y => evPart ag n y.cells 0 (fun cs => .d (.agg cs)) .d (K · .none) := by
  simp only [ev]; cases V.get o g with
  | none => rfl
  | some x =>
    cases x with
    | mat a b c ix rows => simp only [onMtx]; cases rows[j]? with
      | none => rfl
      | some x => simp only [onSome]; cases x.2[k]? <;> rfl
    | _ => rfl
theorem ev_load_ab {ag n cs off} : ev E dst V (.load ag n) [.ablk false cs off] K = evPart ag n cs off .agg id (K · .none) := rfl
theorem ev_store_xp {n i o g j o' g'} : ev E dst V (.store n) [.mref (.xp i) o g, .mref (.row j) o' g'] K = onMtx (V.get o g) fun e1 e2 nl ix rows => n = 1 ∧ o' = o ∧ g' = g ∧ i < ix.length ∧ j < rows.length ∧ K .undef (.keep o g (.mat e1 e2 nl (ix.set i j) rows)) := by
  simp only [ev]; cases V.get o g with
  | none => rfl
  | some x => cases x <;> rfl
theorem ev_store_mp {n j k o g v} : ev E dst V (.store n) [.mref (.mp j k) o g, .d v] K = onMtx (V.get o g) fun e1 e2 nl ix rows => onSome (AV.d v).toD1 fun y => onSome rows[j]? fun x => n = 1 ∧ y.cells.length = 1 ∧ k < x.2.length ∧ K .undef (.keep o g (.mat e1 e2 nl ix (rows.set j (x.1, x.2.set k y)))) := by
  simp only [ev]; cases V.get o g with
  | none => rfl
  | some x =>
    cases x with
    | mat a b c ix rows => simp only [onMtx]; cases (AV.d v).toD1 with
      | none => rfl
      | some y => simp only [onSome]; cases rows[j]? <;> rfl
    | _ => rfl
theorem ev_nilck_xp {o g i} : ev E dst V .nilck [.mref (.xp i) o g] K = K (.mref (.xp i) o g) .none := rfl
theorem ev_nilck_mp {o g j k} : ev E dst V .nilck [.mref (.mp j k) o g] K = K (.mref (.mp j k) o g) .none := rfl
theorem ev_nilck_ab {cs off} : ev E dst V .nilck [.ablk false cs off] K = K (.ablk false cs off) .none := rfl
theorem ev_faddr_ab {off cs a} : ev E dst V (.faddr off) [.ablk false cs a] K = K (.ablk false cs (a + off)) .none := rfl
theorem ev_iaddr_mo {es o g k i} : ev E dst V (.iaddrS es) [.mref .out o g, .d (.int k i)] K = onMtx (V.get o g) fun _ _ _ ix _ => es = 1 ∧ 0 ≤ i ∧ i < ix.length ∧ K (.mref (.xp i.toNat) o g) .none := by
  simp only [ev]; cases V.get o g with
  | none => rfl
  | some x => cases x <;> rfl
theorem ev_iaddr_mr {es j o g k i} : ev E dst V (.iaddrS es) [.mref (.row j) o g, .d (.int k i)] K = onMtx (V.get o g) fun _ _ _ _ rows => onSome rows[j]? fun x => es = 1 ∧ 0 ≤ i ∧ i < x.2.length ∧ K (.mref (.mp j i.toNat) o g) .none := by
  simp only [ev]; cases V.get o g with
  | none => rfl
  | some x =>
    cases x with
    | mat a b c ix rows => simp only [onMtx]; cases rows[j]? <;> rfl
    | _ => rfl
theorem ev_app_m {ety es z own o g q p} : ev E dst V (.app ety es z own) [.mref .out o g, .ablk true [.own q p] 0] K = onMtx (V.get o g) fun e1 e2 nl ix rows => onRow (V.get q p) fun e2' es2 nl2 l2 =>
    z = none ∧ o < lim ∧ q < lim ∧ o ≠ q ∧ ety = e1 ∧ es = 1 ∧ es2 = 1 ∧ e2' = e2 ∧ ix.length + 1 ≤ bound ∧
      K (.mref .out o (V.cn o)) (.seq (.fresh o (.mat e1 e2 false (ix ++ [rows.length]) (rows ++ [(nl2, l2)]))) (.fresh q (.row e2 1 true []))) := by
  simp only [ev]; cases V.get o g with
  | none => rfl
  | some x =>
    cases x with
    | mat a b c ix rows => simp only [onMtx]; cases V.get q p with
      | none => rfl
      | some y => cases y <;> rfl
    | _ => rfl
theorem ev_mkrowO {ety es z n ix xs t} : ev E (some t) V (.mkrowO ety es z n ix) xs K = onSome (fillR es (List.replicate n z) (ix.zip xs)) fun l => t < lim ∧ ix.length = xs.length ∧ K (.own t (V.cn t)) (.fresh t (.row ety es false l)) := by
  simp only [ev]; cases fillR es (List.replicate n z) (ix.zip xs) <;> rfl
theorem ev_mkfn {f xs} : ev E dst V (.mkfn f) xs K = K (.fn f xs) .none := rfl
theorem ev_zero {cs t} : ev E (some t) V (.zero cs) [] K = (t < lim ∧ K (.ptr t (V.cn t) 0) (.fresh t (.cells (cs.map .d)))) := rfl
theorem ev_mkmap {tys t} : ev E (some t) V (.mkmap tys) [] K = (t < lim ∧ K (.map t (V.cn t)) (.fresh t (.map tys []))) := rfl
theorem ev_mksl_own {ety es z t n m} : ev E (some t) V (.mksl ety es z true) [.d (.int .i64 n), .d (.int .i64 m)] K = (n = m ∧ 0 ≤ n ∧ n ≤ (bound : Int) ∧ t < lim ∧ K (.own t (V.cn t)) (.fresh t (.row ety es false (List.replicate n.toNat z)))) := rfl
theorem ev_mksl_d {ety es z t n m} : ev E (some t) V (.mksl ety es z false) [.d (.int .i64 n), .d (.int .i64 m)] K = (n = m ∧ 0 ≤ n ∧ n ≤ (bound : Int) ∧ K (.d (.list false (List.replicate n.toNat z))) .none) := rfl
theorem ev_slice_d {es lo hi nl l rest} : ev E dst V (.slice es lo hi false) (.d (.list nl l) :: rest) K = (Unif es l ∧ rngP lo hi l.length rest fun a b => K (.d (.list nl ((l.drop a).take (b - a)))) .none) := rfl
theorem ev_slice_ex {es lo hi l rest} : ev E dst V (.slice es lo hi false) (.ex l :: rest) K = (Unif es l ∧ rngP lo hi l.length rest fun a b => K (.d (.list false ((l.drop a).take (b - a)))) .none) := rfl
theorem ev_slice_own {es lo o g rest} : ev E dst V (.slice es lo false false) (.own o g :: rest) K = onRow (V.get o g) fun ety es' nl l => o < lim ∧ es = es' ∧ rngP lo false l.length rest fun a _ => K (.own o (V.cn o)) (.fresh o (.row ety es nl (l.drop a))) := by
  simp only [ev, Bool.false_eq_true, if_false]; cases V.get o g with
  | none => rfl
  | some x => cases x <;> rfl
theorem ev_slice_ownh {es lo o g rest} : ev E dst V (.slice es lo true false) (.own o g :: rest) K = onRow (V.get o g) fun ety es' nl l => o < lim ∧ es = es' ∧ rngP lo true l.length rest fun a b => K (.own o (V.cn o)) (.fresh o (.row ety es nl ((l.drop a).take (b - a)))) := by
  simp only [ev, Bool.false_eq_true, if_false, if_true]; cases V.get o g with
  | none => rfl
  | some x => cases x <;> rfl
theorem ev_cap : ev E dst V .cap [.d (.list true [])] K = K (.d (.int .i64 0)) .none := rfl
theorem ev_slice3 {es l k h k' m} : ev E dst V (.slice es false true true) [.d (.list false l), .d (.int k h), .d (.int k' m)] K = (Unif es l ∧ h = m ∧ 0 ≤ h ∧ h ≤ l.length ∧ K (.ex (l.take h.toNat)) .none) := rfl
theorem ev_slice3n {es k h k' m} : ev E dst V (.slice es false true true) [.d (.list true []), .d (.int k h), .d (.int k' m)] K = (h = 0 ∧ m = 0 ∧ K (.d (.list true [])) .none) := rfl
theorem rng_ff {len : Nat} {C : Nat → Nat → Prop} : rngP false false len [] C = C 0 len := rfl
theorem rng_ft {len : Nat} {C : Nat → Nat → Prop} {k h} : rngP false true len [.d (.int k h)] C = (0 ≤ h ∧ h ≤ len ∧ C 0 h.toNat) := rfl
theorem rng_tf {len : Nat} {C : Nat → Nat → Prop} {k h} : rngP true false len [.d (.int k h)] C = (0 ≤ h ∧ h ≤ len ∧ C h.toNat len) := rfl
theorem rng_tt {len : Nat} {C : Nat → Nat → Prop} {k h k' m} : rngP true true len [.d (.int k h), .d (.int k' m)] C = (0 ≤ h ∧ h ≤ m ∧ m ≤ len ∧ C h.toNat m.toNat) := rfl
theorem ev_len {x} : ev E dst V (.len false) [x] K = onSome (x.asList V) fun p => K (.d (.int .i64 p.2.length)) .none := by
  simp only [ev, Bool.false_eq_true, if_false]; cases x.asList V <;> rfl
theorem ev_lenM {o g} : ev E dst V (.len true) [.map o g] K = onMap (V.get o g) fun _ kvs => kvs.length ≤ bound ∧ K (.d (.int .i64 kvs.length)) .none := by
  simp only [ev, if_true]; cases V.get o g with
  | none => rfl
  | some x => cases x <;> rfl
theorem ev_eqnil {n x} : ev E dst V (.eqnil n) [x, .d (.list true [])] K = onSome (x.asList V) fun p => K (.d (.bool (if n then !p.1 else p.1))) .none := by
  simp only [ev]; cases x.asList V <;> rfl
theorem ev_eqv {n tys x y} : ev E dst V (.eqv n tys) [x, y] K = onSome x.toD1 fun a => onSome y.toD1 fun b => tyM tys a = true ∧ tyM tys b = true ∧ K (.d (.bool (if n then !keyEq a b else keyEq a b))) .none := by
  simp only [ev]; cases x.toD1 <;> cases y.toD1 <;> rfl
theorem ev_neg {k n} : ev E dst V (.un .neg) [.d (.int k n)] K = K (.d (.int k (k.wrap (0 - n)))) .none := rfl
theorem ev_xor {k n} : ev E dst V (.un .xor) [.d (.int k n)] K = K (.d (.int k (bitsOp .xor k (if k.signed then -1 else k.max) n))) .none := rfl
theorem ev_minmax {m k a rest} : ev E dst V (.minmax m) (.d (.int k a) :: rest) K = onSome (foldMM m k a rest) fun r => K (.d (.int k r)) .none := by
  simp only [ev]; cases foldMM m k a rest <;> rfl
theorem ev_lookupV {tys z o g key} : ev E dst V (.lookup false tys z) [.map o g, key] K = onMap (V.get o g) fun tys' kvs => onSome key.toD1 fun k => tys = tys' ∧ tyM tys k = true ∧ onOpt (lookK k kvs) (fun v => K (.d v) .none) (K (.d z) .none) := by
  simp only [ev]; cases V.get o g with
  | none => rfl
  | some x =>
    cases x with
    | map t l => simp only [onMap]; cases key.toD1 with
      | none => rfl
      | some k => simp only [onSome]; cases lookK k l <;> rfl
    | _ => rfl
theorem ev_lookupOk {tys z o g key} : ev E dst V (.lookup true tys z) [.map o g, key] K = onMap (V.get o g) fun tys' kvs => onSome key.toD1 fun k => tys = tys' ∧ tyM tys k = true ∧ onOpt (lookK k kvs) (fun v => K (.tup [.d v, .d (.bool true)]) .none) (K (.tup [.d z, .d (.bool false)]) .none) := by
  simp only [ev]; cases V.get o g with
  | none => rfl
  | some x =>
    cases x with
    | map t l => simp only [onMap]; cases key.toD1 with
      | none => rfl
      | some k => simp only [onSome]; cases lookK k l <;> rfl
    | _ => rfl
theorem ev_mapupd {tys o g key val} : ev E dst V (.mapupd tys) [.map o g, key, val] K = onMap (V.get o g) fun tys' kvs => onSome key.toD1 fun k => onSome val.toD1 fun v => tys = tys' ∧ v.one = true ∧ tyM tys k = true ∧ K .undef (.keep o g (.map tys (setK k v kvs))) := by
  simp only [ev]; cases V.get o g with
  | none => rfl
  | some x =>
    cases x with
    | map t l => simp only [onMap]; cases key.toD1 <;> cases val.toD1 <;> rfl
    | _ => rfl
theorem ev_mapent {tys z o g key} : ev E dst V (.mapent tys z) [.map o g, key] K = onMap (V.get o g) fun tys' kvs => onSome key.toD1 fun k => tys = tys' ∧ tyM tys k = true ∧ kvs.length ≤ bound ∧
    onOpt (idxK k kvs) (fun i => K (.tup [.undef, .d (.int .i64 i)]) .none) (K (.tup [.undef, .d (.int .i64 kvs.length)]) (.keep o g (.map tys (kvs ++ [(k, z)])))) := by
  simp only [ev]; cases V.get o g with
  | none => rfl
  | some x =>
    cases x with
    | map t l => simp only [onMap]; cases key.toD1 with
      | none => rfl
      | some k => simp only [onSome]; cases idxK k l <;> rfl
    | _ => rfl
theorem ev_entst {o g k i val} : ev E dst V .entst [.map o g, .d (.int k i), val] K = onMap (V.get o g) fun tys kvs => onSome val.toD1 fun v => 0 ≤ i ∧ v.one = true ∧ onSome kvs[i.toNat]? fun e => K .undef (.keep o g (.map tys (kvs.set i.toNat (e.1, v)))) := by
  simp only [ev]; cases V.get o g with
  | none => rfl
  | some x =>
    cases x with
    | map t l => simp only [onMap]; cases val.toD1 with
      | none => rfl
      | some v => simp only [onSome]; cases l[i.toNat]? <;> rfl
    | _ => rfl
theorem ev_app_own {ety es z own o g y} : ev E dst V (.app ety es z own) [.own o g, y] K = onSome (appSrc V z y) fun ys => onRow (V.get o g) fun ety' es' nl l => o < lim ∧ ety = ety' ∧ es = es' ∧ Unif es ys ∧ l.length + ys.length ≤ bound ∧
    K (.own o (V.cn o)) (.fresh o (.row ety es (nl && ys.isEmpty) (l ++ ys))) := by
  simp only [ev]; cases appSrc V z y with
  | none => rfl
  | some ys =>
    simp only [onSome]
    cases V.get o g with
    | none => rfl
    | some x => cases x <;> rfl
theorem ev_app_nil {ety es z t y} : ev E (some t) V (.app ety es z true) [.d (.list true []), y] K = onSome (appSrc V z y) fun ys => Unif es ys ∧ ys.length ≤ bound ∧ t < lim ∧ K (.own t (V.cn t)) (.fresh t (.row ety es ys.isEmpty ys)) := by
  simp only [ev]; cases appSrc V z y <;> rfl
theorem ev_app_nilD {ety es z y} : ev E dst V (.app ety es z false) [.d (.list true []), y] K = onSome (appSrc V z y) fun ys => Unif es ys ∧ ys.length ≤ bound ∧ K (.d (.list ys.isEmpty ys)) .none := by
  simp only [ev]; cases appSrc V z y <;> rfl
theorem ev_app_ex {ety es z t l y} : ev E (some t) V (.app ety es z true) [.ex l, y] K = onSome (appSrc V z y) fun ys => Unif es (l ++ ys) ∧ l.length + ys.length ≤ bound ∧ (ys = [] → K (.ex l) .none) ∧ (ys ≠ [] → t < lim ∧ K (.own t (V.cn t)) (.fresh t (.row ety es false (l ++ ys)))) := by
  simp only [ev]; cases appSrc V z y with
  | none => rfl
  | some ys => cases ys <;> simp [onSome]
theorem ev_app_exD {ety es z l y} : ev E dst V (.app ety es z false) [.ex l, y] K = onSome (appSrc V z y) fun ys => Unif es (l ++ ys) ∧ l.length + ys.length ≤ bound ∧ K (.d (.list false (l ++ ys))) .none := by
  simp only [ev]; cases appSrc V z y <;> rfl
theorem ev_callv_fn {f cs args} : ev E dst V .callv (.fn f cs :: args) K = (hasBody E.P f = true ∧ evCall E dst V f (args ++ cs) K) := rfl
theorem ev_callv_d {f cs args} : ev E dst V .callv (.d (.fn f cs) :: args) K = (hasBody E.P f = true ∧ evCall E dst V f (args ++ cs.map .d) K) := rfl

theorem evBin_eql {k k' : IntKind} {a b : Int} {C : AV → Prop} : evBin .eql k k' a b C = (k = k' ∧ C (.d (.bool (decide (a = b))))) := rfl
theorem evBin_neq {k k' : IntKind} {a b : Int} {C : AV → Prop} : evBin .neq k k' a b C = (k = k' ∧ C (.d (.bool (!decide (a = b))))) := rfl
theorem evBin_lss {k k' : IntKind} {a b : Int} {C : AV → Prop} : evBin .lss k k' a b C = (k = k' ∧ C (.d (.bool (decide (a < b))))) := rfl
theorem evBin_leq {k k' : IntKind} {a b : Int} {C : AV → Prop} : evBin .leq k k' a b C = (k = k' ∧ C (.d (.bool (decide (a ≤ b))))) := rfl
theorem evBin_gtr {k k' : IntKind} {a b : Int} {C : AV → Prop} : evBin .gtr k k' a b C = (k = k' ∧ C (.d (.bool (decide (b < a))))) := rfl
theorem evBin_geq {k k' : IntKind} {a b : Int} {C : AV → Prop} : evBin .geq k k' a b C = (k = k' ∧ C (.d (.bool (decide (b ≤ a))))) := rfl
theorem evBin_add {k k' : IntKind} {a b : Int} {C : AV → Prop} : evBin .add k k' a b C = (k = k' ∧ C (.d (.int k (k.wrap (a + b))))) := rfl
theorem evBin_sub {k k' : IntKind} {a b : Int} {C : AV → Prop} : evBin .sub k k' a b C = (k = k' ∧ C (.d (.int k (k.wrap (a - b))))) := rfl
theorem evBin_mul {k k' : IntKind} {a b : Int} {C : AV → Prop} : evBin .mul k k' a b C = (k = k' ∧ C (.d (.int k (k.wrap (a * b))))) := rfl
theorem evBin_quo {k k' : IntKind} {a b : Int} {C : AV → Prop} : evBin .quo k k' a b C = (k = k' ∧ b ≠ 0 ∧ C (.d (.int k (k.wrap (a.tdiv b))))) := rfl
theorem evBin_rem {k k' : IntKind} {a b : Int} {C : AV → Prop} : evBin .rem k k' a b C = (k = k' ∧ b ≠ 0 ∧ C (.d (.int k (a.tmod b)))) := rfl
theorem evBin_shl {k k' : IntKind} {a b : Int} {C : AV → Prop} : evBin .shl k k' a b C = (0 ≤ b ∧ C (.d (.int k (k.wrap (a * 2 ^ (min b.toNat k.bits)))))) := rfl
theorem evBin_shr {k k' : IntKind} {a b : Int} {C : AV → Prop} : evBin .shr k k' a b C = (0 ≤ b ∧ C (.d (.int k (a.fdiv (2 ^ (min b.toNat k.bits)))))) := rfl
theorem evBin_and {k k' : IntKind} {a b : Int} {C : AV → Prop} : evBin .and k k' a b C = (k = k' ∧ C (.d (.int k (bitsOp .and k a b)))) := rfl
theorem evBin_or {k k' : IntKind} {a b : Int} {C : AV → Prop} : evBin .or k k' a b C = (k = k' ∧ C (.d (.int k (bitsOp .or k a b)))) := rfl
theorem evBin_xor {k k' : IntKind} {a b : Int} {C : AV → Prop} : evBin .xor k k' a b C = (k = k' ∧ C (.d (.int k (bitsOp .xor k a b)))) := rfl
theorem evBin_andNot {k k' : IntKind} {a b : Int} {C : AV → Prop} : evBin .andNot k k' a b C = (k = k' ∧ C (.d (.int k (bitsOp .andNot k a b)))) := rfl
end
end Go.Pw
end
section
namespace Go.Pw
set_option linter.unusedSimpArgs false
set_option linter.unusedVariables false

def onHist (x : Option AObj) (A : List (List D) → Nat → Prop) : Prop := match x with | some (.hist els n false) => A els n | _ => False
theorem onHist_some (els n A) : onHist (some (.hist els n false)) A = A els n := rfl
theorem onHist_congr {x y : Option AObj} {A} (h : x = y) : onHist x A = onHist y A := by rw [h]

section
variable {E : Env} {Q : PExit → PSt → Prop} {s s' : PSt} {K : AV → Chg → Prop} {KS : PSt → Prop}
theorem yldP_own {o g : Nat} {xs : List AV} {V : View} : yldP (.own o g) xs V K = onHist (V.get o g) fun els n => onSome (argsD0 xs) fun ds => els[n]? = some ds ∧ K (.d (.bool true)) (.keep o g (.hist els (n + 1) false)) ∧ K (.d (.bool false)) (.keep o g (.hist els (n + 1) true)) := by
  simp only [yldP, onHist]
  cases V.get o g with
  | none => rfl
  | some x => cases x with
    | hist els n st => cases st <;> (simp only [onSome]; try (cases argsD0 xs <;> rfl))
    | _ => rfl
theorem argsD0_eq {xs : List AV} : argsD0 xs = listM AV.toD1 xs := rfl
theorem ev_mkbnd {dst : Option Nat} {V : View} {f : FuncId} {xs : List AV} : ev E dst V (.mkbnd f) xs K = onSome (argsD0 xs) fun cs => K (.bnd f cs) .none := by
  simp only [ev, onSome]; cases argsD0 xs <;> rfl

theorem waitsB_nil {sl : Nat → AV} {V : View} : waitsB [] sl V = true := rfl
def aliveO (V : View) (o : Nat) : Bool := match V.ob o with | some (g, _) => g == 0 | none => false
theorem waitsB_cons {k : Nat} {ks : List Nat} {sl : Nat → AV} {V : View} : waitsB (k :: ks) sl V = ((sl k).sites.all (aliveO V) && waitsB ks sl V) := rfl
def aliveX (x : Option (Nat × AObj)) : Bool := match x with | some (g, _) => g == 0 | none => false
theorem aliveO_eq {ob cn o} : aliveO ⟨ob, cn⟩ o = aliveX (ob o) := rfl
theorem aliveX_some {g x} : aliveX (some (g, x)) = (g == 0) := rfl

theorem vnrm_eq {m : List (Nat × (Nat × AObj))} {cn : Nat → Nat} {os : List Nat} : (View.mk (lookO m) cn).nrm os = ⟨lookO (lookO2 ⟨lookO m, cn⟩ os os), fun _ => 1⟩ := by
  have := nrm_eq (fun _ => .undef) ⟨lookO m, cn⟩ [] os
  have h2 : ((PSt.mk (fun _ => .undef) ⟨lookO m, cn⟩).nrm [] os).V = (View.mk (lookO m) cn).nrm os := rfl
  rw [← h2, this]

/- Names moved. -/
theorem mvn_eq {o : Nat} : mvn o = if 900000 ≤ o ∧ o < 5000000 then o else o + 5000000 := rfl
def mvL (l : List (Nat × AV)) : List (Nat × AV) := l.map fun p => (p.1, p.2.mv)
theorem mvL_nil : mvL [] = [] := rfl
theorem mvL_cons {k v l} : mvL ((k, v) :: l) = (k, v.mv) :: mvL l := rfl
def mvOc (k : Nat) (g : Nat) (x : Option AObj) (r : List (Nat × (Nat × AObj))) : List (Nat × (Nat × AObj)) := match x with
  | some y => (mvn k, (g, y)) :: r
  | none => r.filter fun p => !(p.1 == mvn k)
def mvO : List (Nat × (Nat × AObj)) → List (Nat × (Nat × AObj))
  | [] => []
  | (k, (g, x)) :: l => mvOc k g x.mv (mvO l)
theorem mvO_nil : mvO [] = [] := rfl
theorem mvO_cons {k g x l} : mvO ((k, (g, x)) :: l) = mvOc k g x.mv (mvO l) := rfl
theorem mvOc_some {k g y r} : mvOc k g (some y) r = (mvn k, (g, y)) :: r := rfl
theorem mvOc_none {k g r} : mvOc k g none r = r.filter fun p => !(p.1 == mvn k) := rfl
theorem lookO_filter (k : Nat) : ∀ (l : List (Nat × (Nat × AObj))) (t : Nat), lookO (l.filter fun p => !(p.1 == k)) t = if t = k then none else lookO l t
  | [], t => by simp [lookO]
  | p :: l, t => by
    obtain ⟨a, b⟩ := p
    have ih := lookO_filter k l t
    by_cases h : a = k
    · subst h
      rw [List.filter_cons, if_neg (by simp), ih]
      by_cases ht : t = a
      · simp [ht]
      · simp [ht, lookO]
    · rw [List.filter_cons, if_pos (by simpa using h)]
      simp only [lookO, ih]
      by_cases ht : t = a
      · subst ht; simp [h]
      · simp [ht]
theorem lookO_mv : ∀ (m : List (Nat × (Nat × AObj))) (o : Nat), lookO (mvO m) o = if mvn (unr o) = o then (match lookO m (unr o) with
      | some (g, x) => match x.mv with | some y => some (g, y) | none => none
      | none => none) else none
  | [], o => by simp [mvO, lookO]
  | (k, (g, x)) :: m, o => by
    have ih := lookO_mv m o
    rw [mvO_cons]
    by_cases h : o = mvn k
    · subst h
      rw [unr_mvn, if_pos rfl]
      cases hx : x.mv with
      | some y => simp [mvOc, lookO, hx]
      | none => rw [mvOc_none, lookO_filter, if_pos rfl]; simp [lookO, hx]
    · have hk : mvn (unr o) = o → unr o ≠ k := fun h1 h2 => h (by rw [← h1, h2])
      have hrest : lookO (mvOc k g x.mv (mvO m)) o = lookO (mvO m) o := by
        cases x.mv with
        | some y => simp [mvOc, lookO, h]
        | none => rw [mvOc_none, lookO_filter, if_neg h]
      rw [hrest, ih]
      by_cases h1 : mvn (unr o) = o
      · rw [if_pos h1, if_pos h1]
        have := hk h1
        simp [lookO, this]
      · rw [if_neg h1, if_neg h1]
theorem mv_eq {l : List (Nat × AV)} {m : List (Nat × (Nat × AObj))} {cn : Nat → Nat} : (PSt.mk (look l) ⟨lookO m, cn⟩).mv = ⟨look (mvL l), ⟨lookO (mvO m), fun _ => 1⟩⟩ := by
  have h1 : (fun t => (look l t).mv) = look (mvL l) := by
    funext t
    induction l with
    | nil => rfl
    | cons p l ih =>
      obtain ⟨k, v⟩ := p
      simp only [mvL_cons, look]
      by_cases h : t = k
      · simp [h]
      · simp only [if_neg h]; exact ih
  show PSt.mk (fun t => (look l t).mv) _ = _
  rw [h1]
  refine congrArg (fun ob => PSt.mk _ (View.mk ob _)) ?_
  funext o
  exact (lookO_mv m o).symm
theorem omv_cells {xs} : (AObj.cells xs).mv = some (.cells (xs.map AV.mv)) := rfl
theorem omv_rowH {a l i q p} : (AObj.rowH a l i q p).mv = none := rfl
theorem omv_row {a b c l} : (AObj.row a b c l).mv = some (.row a b c l) := rfl
theorem omv_mat {a b c d e} : (AObj.mat a b c d e).mv = some (.mat a b c d e) := rfl
theorem mv_mref {k o g} : (AV.mref k o g).mv = .mref k (mvn o) g := rfl
theorem mv_ablk {sl cs off} : (AV.ablk sl cs off).mv = .ablk sl (AV.mv.mvL cs) off := rfl
theorem omv_map {a l} : (AObj.map a l).mv = some (.map a l) := rfl
theorem omv_hist {a b l} : (AObj.hist a b l).mv = none := rfl
theorem mv_d {x} : (AV.d x).mv = .d x := rfl
theorem mv_ex {x} : (AV.ex x).mv = .ex x := rfl
theorem mv_undef : AV.undef.mv = .undef := rfl
theorem mv_dptr {c f} : (AV.dptr c f).mv = .dptr c f := rfl
theorem mv_bnd {f c} : (AV.bnd f c).mv = .bnd f c := rfl
theorem mv_ptr {o g f} : (AV.ptr o g f).mv = .ptr (mvn o) g f := rfl
theorem mv_rptr {o g e i f} : (AV.rptr o g e i f).mv = .rptr (mvn o) g e i f := rfl
theorem mv_own {o g} : (AV.own o g).mv = .own (mvn o) g := rfl
theorem mv_map {o g} : (AV.map o g).mv = .map (mvn o) g := rfl
theorem mv_agg {cs} : (AV.agg cs).mv = .agg (AV.mv.mvL cs) := rfl
theorem mv_fn {f cs} : (AV.fn f cs).mv = .fn f (AV.mv.mvL cs) := rfl
theorem mv_tup {cs} : (AV.tup cs).mv = .tup (AV.mv.mvL cs) := rfl
theorem mvLl_nil : AV.mv.mvL [] = [] := rfl
theorem mvLl_cons {x l} : AV.mv.mvL (x :: l) = x.mv :: AV.mv.mvL l := rfl
theorem st_bnd {f cs} : AV.sites (.bnd f cs) = [] := rfl
theorem nrm_bnd {V : View} {os f cs} : (AV.bnd f cs).nrm V os = .bnd f cs := rfl
theorem onrm_hist {V : View} {os a b l} : (AObj.hist a b l).nrm V os = some (.hist a b l) := rfl

/- The rounds. -/
theorem onlyN_normal {A : PSt → Prop} : onlyN A .normal s = A s := rfl
theorem onlyN_exit {A : PSt → Prop} {i} : onlyN A (.exit i) s = False := rfl
theorem onlyN_ret {A : PSt → Prop} : onlyN A .ret s = False := rfl
theorem setPs_nil {sl : Nat → AV} {ds} : setPs sl [] ds = sl := by cases ds <;> rfl
theorem setPs_cons {sl : Nat → AV} {p ps d ds} : setPs sl (p :: ps) (d :: ds) = setPs (upd sl p (.d d)) ps ds := rfl
def rndE {α : Type} (T : α → View) (Inv : Nat → α → Prop) (PInv : PExit → α → Prop) (m : Nat) (gs : List Ghost) (ks os : List Nat) (sl : Nat → AV) (e : PExit) (s : PSt) : Prop :=
  ghosts gs s fun s' => waitsB ks sl (s'.V.nrm os) = true ∧ ∃ y, s'.V.nrm os = T y ∧ (match e with | .normal => Inv m y | e => PInv e y)
theorem rndE_normal {α : Type} {T : α → View} {Inv PInv m gs ks os sl} : rndE T Inv PInv m gs ks os sl .normal s = ghosts gs s fun s' => waitsB ks sl (s'.V.nrm os) = true ∧ ∃ y, s'.V.nrm os = T y ∧ Inv m y := rfl
theorem rndE_exit {α : Type} {T : α → View} {Inv PInv m gs ks os sl i} : rndE T Inv PInv m gs ks os sl (.exit i) s = ghosts gs s fun s' => waitsB ks sl (s'.V.nrm os) = true ∧ ∃ y, s'.V.nrm os = T y ∧ PInv (.exit i) y := rfl
theorem rndE_ret {α : Type} {T : α → View} {Inv PInv m gs ks os sl} : rndE T Inv PInv m gs ks os sl .ret s = ghosts gs s fun s' => waitsB ks sl (s'.V.nrm os) = true ∧ ∃ y, s'.V.nrm os = T y ∧ PInv .ret y := rfl

theorem pw_rngI {α : Type} (T : α → View) (Inv : Nat → α → Prop) (PInv : PExit → α → Prop) (x0 : α) {gs : List Ghost} {g : Opd} {ps ks os : List Nat} {b : PC} {gs2 : List Ghost} {os2 : List Nat} {a : PC} {f : FuncId} {pre : List D} {els : List (List D)} {sl1 : Nat → AV}
    (h0 : ghosts gs s fun s1 => g.val s1.sl = .bnd f pre ∧ (s1.nrm ks os).mv = ⟨sl1, T x0⟩) (hT : ∀ x, (T x).cn = fun _ => 1) (hb : hasBody E.P f = true) (hr : (b.noR && a.noR) = true) (hs : SeqY E f pre [] els) (hw : waitsB ks sl1 (T x0) = true) (hI : Inv 0 x0)
    (step : ∀ n x ds, els[n]? = some ds → Inv n x → ps.length = ds.length ∧ pw E b (onlyN fun s2 => pw E a (rndE T Inv PInv (n + 1) gs2 ks os2 sl1) s2) ⟨setPs sl1 ps ds, T x⟩)
    (hend : ∀ x, Inv els.length x → Q .normal ⟨sl1, T x⟩) (hjump : ∀ e x, PInv e x → Q e ⟨sl1, T x⟩) : pw E (.rngF gs g ps ks os b gs2 os2 a) Q s := by
  refine ghosts_mono (fun s1 h => ?_) h0
  obtain ⟨h1, h2⟩ := h
  unfold rngV
  rw [h1]
  refine ⟨hb, hr, els, hs, fun n V => ∃ x, V = T x ∧ Inv n x, fun e V => ∃ x, V = T x ∧ PInv e x, ?_, ?_, ?_, ?_, ?_⟩
  · rw [h2]; exact hw
  · rw [h2]; exact ⟨x0, rfl, hI⟩
  · rintro n V ds _ hds ⟨x, rfl, hx⟩
    obtain ⟨k1, k2⟩ := step n x ds hds hx
    refine ⟨k1, ?_⟩
    rw [h2]
    refine pw_mono k2 fun e s2 h3 => ?_
    cases e with
    | normal =>
      refine pw_mono h3 fun e s3 h4 => ?_
      refine ghosts_mono (fun s4 h5 => ?_) h4
      obtain ⟨k3, y, k4, k5⟩ := h5
      refine ⟨k3, ?_⟩
      cases e with
      | normal => exact ⟨y, k4, k5⟩
      | exit i => exact ⟨y, k4, k5⟩
      | ret => exact ⟨y, k4, k5⟩
    | exit i => exact h3
    | ret => exact h3
  · rintro V _ ⟨x, rfl, hx⟩
    rw [h2]; exact hend x hx
  · rintro e V _ ⟨x, rfl, hx⟩
    rw [h2]; exact hjump e x hx
theorem pw_rngS {α : Type} (uo : α → List (Nat × AObj)) (Inv : Nat → α → Prop) (PInv : PExit → α → Prop) (x0 : α) {so : List (Nat × (Nat × AObj)) → List (Nat × AObj) → List (Nat × (Nat × AObj))} {gs : List Ghost} {g : Opd} {ps ks os : List Nat} {b : PC} {gs2 : List Ghost} {os2 : List Nat} {a : PC} {f : FuncId} {pre : List D} {els : List (List D)} {l0 : List (Nat × AV)} {m0 : List (Nat × (Nat × AObj))}
    (hs : SeqY E f pre [] els) (hb : hasBody E.P f = true) (h0 : ghosts gs s fun s1 => g.val s1.sl = .bnd f pre ∧ (s1.nrm ks os).mv = ⟨look l0, ⟨lookO m0, fun _ => 1⟩⟩) (he : so m0 (uo x0) = m0) (hr : (b.noR && a.noR) = true) (hw : waitsB ks (look l0) ⟨lookO m0, fun _ => 1⟩ = true) (hI : Inv 0 x0)
    (step : ∀ n x ds, els[n]? = some ds → Inv n x → ps.length = ds.length ∧ pw E b (onlyN fun s2 => pw E a (rndE (fun x => ⟨lookO (so m0 (uo x)), fun _ => 1⟩) Inv PInv (n + 1) gs2 ks os2 (look l0)) s2) ⟨setPs (look l0) ps ds, ⟨lookO (so m0 (uo x)), fun _ => 1⟩⟩)
    (hend : ∀ x, Inv els.length x → Q .normal ⟨look l0, ⟨lookO (so m0 (uo x)), fun _ => 1⟩⟩) (hjump : ∀ e x, PInv e x → Q e ⟨look l0, ⟨lookO (so m0 (uo x)), fun _ => 1⟩⟩) : pw E (.rngF gs g ps ks os b gs2 os2 a) Q s :=
  pw_rngI (fun x => ⟨lookO (so m0 (uo x)), fun _ => 1⟩) Inv PInv x0 (by rw [he]; exact h0) (fun _ => rfl) hb hr hs (by rw [he]; exact hw) hI step hend hjump
end

theorem isVx {α : Type} {S : View} {T : α → View} {I : α → Prop} (h : ∃ y, S = T y ∧ I y) : ∃ y, S = T y ∧ I y := h
theorem isVx2 {α β : Type} {S : View} {T : α × β → View} {I : α × β → Prop} (h : ∃ y, S = T y ∧ I y) : ∃ y, S = T y ∧ I y := h
theorem isVx3 {α β γ : Type} {S : View} {T : α × β × γ → View} {I : α × β × γ → Prop} (h : ∃ y, S = T y ∧ I y) : ∃ y, S = T y ∧ I y := h
theorem isVx4 {α β γ δ : Type} {S : View} {T : α × β × γ × δ → View} {I : α × β × γ × δ → Prop} (h : ∃ y, S = T y ∧ I y) : ∃ y, S = T y ∧ I y := h
end Go.Pw
end
