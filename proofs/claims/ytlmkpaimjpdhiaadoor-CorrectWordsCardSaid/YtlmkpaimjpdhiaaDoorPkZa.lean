/- A part of the proof. -/
import Derived.Test.YtlmkpaimjpdhiaaDoorPwZ
set_option linter.all false
section
namespace Go.Pw
set_option linter.unusedSimpArgs false
set_option linter.unusedVariables false

def onCells (x : Option AObj) (A : List AV → Prop) : Prop := match x with | some (.cells cs) => A cs | _ => False
def onRow (x : Option AObj) (A : Nat → Nat → Bool → List D → Prop) : Prop := match x with | some (.row a b c l) => A a b c l | _ => False
def onRow2 (x : Option AObj) (A : Nat → Nat → Bool → List D → Prop) (B : Nat → List D → Nat → Nat → Nat → Prop) : Prop := match x with | some (.row a b c l) => A a b c l | some (.rowH a l i q p) => B a l i q p | _ => False
def onMap (x : Option AObj) (A : KTy → List (D × D) → Prop) : Prop := match x with | some (.map t l) => A t l | _ => False
def onMtx (x : Option AObj) (A : Nat → Nat → Bool → List Nat → List (Bool × List D) → Prop) : Prop := match x with | some (.mat a b c d e) => A a b c d e | _ => False
def onSome {α : Type} (x : Option α) (A : α → Prop) : Prop := match x with | some v => A v | none => False
def onOpt {α : Type} (x : Option α) (A : α → Prop) (B : Prop) : Prop := match x with | some v => A v | none => B

theorem onCells_some (cs A) : onCells (some (.cells cs)) A = A cs := rfl
theorem onRow_some (a b c l A) : onRow (some (.row a b c l)) A = A a b c l := rfl
theorem onRow2_row (a b c l A B) : onRow2 (some (.row a b c l)) A B = A a b c l := rfl
theorem onSome_some {α : Type} (v : α) (A : α → Prop) : onSome (some v) A = A v := rfl
section
variable {E : Env} {dst : Option Nat} {V : View} {K : AV → Chg → Prop}

theorem part_t {α : Type} {n : Nat} {cs : List α} {off : Nat} {mk : List α → AV} {one : α → AV} {C : AV → Prop} : evPart true n cs off mk one C = (off + n ≤ cs.length ∧ C (mk ((cs.drop off).take n))) := by simp [evPart]
theorem part_f {α : Type} {n : Nat} {cs : List α} {off : Nat} {mk : List α → AV} {one : α → AV} {C : AV → Prop} : evPart false n cs off mk one C = onSome cs[off]? fun v => C (one v) := by
  simp only [evPart, Bool.false_eq_true, if_false]; cases cs[off]? <;> rfl

theorem ev_load_ptr {ag n o g off} : ev E dst V (.load ag n) [.ptr o g off] K = onCells (V.get o g) fun cs => evPart ag n cs off .agg id (K · .none) := by
  simp only [ev]; cases V.get o g with
  | none => rfl
  | some x => cases x <;> rfl
theorem ev_load_rptr {ag n o g es i off} : ev E dst V (.load ag n) [.rptr o g es i off] K = onRow2 (V.get o g) (fun _ es' _ l => es = es' ∧ onSome l[i]? fun x => evPart ag n x.cells off (fun cs => .d (.agg cs)) .d (K · .none))
    fun _ l k q p => es = 1 ∧ (i = k → evPart ag n [.own q p] off .agg id (K · .none)) ∧ (i ≠ k → onSome l[i]? fun x => evPart ag n x.cells off (fun cs => .d (.agg cs)) .d (K · .none)) := by
  simp only [ev]; cases V.get o g with
  | none => rfl
  | some x =>
    cases x with
    | row a b c l => simp only [onRow2]; cases l[i]? <;> rfl
    | rowH a l k q p => simp only [onRow2]; cases l[i]? <;> rfl
    | _ => rfl
theorem ev_load_dptr {ag n cs off} : ev E dst V (.load ag n) [.dptr cs off] K = evPart ag n cs off (fun cs => .d (.agg cs)) .d (K · .none) := rfl
theorem ev_load_d {ag n cs} : ev E dst V (.load ag n) [.d (.ptr cs)] K = evPart ag n cs 0 (fun cs => .d (.agg cs)) .d (K · .none) := rfl
theorem ev_store_ptr {n o g off v} : ev E dst V (.store n) [.ptr o g off, v] K = onCells (V.get o g) fun cs => onSome v.cells? fun vs => vs.length = n ∧ off + n ≤ cs.length ∧ K .undef (.keep o g (.cells (splice cs off vs))) := by
  unfold ev onCells onSome; simp only
  cases V.get o g with
  | none => rfl
  | some x => cases x <;> cases v.cells? <;> rfl
theorem ev_faddr_ptr {off o g a} : ev E dst V (.faddr off) [.ptr o g a] K = K (.ptr o g (a + off)) .none := rfl
theorem ev_faddr_dptr {off cs a} : ev E dst V (.faddr off) [.dptr cs a] K = K (.dptr cs (a + off)) .none := rfl
theorem ev_faddr_d {off cs} : ev E dst V (.faddr off) [.d (.ptr cs)] K = K (.dptr cs off) .none := rfl
theorem ev_iaddr_d {es nl l k i} : ev E dst V (.iaddrS es) [.d (.list nl l), .d (.int k i)] K = (0 ≤ i ∧ i < l.length ∧ onSome l[i.toNat]? fun x => x.cells.length = es ∧ K (.dptr x.cells 0) .none) := by
  simp only [ev]; cases l[i.toNat]? <;> rfl
theorem ev_box {t v} : ev E (some t) V .box [v] K = onSome v.cells? fun cs => t < lim ∧ K (.ptr t (V.cn t) 0) (.fresh t (.cells cs)) := by
  simp only [ev]; cases v.cells? <;> rfl
theorem ev_conv {k k' n} : ev E dst V (.conv k) [.d (.int k' n)] K = K (.d (.int k (k.wrap n))) .none := rfl
theorem ev_extract {i vs} : ev E dst V (.extract i) [.tup vs] K = onSome vs[i]? fun v => K v .none := by
  simp only [ev]; cases vs[i]? <;> rfl
theorem ev_call {f xs} : ev E dst V (.call f) xs K = evCall E dst V f xs K := rfl

theorem ev_store_rptr_d {n o g es0 i off x} : ev E dst V (.store n) [.rptr o g es0 i off, .d x] K = onRow (V.get o g) fun ety es nl l => onSome (AV.d x).toD1 fun y => es0 = es ∧ onSome l[i]? fun x => y.cells.length = n ∧ off + n ≤ x.cells.length ∧ (n = es ∨ 1 < x.cells.length) ∧
    K .undef (.keep o g (.row ety es nl (l.set i (if n = es then y else .agg (splice x.cells off y.cells))))) := by
  simp only [ev]; cases V.get o g with
  | none => rfl
  | some x =>
    cases x with
    | row a b c l => simp only [onRow]; cases (AV.d x).toD1 with
      | none => rfl
      | some y => simp only [onSome]; cases l[i]? <;> rfl
    | _ => rfl
theorem ev_iaddr_own {es o g k i} : ev E dst V (.iaddrS es) [.own o g, .d (.int k i)] K = onRow2 (V.get o g) (fun _ es' _ l => es = es' ∧ 0 ≤ i ∧ i < l.length ∧ K (.rptr o g es i.toNat 0) .none) fun _ l _ _ _ => es = 1 ∧ 0 ≤ i ∧ i < l.length ∧ K (.rptr o g es i.toNat 0) .none := by
  simp only [ev]; cases V.get o g with
  | none => rfl
  | some x => cases x <;> rfl
theorem ev_iaddrA_d {len es cs k i} : ev E dst V (.iaddrA len es) [.d (.ptr cs), .d (.int k i)] K = (0 ≤ i ∧ i < len ∧ K (.dptr cs (i.toNat * es)) .none) := rfl
theorem ev_build {z pl xs} : ev E dst V (.build z pl) xs K = onSome (fillA (z.map .d) (pl.zip xs)) fun cs => pl.length = xs.length ∧ K (.agg cs) .none := by
  simp only [ev]; cases fillA (z.map .d) (pl.zip xs) <;> rfl
theorem ev_mkrow_nil {es z n ix} : ev E dst V (.mkrow es z n ix) [] K = onSome (fillR es (List.replicate n z) (ix.zip [])) fun l => ix.length = 0 ∧ K (.ex l) .none := by
  simp only [ev]; cases fillR es (List.replicate n z) (ix.zip []) <;> rfl
theorem ev_mkrow_d {es z n ix x xs} : ev E dst V (.mkrow es z n ix) (.d x :: xs) K = onSome (fillR es (List.replicate n z) (ix.zip (.d x :: xs))) fun l => ix.length = (.d x :: xs).length ∧ K (.ex l) .none := by
  simp only [ev]; cases fillR es (List.replicate n z) (ix.zip (.d x :: xs)) <;> rfl
theorem ev_mkrow_own {es z n ix q p} : ev E dst V (.mkrow es z n ix) [.own q p] K = (es = 1 ∧ n = 1 ∧ ix = [0] ∧ K (.ablk true [.own q p] 0) .none) := rfl
/-! Matrices, and blocks that are written no more. -/
theorem onMtx_some (a b c d e A) : onMtx (some (.mat a b c d e)) A = A a b c d e := rfl
theorem ev_load_xp {ag n o g i} : ev E dst V (.load ag n) [.mref (.xp i) o g] K = onMtx (V.get o g) fun _ _ _ ix _ => onSome ix[i]? fun j => evPart ag n [.mref (.row j) o g] 0 .agg id (K · .none) := by
  simp only [ev]; cases V.get o g with
  | none => rfl
  | some x =>
    cases x with
    | mat a b c ix rows => simp only [onMtx]; cases ix[i]? <;> rfl
    | _ => rfl
theorem ev_load_mp {ag n o g j k} : ev E dst V (.load ag n) [.mref (.mp j k) o g] K = onMtx (V.get o g) fun _ _ _ _ rows => onSome rows[j]? fun x => onSome x.2[k]? fun y => evPart ag n y.cells 0 (fun cs => .d (.agg cs)) .d (K · .none) := by
  simp only [ev]; cases V.get o g with
  | none => rfl
  | some x =>
    cases x with
    | mat a b c ix rows => simp only [onMtx]; cases rows[j]? with
      | none => rfl
      | some x => simp only [onSome]; cases x.2[k]? <;> rfl
    | _ => rfl
theorem ev_load_ab {ag n cs off} : ev E dst V (.load ag n) [.ablk false cs off] K = evPart ag n cs off .agg id (K · .none) := rfl
theorem ev_store_xp {n i o g j o' g'} : ev E dst V (.store n) [.mref (.xp i) o g, .mref (.row j) o' g'] K = onMtx (V.get o g) fun e1 e2 nl ix rows => n = 1 ∧ o' = o ∧ g' = g ∧ i < ix.length ∧ j < rows.length ∧ K .undef (.keep o g (.mat e1 e2 nl (ix.set i j) rows)) := by
  simp only [ev]; cases V.get o g with
  | none => rfl
  | some x => cases x <;> rfl
theorem ev_store_mp {n j k o g v} : ev E dst V (.store n) [.mref (.mp j k) o g, .d v] K = onMtx (V.get o g) fun e1 e2 nl ix rows => onSome (AV.d v).toD1 fun y => onSome rows[j]? fun x => n = 1 ∧ y.cells.length = 1 ∧ k < x.2.length ∧ K .undef (.keep o g (.mat e1 e2 nl ix (rows.set j (x.1, x.2.set k y)))) := by
  simp only [ev]; cases V.get o g with
  | none => rfl
  | some x =>
    cases x with
    | mat a b c ix rows => simp only [onMtx]; cases (AV.d v).toD1 with
      | none => rfl
      | some y => simp only [onSome]; cases rows[j]? <;> rfl
    | _ => rfl
theorem ev_iaddr_mo {es o g k i} : ev E dst V (.iaddrS es) [.mref .out o g, .d (.int k i)] K = onMtx (V.get o g) fun _ _ _ ix _ => es = 1 ∧ 0 ≤ i ∧ i < ix.length ∧ K (.mref (.xp i.toNat) o g) .none := by
  simp only [ev]; cases V.get o g with
  | none => rfl
  | some x => cases x <;> rfl
theorem ev_iaddr_mr {es j o g k i} : ev E dst V (.iaddrS es) [.mref (.row j) o g, .d (.int k i)] K = onMtx (V.get o g) fun _ _ _ _ rows => onSome rows[j]? fun x => es = 1 ∧ 0 ≤ i ∧ i < x.2.length ∧ K (.mref (.mp j i.toNat) o g) .none := by
  simp only [ev]; cases V.get o g with
  | none => rfl
  | some x =>
    cases x with
    | mat a b c ix rows => simp only [onMtx]; cases rows[j]? <;> rfl
    | _ => rfl
theorem ev_app_m {ety es z own o g q p} : ev E dst V (.app ety es z own) [.mref .out o g, .ablk true [.own q p] 0] K = onMtx (V.get o g) fun e1 e2 nl ix rows => onRow (V.get q p) fun e2' es2 nl2 l2 =>
    z = none ∧ o < lim ∧ q < lim ∧ o ≠ q ∧ ety = e1 ∧ es = 1 ∧ es2 = 1 ∧ e2' = e2 ∧ ix.length + 1 ≤ bound ∧
      K (.mref .out o (V.cn o)) (.seq (.fresh o (.mat e1 e2 false (ix ++ [rows.length]) (rows ++ [(nl2, l2)]))) (.fresh q (.row e2 1 true []))) := by
  simp only [ev]; cases V.get o g with
  | none => rfl
  | some x =>
    cases x with
    | mat a b c ix rows => simp only [onMtx]; cases V.get q p with
      | none => rfl
      | some y => cases y <;> rfl
    | _ => rfl
theorem ev_mkrowO {ety es z n ix xs t} : ev E (some t) V (.mkrowO ety es z n ix) xs K = onSome (fillR es (List.replicate n z) (ix.zip xs)) fun l => t < lim ∧ ix.length = xs.length ∧ K (.own t (V.cn t)) (.fresh t (.row ety es false l)) := by
  simp only [ev]; cases fillR es (List.replicate n z) (ix.zip xs) <;> rfl
theorem ev_mkfn {f xs} : ev E dst V (.mkfn f) xs K = K (.fn f xs) .none := rfl
theorem ev_zero {cs t} : ev E (some t) V (.zero cs) [] K = (t < lim ∧ K (.ptr t (V.cn t) 0) (.fresh t (.cells (cs.map .d)))) := rfl
theorem ev_mksl_own {ety es z t n m} : ev E (some t) V (.mksl ety es z true) [.d (.int .i64 n), .d (.int .i64 m)] K = (n = m ∧ 0 ≤ n ∧ n ≤ (bound : Int) ∧ t < lim ∧ K (.own t (V.cn t)) (.fresh t (.row ety es false (List.replicate n.toNat z)))) := rfl
theorem ev_mksl_d {ety es z t n m} : ev E (some t) V (.mksl ety es z false) [.d (.int .i64 n), .d (.int .i64 m)] K = (n = m ∧ 0 ≤ n ∧ n ≤ (bound : Int) ∧ K (.d (.list false (List.replicate n.toNat z))) .none) := rfl
theorem ev_slice_d {es lo hi nl l rest} : ev E dst V (.slice es lo hi false) (.d (.list nl l) :: rest) K = (Unif es l ∧ rngP lo hi l.length rest fun a b => K (.d (.list nl ((l.drop a).take (b - a)))) .none) := rfl
theorem ev_slice_ownh {es lo o g rest} : ev E dst V (.slice es lo true false) (.own o g :: rest) K = onRow (V.get o g) fun ety es' nl l => o < lim ∧ es = es' ∧ rngP lo true l.length rest fun a b => K (.own o (V.cn o)) (.fresh o (.row ety es nl ((l.drop a).take (b - a)))) := by
  simp only [ev, Bool.false_eq_true, if_false, if_true]; cases V.get o g with
  | none => rfl
  | some x => cases x <;> rfl
theorem ev_cap : ev E dst V .cap [.d (.list true [])] K = K (.d (.int .i64 0)) .none := rfl
theorem rng_ft {len : Nat} {C : Nat → Nat → Prop} {k h} : rngP false true len [.d (.int k h)] C = (0 ≤ h ∧ h ≤ len ∧ C 0 h.toNat) := rfl
theorem rng_tf {len : Nat} {C : Nat → Nat → Prop} {k h} : rngP true false len [.d (.int k h)] C = (0 ≤ h ∧ h ≤ len ∧ C h.toNat len) := rfl
theorem ev_len {x} : ev E dst V (.len false) [x] K = onSome (x.asList V) fun p => K (.d (.int .i64 p.2.length)) .none := by
  simp only [ev, Bool.false_eq_true, if_false]; cases x.asList V <;> rfl
theorem ev_eqnil {n x} : ev E dst V (.eqnil n) [x, .d (.list true [])] K = onSome (x.asList V) fun p => K (.d (.bool (if n then !p.1 else p.1))) .none := by
  simp only [ev]; cases x.asList V <;> rfl
theorem ev_app_own {ety es z own o g y} : ev E dst V (.app ety es z own) [.own o g, y] K = onSome (appSrc V z y) fun ys => onRow (V.get o g) fun ety' es' nl l => o < lim ∧ ety = ety' ∧ es = es' ∧ Unif es ys ∧ l.length + ys.length ≤ bound ∧
    K (.own o (V.cn o)) (.fresh o (.row ety es (nl && ys.isEmpty) (l ++ ys))) := by
  simp only [ev]; cases appSrc V z y with
  | none => rfl
  | some ys =>
    simp only [onSome]
    cases V.get o g with
    | none => rfl
    | some x => cases x <;> rfl
theorem ev_app_nil {ety es z t y} : ev E (some t) V (.app ety es z true) [.d (.list true []), y] K = onSome (appSrc V z y) fun ys => Unif es ys ∧ ys.length ≤ bound ∧ t < lim ∧ K (.own t (V.cn t)) (.fresh t (.row ety es ys.isEmpty ys)) := by
  simp only [ev]; cases appSrc V z y <;> rfl
theorem ev_app_ex {ety es z t l y} : ev E (some t) V (.app ety es z true) [.ex l, y] K = onSome (appSrc V z y) fun ys => Unif es (l ++ ys) ∧ l.length + ys.length ≤ bound ∧ (ys = [] → K (.ex l) .none) ∧ (ys ≠ [] → t < lim ∧ K (.own t (V.cn t)) (.fresh t (.row ety es false (l ++ ys)))) := by
  simp only [ev]; cases appSrc V z y with
  | none => rfl
  | some ys => cases ys <;> simp [onSome]
theorem ev_app_exD {ety es z l y} : ev E dst V (.app ety es z false) [.ex l, y] K = onSome (appSrc V z y) fun ys => Unif es (l ++ ys) ∧ l.length + ys.length ≤ bound ∧ K (.d (.list false (l ++ ys))) .none := by
  simp only [ev]; cases appSrc V z y <;> rfl
theorem ev_callv_fn {f cs args} : ev E dst V .callv (.fn f cs :: args) K = (hasBody E.P f = true ∧ evCall E dst V f (args ++ cs) K) := rfl
theorem ev_callv_d {f cs args} : ev E dst V .callv (.d (.fn f cs) :: args) K = (hasBody E.P f = true ∧ evCall E dst V f (args ++ cs.map .d) K) := rfl

theorem evBin_eql {k k' : IntKind} {a b : Int} {C : AV → Prop} : evBin .eql k k' a b C = (k = k' ∧ C (.d (.bool (decide (a = b))))) := rfl
theorem evBin_neq {k k' : IntKind} {a b : Int} {C : AV → Prop} : evBin .neq k k' a b C = (k = k' ∧ C (.d (.bool (!decide (a = b))))) := rfl
theorem evBin_lss {k k' : IntKind} {a b : Int} {C : AV → Prop} : evBin .lss k k' a b C = (k = k' ∧ C (.d (.bool (decide (a < b))))) := rfl
theorem evBin_leq {k k' : IntKind} {a b : Int} {C : AV → Prop} : evBin .leq k k' a b C = (k = k' ∧ C (.d (.bool (decide (a ≤ b))))) := rfl
theorem evBin_gtr {k k' : IntKind} {a b : Int} {C : AV → Prop} : evBin .gtr k k' a b C = (k = k' ∧ C (.d (.bool (decide (b < a))))) := rfl
theorem evBin_geq {k k' : IntKind} {a b : Int} {C : AV → Prop} : evBin .geq k k' a b C = (k = k' ∧ C (.d (.bool (decide (b ≤ a))))) := rfl
theorem evBin_add {k k' : IntKind} {a b : Int} {C : AV → Prop} : evBin .add k k' a b C = (k = k' ∧ C (.d (.int k (k.wrap (a + b))))) := rfl
theorem evBin_sub {k k' : IntKind} {a b : Int} {C : AV → Prop} : evBin .sub k k' a b C = (k = k' ∧ C (.d (.int k (k.wrap (a - b))))) := rfl
theorem evBin_mul {k k' : IntKind} {a b : Int} {C : AV → Prop} : evBin .mul k k' a b C = (k = k' ∧ C (.d (.int k (k.wrap (a * b))))) := rfl
theorem evBin_quo {k k' : IntKind} {a b : Int} {C : AV → Prop} : evBin .quo k k' a b C = (k = k' ∧ b ≠ 0 ∧ C (.d (.int k (k.wrap (a.tdiv b))))) := rfl
theorem evBin_rem {k k' : IntKind} {a b : Int} {C : AV → Prop} : evBin .rem k k' a b C = (k = k' ∧ b ≠ 0 ∧ C (.d (.int k (a.tmod b)))) := rfl
theorem evBin_shl {k k' : IntKind} {a b : Int} {C : AV → Prop} : evBin .shl k k' a b C = (0 ≤ b ∧ C (.d (.int k (k.wrap (a * 2 ^ (min b.toNat k.bits)))))) := rfl
theorem evBin_shr {k k' : IntKind} {a b : Int} {C : AV → Prop} : evBin .shr k k' a b C = (0 ≤ b ∧ C (.d (.int k (a.fdiv (2 ^ (min b.toNat k.bits)))))) := rfl
theorem evBin_and {k k' : IntKind} {a b : Int} {C : AV → Prop} : evBin .and k k' a b C = (k = k' ∧ C (.d (.int k (bitsOp .and k a b)))) := rfl
theorem evBin_xor {k k' : IntKind} {a b : Int} {C : AV → Prop} : evBin .xor k k' a b C = (k = k' ∧ C (.d (.int k (bitsOp .xor k a b)))) := rfl
end
end Go.Pw
end
section
namespace Go.Pw
set_option linter.unusedSimpArgs false
set_option linter.unusedVariables false

def onHist (x : Option AObj) (A : List (List D) → Nat → Prop) : Prop := match x with | some (.hist els n false) => A els n | _ => False
section
variable {E : Env} {Q : PExit → PSt → Prop} {s s' : PSt} {K : AV → Chg → Prop} {KS : PSt → Prop}
def aliveO (V : View) (o : Nat) : Bool := match V.ob o with | some (g, _) => g == 0 | none => false
def aliveX (x : Option (Nat × AObj)) : Bool := match x with | some (g, _) => g == 0 | none => false
/- Names moved. -/
def mvL (l : List (Nat × AV)) : List (Nat × AV) := l.map fun p => (p.1, p.2.mv)
def mvOc (k : Nat) (g : Nat) (x : Option AObj) (r : List (Nat × (Nat × AObj))) : List (Nat × (Nat × AObj)) := match x with
  | some y => (mvn k, (g, y)) :: r
  | none => r.filter fun p => !(p.1 == mvn k)
def mvO : List (Nat × (Nat × AObj)) → List (Nat × (Nat × AObj))
  | [] => []
  | (k, (g, x)) :: l => mvOc k g x.mv (mvO l)
/- The rounds. -/
def rndE {α : Type} (T : α → View) (Inv : Nat → α → Prop) (PInv : PExit → α → Prop) (m : Nat) (gs : List Ghost) (ks os : List Nat) (sl : Nat → AV) (e : PExit) (s : PSt) : Prop :=
  ghosts gs s fun s' => waitsB ks sl (s'.V.nrm os) = true ∧ ∃ y, s'.V.nrm os = T y ∧ (match e with | .normal => Inv m y | e => PInv e y)
end

end Go.Pw
end
