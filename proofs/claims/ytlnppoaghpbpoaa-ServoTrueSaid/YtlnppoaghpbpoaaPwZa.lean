/- A part of the proof. -/
import Derived.Test.YtlnppoaghpbpoaaPwZ
set_option linter.all false
namespace Go.Pw
set_option linter.unusedSimpArgs false
set_option linter.unusedVariables false

def onCells (x : Option AObj) (A : List AV → Prop) : Prop := match x with | some (.cells cs) => A cs | _ => False
def onRow (x : Option AObj) (A : Nat → Nat → Bool → List D → Prop) : Prop := match x with | some (.row a b c l) => A a b c l | _ => False
def onMap (x : Option AObj) (A : KTy → List (D × D) → Prop) : Prop := match x with | some (.map t l) => A t l | _ => False
def onSome {α : Type} (x : Option α) (A : α → Prop) : Prop := match x with | some v => A v | none => False
def onOpt {α : Type} (x : Option α) (A : α → Prop) (B : Prop) : Prop := match x with | some v => A v | none => B

theorem onCells_congr {x y : Option AObj} {A} (h : x = y) : onCells x A = onCells y A := by rw [h]
theorem onRow_congr {x y : Option AObj} {A} (h : x = y) : onRow x A = onRow y A := by rw [h]
theorem onMap_congr {x y : Option AObj} {A} (h : x = y) : onMap x A = onMap y A := by rw [h]
theorem onSome_congr {α : Type} {x y : Option α} {A : α → Prop} (h : x = y) : onSome x A = onSome y A := by rw [h]
theorem onOpt_congr {α : Type} {x y : Option α} {A : α → Prop} {B : Prop} (h : x = y) : onOpt x A B = onOpt y A B := by rw [h]
theorem onCells_some (cs A) : onCells (some (.cells cs)) A = A cs := rfl
theorem onRow_some (a b c l A) : onRow (some (.row a b c l)) A = A a b c l := rfl
theorem onMap_some (t l A) : onMap (some (.map t l)) A = A t l := rfl
theorem onSome_some {α : Type} (v : α) (A : α → Prop) : onSome (some v) A = A v := rfl
theorem onOpt_some {α : Type} (v : α) (A : α → Prop) (B : Prop) : onOpt (some v) A B = A v := rfl
theorem onOpt_none {α : Type} (A : α → Prop) (B : Prop) : onOpt none A B = B := rfl

section
variable {E : Env} {dst : Option Nat} {V : View} {K : AV → Chg → Prop}

theorem part_t {α : Type} {n : Nat} {cs : List α} {off : Nat} {mk : List α → AV} {one : α → AV} {C : AV → Prop} : evPart true n cs off mk one C = (off + n ≤ cs.length ∧ C (mk ((cs.drop off).take n))) := by simp [evPart]
theorem part_f {α : Type} {n : Nat} {cs : List α} {off : Nat} {mk : List α → AV} {one : α → AV} {C : AV → Prop} : evPart false n cs off mk one C = onSome cs[off]? fun v => C (one v) := by
  simp only [evPart, Bool.false_eq_true, if_false]; cases cs[off]? <;> rfl

theorem ev_load_ptr {ag n o g off} : ev E dst V (.load ag n) [.ptr o g off] K = onCells (V.get o g) fun cs => evPart ag n cs off .agg id (K · .none) := by
  simp only [ev]; cases V.get o g with
  | none => rfl
  | some x => cases x <;> rfl
theorem ev_load_rptr {ag n o g es i off} : ev E dst V (.load ag n) [.rptr o g es i off] K = onRow (V.get o g) fun _ es' _ l => es = es' ∧ onSome l[i]? fun x => evPart ag n x.cells off (fun cs => .d (.agg cs)) .d (K · .none) := by
  simp only [ev]; cases V.get o g with
  | none => rfl
  | some x =>
    cases x with
    | row a b c l => simp only [onRow]; cases l[i]? <;> rfl
    | _ => rfl
theorem ev_load_dptr {ag n cs off} : ev E dst V (.load ag n) [.dptr cs off] K = evPart ag n cs off (fun cs => .d (.agg cs)) .d (K · .none) := rfl
theorem ev_load_d {ag n cs} : ev E dst V (.load ag n) [.d (.ptr cs)] K = evPart ag n cs 0 (fun cs => .d (.agg cs)) .d (K · .none) := rfl
theorem ev_store_ptr {n o g off v} : ev E dst V (.store n) [.ptr o g off, v] K = onCells (V.get o g) fun cs => onSome v.cells? fun vs => vs.length = n ∧ off + n ≤ cs.length ∧ K .undef (.keep o g (.cells (splice cs off vs))) := by
  unfold ev onCells onSome; simp only
  cases V.get o g with
  | none => rfl
  | some x => cases x <;> cases v.cells? <;> rfl
theorem ev_faddr_ptr {off o g a} : ev E dst V (.faddr off) [.ptr o g a] K = K (.ptr o g (a + off)) .none := rfl
theorem ev_faddr_rptr {off o g es i a} : ev E dst V (.faddr off) [.rptr o g es i a] K = K (.rptr o g es i (a + off)) .none := rfl
theorem ev_faddr_dptr {off cs a} : ev E dst V (.faddr off) [.dptr cs a] K = K (.dptr cs (a + off)) .none := rfl
theorem ev_faddr_d {off cs} : ev E dst V (.faddr off) [.d (.ptr cs)] K = K (.dptr cs off) .none := rfl
theorem ev_lenL {nl : Bool} {l : List D} : ev E dst V (.len false) [.d (.list nl l)] K = K (.d (.int .i64 l.length)) .none := rfl
theorem ev_iaddr_d {es nl l k i} : ev E dst V (.iaddrS es) [.d (.list nl l), .d (.int k i)] K = (0 ≤ i ∧ i < l.length ∧ onSome l[i.toNat]? fun x => x.cells.length = es ∧ K (.dptr x.cells 0) .none) := by
  simp only [ev]; cases l[i.toNat]? <;> rfl
theorem ev_box {t v} : ev E (some t) V .box [v] K = onSome v.cells? fun cs => t < lim ∧ K (.ptr t (V.cn t) 0) (.fresh t (.cells cs)) := by
  simp only [ev]; cases v.cells? <;> rfl
theorem ev_conv {k k' n} : ev E dst V (.conv k) [.d (.int k' n)] K = K (.d (.int k (k.wrap n))) .none := rfl
theorem ev_beq {n x y} : ev E dst V (.beq n) [.d (.bool x), .d (.bool y)] K = K (.d (.bool (if n then !(x == y) else (x == y)))) .none := rfl
theorem ev_extract {i vs} : ev E dst V (.extract i) [.tup vs] K = onSome vs[i]? fun v => K v .none := by
  simp only [ev]; cases vs[i]? <;> rfl
theorem ev_call {f xs} : ev E dst V (.call f) xs K = evCall E dst V f xs K := rfl

theorem ev_store_rptr {n o g es0 i off v} : ev E dst V (.store n) [.rptr o g es0 i off, v] K = onRow (V.get o g) fun ety es nl l => onSome v.toD1 fun y => es0 = es ∧ onSome l[i]? fun x => y.cells.length = n ∧ off + n ≤ x.cells.length ∧ (n = es ∨ 1 < x.cells.length) ∧
    K .undef (.keep o g (.row ety es nl (l.set i (if n = es then y else .agg (splice x.cells off y.cells))))) := by
  simp only [ev]; cases V.get o g with
  | none => rfl
  | some x =>
    cases x with
    | row a b c l => simp only [onRow]; cases v.toD1 with
      | none => rfl
      | some y => simp only [onSome]; cases l[i]? <;> rfl
    | _ => rfl
theorem ev_nilck_ptr {o g off} : ev E dst V .nilck [.ptr o g off] K = K (.ptr o g off) .none := rfl
theorem ev_nilck_rptr {o g es i off} : ev E dst V .nilck [.rptr o g es i off] K = K (.rptr o g es i off) .none := rfl
theorem ev_nilck_dptr {cs off} : ev E dst V .nilck [.dptr cs off] K = K (.dptr cs off) .none := rfl
theorem ev_nilck_d {cs} : ev E dst V .nilck [.d (.ptr cs)] K = K (.d (.ptr cs)) .none := rfl
theorem ev_field_agg {ag off n cs} : ev E dst V (.field ag off n) [.agg cs] K = evPart ag n cs off .agg id (K · .none) := rfl
theorem ev_field_d {ag off n cs} : ev E dst V (.field ag off n) [.d (.agg cs)] K = evPart ag n cs off (fun cs => .d (.agg cs)) .d (K · .none) := rfl
theorem ev_iaddr_own {es o g k i} : ev E dst V (.iaddrS es) [.own o g, .d (.int k i)] K = onRow (V.get o g) fun _ es' _ l => es = es' ∧ 0 ≤ i ∧ i < l.length ∧ K (.rptr o g es i.toNat 0) .none := by
  simp only [ev]; cases V.get o g with
  | none => rfl
  | some x => cases x <;> rfl
theorem ev_iaddr_ex {es l k i} : ev E dst V (.iaddrS es) [.ex l, .d (.int k i)] K = (0 ≤ i ∧ i < l.length ∧ onSome l[i.toNat]? fun x => x.cells.length = es ∧ K (.dptr x.cells 0) .none) := by
  simp only [ev]; cases l[i.toNat]? <;> rfl
theorem ev_iaddrA_ptr {len es o g off k i} : ev E dst V (.iaddrA len es) [.ptr o g off, .d (.int k i)] K = (0 ≤ i ∧ i < len ∧ K (.ptr o g (off + i.toNat * es)) .none) := rfl
theorem ev_iaddrA_dptr {len es cs off k i} : ev E dst V (.iaddrA len es) [.dptr cs off, .d (.int k i)] K = (0 ≤ i ∧ i < len ∧ K (.dptr cs (off + i.toNat * es)) .none) := rfl
theorem ev_iaddrA_d {len es cs k i} : ev E dst V (.iaddrA len es) [.d (.ptr cs), .d (.int k i)] K = (0 ≤ i ∧ i < len ∧ K (.dptr cs (i.toNat * es)) .none) := rfl
theorem ev_index_agg {len es ag cs k i} : ev E dst V (.index len es ag) [.agg cs, .d (.int k i)] K = (0 ≤ i ∧ i < len ∧ evPart ag es cs (i.toNat * es) .agg id (K · .none)) := rfl
theorem ev_index_d {len es ag cs k i} : ev E dst V (.index len es ag) [.d (.agg cs), .d (.int k i)] K = (0 ≤ i ∧ i < len ∧ evPart ag es cs (i.toNat * es) (fun cs => .d (.agg cs)) .d (K · .none)) := rfl
theorem ev_build {z pl xs} : ev E dst V (.build z pl) xs K = onSome (fillA (z.map .d) (pl.zip xs)) fun cs => pl.length = xs.length ∧ K (.agg cs) .none := by
  simp only [ev]; cases fillA (z.map .d) (pl.zip xs) <;> rfl
theorem ev_mkrow {es z n ix xs} : ev E dst V (.mkrow es z n ix) xs K = onSome (fillR es (List.replicate n z) (ix.zip xs)) fun l => ix.length = xs.length ∧ K (.ex l) .none := by
  simp only [ev]; cases fillR es (List.replicate n z) (ix.zip xs) <;> rfl
theorem ev_mkrowO {ety es z n ix xs t} : ev E (some t) V (.mkrowO ety es z n ix) xs K = onSome (fillR es (List.replicate n z) (ix.zip xs)) fun l => t < lim ∧ ix.length = xs.length ∧ K (.own t (V.cn t)) (.fresh t (.row ety es false l)) := by
  simp only [ev]; cases fillR es (List.replicate n z) (ix.zip xs) <;> rfl
theorem ev_mkfn {f xs} : ev E dst V (.mkfn f) xs K = K (.fn f xs) .none := rfl
theorem ev_zero {cs t} : ev E (some t) V (.zero cs) [] K = (t < lim ∧ K (.ptr t (V.cn t) 0) (.fresh t (.cells (cs.map .d)))) := rfl
theorem ev_mkmap {tys t} : ev E (some t) V (.mkmap tys) [] K = (t < lim ∧ K (.map t (V.cn t)) (.fresh t (.map tys []))) := rfl
theorem ev_mksl_own {ety es z t n m} : ev E (some t) V (.mksl ety es z true) [.d (.int .i64 n), .d (.int .i64 m)] K = (n = m ∧ 0 ≤ n ∧ n ≤ (bound : Int) ∧ t < lim ∧ K (.own t (V.cn t)) (.fresh t (.row ety es false (List.replicate n.toNat z)))) := rfl
theorem ev_mksl_d {ety es z t n m} : ev E (some t) V (.mksl ety es z false) [.d (.int .i64 n), .d (.int .i64 m)] K = (n = m ∧ 0 ≤ n ∧ n ≤ (bound : Int) ∧ K (.d (.list false (List.replicate n.toNat z))) .none) := rfl
theorem ev_slice_d {es lo hi nl l rest} : ev E dst V (.slice es lo hi false) (.d (.list nl l) :: rest) K = (Unif es l ∧ rngP lo hi l.length rest fun a b => K (.d (.list nl ((l.drop a).take (b - a)))) .none) := rfl
theorem ev_slice_ex {es lo hi l rest} : ev E dst V (.slice es lo hi false) (.ex l :: rest) K = (Unif es l ∧ rngP lo hi l.length rest fun a b => K (.d (.list false ((l.drop a).take (b - a)))) .none) := rfl
theorem ev_slice_own {es lo hi o g rest} : ev E dst V (.slice es lo hi false) (.own o g :: rest) K = onRow (V.get o g) fun ety es' nl l => o < lim ∧ es = es' ∧ hi = false ∧ rngP lo hi l.length rest fun a _ => K (.own o (V.cn o)) (.fresh o (.row ety es nl (l.drop a))) := by
  simp only [ev, Bool.false_eq_true, if_false]; cases V.get o g with
  | none => rfl
  | some x => cases x <;> rfl
theorem ev_slice3 {es l k h k' m} : ev E dst V (.slice es false true true) [.d (.list false l), .d (.int k h), .d (.int k' m)] K = (Unif es l ∧ h = m ∧ 0 ≤ h ∧ h ≤ l.length ∧ K (.ex (l.take h.toNat)) .none) := rfl
theorem ev_slice3n {es k h k' m} : ev E dst V (.slice es false true true) [.d (.list true []), .d (.int k h), .d (.int k' m)] K = (h = 0 ∧ m = 0 ∧ K (.d (.list true [])) .none) := rfl
theorem rng_ff {len : Nat} {C : Nat → Nat → Prop} : rngP false false len [] C = C 0 len := rfl
theorem rng_ft {len : Nat} {C : Nat → Nat → Prop} {k h} : rngP false true len [.d (.int k h)] C = (0 ≤ h ∧ h ≤ len ∧ C 0 h.toNat) := rfl
theorem rng_tf {len : Nat} {C : Nat → Nat → Prop} {k h} : rngP true false len [.d (.int k h)] C = (0 ≤ h ∧ h ≤ len ∧ C h.toNat len) := rfl
theorem rng_tt {len : Nat} {C : Nat → Nat → Prop} {k h k' m} : rngP true true len [.d (.int k h), .d (.int k' m)] C = (0 ≤ h ∧ h ≤ m ∧ m ≤ len ∧ C h.toNat m.toNat) := rfl
theorem ev_len {x} : ev E dst V (.len false) [x] K = onSome (x.asList V) fun p => K (.d (.int .i64 p.2.length)) .none := by
  simp only [ev, Bool.false_eq_true, if_false]; cases x.asList V <;> rfl
theorem ev_lenM {o g} : ev E dst V (.len true) [.map o g] K = onMap (V.get o g) fun _ kvs => kvs.length ≤ bound ∧ K (.d (.int .i64 kvs.length)) .none := by
  simp only [ev, if_true]; cases V.get o g with
  | none => rfl
  | some x => cases x <;> rfl
theorem ev_eqnil {n x} : ev E dst V (.eqnil n) [x, .d (.list true [])] K = onSome (x.asList V) fun p => K (.d (.bool (if n then !p.1 else p.1))) .none := by
  simp only [ev]; cases x.asList V <;> rfl
theorem ev_eqv {n tys x y} : ev E dst V (.eqv n tys) [x, y] K = onSome x.toD1 fun a => onSome y.toD1 fun b => tyM tys a = true ∧ tyM tys b = true ∧ K (.d (.bool (if n then !keyEq a b else keyEq a b))) .none := by
  simp only [ev]; cases x.toD1 <;> cases y.toD1 <;> rfl
theorem ev_neg {k n} : ev E dst V (.un .neg) [.d (.int k n)] K = K (.d (.int k (k.wrap (0 - n)))) .none := rfl
theorem ev_xor {k n} : ev E dst V (.un .xor) [.d (.int k n)] K = K (.d (.int k (bitsOp .xor k (if k.signed then -1 else k.max) n))) .none := rfl
theorem ev_minmax {m k a rest} : ev E dst V (.minmax m) (.d (.int k a) :: rest) K = onSome (foldMM m k a rest) fun r => K (.d (.int k r)) .none := by
  simp only [ev]; cases foldMM m k a rest <;> rfl
theorem ev_lookupV {tys z o g key} : ev E dst V (.lookup false tys z) [.map o g, key] K = onMap (V.get o g) fun tys' kvs => onSome key.toD1 fun k => tys = tys' ∧ tyM tys k = true ∧ onOpt (lookK k kvs) (fun v => K (.d v) .none) (K (.d z) .none) := by
  simp only [ev]; cases V.get o g with
  | none => rfl
  | some x =>
    cases x with
    | map t l => simp only [onMap]; cases key.toD1 with
      | none => rfl
      | some k => simp only [onSome]; cases lookK k l <;> rfl
    | _ => rfl
theorem ev_lookupOk {tys z o g key} : ev E dst V (.lookup true tys z) [.map o g, key] K = onMap (V.get o g) fun tys' kvs => onSome key.toD1 fun k => tys = tys' ∧ tyM tys k = true ∧ onOpt (lookK k kvs) (fun v => K (.tup [.d v, .d (.bool true)]) .none) (K (.tup [.d z, .d (.bool false)]) .none) := by
  simp only [ev]; cases V.get o g with
  | none => rfl
  | some x =>
    cases x with
    | map t l => simp only [onMap]; cases key.toD1 with
      | none => rfl
      | some k => simp only [onSome]; cases lookK k l <;> rfl
    | _ => rfl
theorem ev_mapupd {tys o g key val} : ev E dst V (.mapupd tys) [.map o g, key, val] K = onMap (V.get o g) fun tys' kvs => onSome key.toD1 fun k => onSome val.toD1 fun v => tys = tys' ∧ v.one = true ∧ tyM tys k = true ∧ K .undef (.keep o g (.map tys (setK k v kvs))) := by
  simp only [ev]; cases V.get o g with
  | none => rfl
  | some x =>
    cases x with
    | map t l => simp only [onMap]; cases key.toD1 <;> cases val.toD1 <;> rfl
    | _ => rfl
theorem ev_mapent {tys z o g key} : ev E dst V (.mapent tys z) [.map o g, key] K = onMap (V.get o g) fun tys' kvs => onSome key.toD1 fun k => tys = tys' ∧ tyM tys k = true ∧ kvs.length ≤ bound ∧
    onOpt (idxK k kvs) (fun i => K (.tup [.undef, .d (.int .i64 i)]) .none) (K (.tup [.undef, .d (.int .i64 kvs.length)]) (.keep o g (.map tys (kvs ++ [(k, z)])))) := by
  simp only [ev]; cases V.get o g with
  | none => rfl
  | some x =>
    cases x with
    | map t l => simp only [onMap]; cases key.toD1 with
      | none => rfl
      | some k => simp only [onSome]; cases idxK k l <;> rfl
    | _ => rfl
theorem ev_entst {o g k i val} : ev E dst V .entst [.map o g, .d (.int k i), val] K = onMap (V.get o g) fun tys kvs => onSome val.toD1 fun v => 0 ≤ i ∧ v.one = true ∧ onSome kvs[i.toNat]? fun e => K .undef (.keep o g (.map tys (kvs.set i.toNat (e.1, v)))) := by
  simp only [ev]; cases V.get o g with
  | none => rfl
  | some x =>
    cases x with
    | map t l => simp only [onMap]; cases val.toD1 with
      | none => rfl
      | some v => simp only [onSome]; cases l[i.toNat]? <;> rfl
    | _ => rfl
theorem ev_app_own {ety es z own o g y} : ev E dst V (.app ety es z own) [.own o g, y] K = onSome (appSrc V z y) fun ys => onRow (V.get o g) fun ety' es' nl l => o < lim ∧ ety = ety' ∧ es = es' ∧ Unif es ys ∧ l.length + ys.length ≤ bound ∧
    K (.own o (V.cn o)) (.fresh o (.row ety es (nl && ys.isEmpty) (l ++ ys))) := by
  simp only [ev]; cases appSrc V z y with
  | none => rfl
  | some ys =>
    simp only [onSome]
    cases V.get o g with
    | none => rfl
    | some x => cases x <;> rfl
theorem ev_app_nil {ety es z t y} : ev E (some t) V (.app ety es z true) [.d (.list true []), y] K = onSome (appSrc V z y) fun ys => Unif es ys ∧ ys.length ≤ bound ∧ t < lim ∧ K (.own t (V.cn t)) (.fresh t (.row ety es ys.isEmpty ys)) := by
  simp only [ev]; cases appSrc V z y <;> rfl
theorem ev_app_nilD {ety es z y} : ev E dst V (.app ety es z false) [.d (.list true []), y] K = onSome (appSrc V z y) fun ys => Unif es ys ∧ ys.length ≤ bound ∧ K (.d (.list ys.isEmpty ys)) .none := by
  simp only [ev]; cases appSrc V z y <;> rfl
theorem ev_app_ex {ety es z t l y} : ev E (some t) V (.app ety es z true) [.ex l, y] K = onSome (appSrc V z y) fun ys => Unif es (l ++ ys) ∧ l.length + ys.length ≤ bound ∧ (ys = [] → K (.ex l) .none) ∧ (ys ≠ [] → t < lim ∧ K (.own t (V.cn t)) (.fresh t (.row ety es false (l ++ ys)))) := by
  simp only [ev]; cases appSrc V z y with
  | none => rfl
  | some ys => cases ys <;> simp [onSome]
theorem ev_app_exD {ety es z l y} : ev E dst V (.app ety es z false) [.ex l, y] K = onSome (appSrc V z y) fun ys => Unif es (l ++ ys) ∧ l.length + ys.length ≤ bound ∧ K (.d (.list false (l ++ ys))) .none := by
  simp only [ev]; cases appSrc V z y <;> rfl
theorem ev_callv_fn {f cs args} : ev E dst V .callv (.fn f cs :: args) K = (hasBody E.P f = true ∧ evCall E dst V f (args ++ cs) K) := rfl
theorem ev_callv_d {f cs args} : ev E dst V .callv (.d (.fn f cs) :: args) K = (hasBody E.P f = true ∧ evCall E dst V f (args ++ cs.map .d) K) := rfl

theorem evBin_eql {k k' : IntKind} {a b : Int} {C : AV → Prop} : evBin .eql k k' a b C = (k = k' ∧ C (.d (.bool (decide (a = b))))) := rfl
theorem evBin_neq {k k' : IntKind} {a b : Int} {C : AV → Prop} : evBin .neq k k' a b C = (k = k' ∧ C (.d (.bool (!decide (a = b))))) := rfl
theorem evBin_lss {k k' : IntKind} {a b : Int} {C : AV → Prop} : evBin .lss k k' a b C = (k = k' ∧ C (.d (.bool (decide (a < b))))) := rfl
theorem evBin_leq {k k' : IntKind} {a b : Int} {C : AV → Prop} : evBin .leq k k' a b C = (k = k' ∧ C (.d (.bool (decide (a ≤ b))))) := rfl
theorem evBin_gtr {k k' : IntKind} {a b : Int} {C : AV → Prop} : evBin .gtr k k' a b C = (k = k' ∧ C (.d (.bool (decide (b < a))))) := rfl
theorem evBin_geq {k k' : IntKind} {a b : Int} {C : AV → Prop} : evBin .geq k k' a b C = (k = k' ∧ C (.d (.bool (decide (b ≤ a))))) := rfl
theorem evBin_add {k k' : IntKind} {a b : Int} {C : AV → Prop} : evBin .add k k' a b C = (k = k' ∧ C (.d (.int k (k.wrap (a + b))))) := rfl
theorem evBin_sub {k k' : IntKind} {a b : Int} {C : AV → Prop} : evBin .sub k k' a b C = (k = k' ∧ C (.d (.int k (k.wrap (a - b))))) := rfl
theorem evBin_mul {k k' : IntKind} {a b : Int} {C : AV → Prop} : evBin .mul k k' a b C = (k = k' ∧ C (.d (.int k (k.wrap (a * b))))) := rfl
theorem evBin_quo {k k' : IntKind} {a b : Int} {C : AV → Prop} : evBin .quo k k' a b C = (k = k' ∧ b ≠ 0 ∧ C (.d (.int k (k.wrap (a.tdiv b))))) := rfl
theorem evBin_rem {k k' : IntKind} {a b : Int} {C : AV → Prop} : evBin .rem k k' a b C = (k = k' ∧ b ≠ 0 ∧ C (.d (.int k (a.tmod b)))) := rfl
theorem evBin_shl {k k' : IntKind} {a b : Int} {C : AV → Prop} : evBin .shl k k' a b C = (0 ≤ b ∧ C (.d (.int k (k.wrap (a * 2 ^ (min b.toNat k.bits)))))) := rfl
theorem evBin_shr {k k' : IntKind} {a b : Int} {C : AV → Prop} : evBin .shr k k' a b C = (0 ≤ b ∧ C (.d (.int k (a.fdiv (2 ^ (min b.toNat k.bits)))))) := rfl
theorem evBin_and {k k' : IntKind} {a b : Int} {C : AV → Prop} : evBin .and k k' a b C = (k = k' ∧ C (.d (.int k (bitsOp .and k a b)))) := rfl
theorem evBin_or {k k' : IntKind} {a b : Int} {C : AV → Prop} : evBin .or k k' a b C = (k = k' ∧ C (.d (.int k (bitsOp .or k a b)))) := rfl
theorem evBin_xor {k k' : IntKind} {a b : Int} {C : AV → Prop} : evBin .xor k k' a b C = (k = k' ∧ C (.d (.int k (bitsOp .xor k a b)))) := rfl
theorem evBin_andNot {k k' : IntKind} {a b : Int} {C : AV → Prop} : evBin .andNot k k' a b C = (k = k' ∧ C (.d (.int k (bitsOp .andNot k a b)))) := rfl
end
end Go.Pw
