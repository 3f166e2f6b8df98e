/- Decoding: the model's operations as our instructions. -/
import Derived.Test.YtgeodifpcminpaaPwC
set_option linter.all false
namespace Go.Pw

def inK (k : IntKind) (n : Int) : Bool := decide (k.min ≤ n) && decide (n ≤ k.max)

def decV : Value → Option D
  | .int k n => if inK k n then some (.int k n) else none
  | .bool b => some (.bool b)
  | .slice none 0 0 => some (.list true [])
  | .pointer none => some .nilptr
  | .map none => some .nilmap
  | .nilFunc => some .nilfn
  | _ => none

def decO (E : Env) : Operand → Option Opd
  | .tmp t => some (.t t)
  | .const v => (decV v).map fun d => .k (.d d)
  | .global g => (E.G g).map fun cs => .k (.d (.ptr cs))
  | .func f => some (.k (.fn f []))

def szOf (P : Program) (t : TypeId) : Option Nat := (P.info? t).map (·.size)
def isAggT (P : Program) (t : TypeId) : Option Bool :=
  match P.underlying t with
  | some (.struct _) | some (.array _ _) => some true
  | some _ => some false
  | none => none
def zeroCs (P : Program) (t : TypeId) : Option (List D) :=
  match (P.info? t).bind (·.zero) with
  | some v => listM decV v.cells.toList
  | none => none
def zeroD (P : Program) (t : TypeId) : Option D :=
  match (P.info? t).bind (·.zero) with
  | some (.agg cs) => (listM decV cs.toList).map .agg
  | some v => decV v
  | none => none

def kindOf (P : Program) (t : TypeId) : Option (Option IntKind) :=
  match P.underlying t with
  | some (.int k) => some (some k)
  | some .bool => some none
  | _ => none
/-- A struct or an array of plain cells, which can be compared cell by cell: the kinds of its cells. -/
def plainT (P : Program) (t : TypeId) : Option KTy :=
  match P.underlying t with
  | some (.int k) => some (false, [some k])
  | some .bool => some (false, [none])
  | some (.struct fs) => if P.stoodInHeld t = false ∧ P.eqGuardType P.depth t = false ∧ (fs.toList.zipIdx.all fun (f, i) => f.name != "_" && f.offset == i) = true then
      (listM (fun f => kindOf P f.type) fs.toList).map fun l => (true, l) else none
  | some (.array n e) => if P.eqGuardType P.depth t = false ∧ szOf P e = some 1 then (kindOf P e).map fun k => (true, List.replicate n k) else none
  | _ => none

def decOs (E : Env) (xs : List Operand) : Option (List Opd) := listM (decO E) xs

def decBuiltin (E : Env) (draw : Bool) (b : Builtin) (argTypes : Array TypeId) (args : List Operand) : Option (IOp × List Operand) :=
  let P := E.P
  match b with
  | .len => match args with
    | [x] => match (argTypes[0]?).bind P.underlying with
      | some (.slice _) => some (.len false, [x])
      | some (.map ..) => some (.len true, [x])
      | _ => none
    | _ => none
  | .min => match args with
    | x :: xs => some (.minmax false, x :: xs)
    | _ => none
  | .max => match args with
    | x :: xs => some (.minmax true, x :: xs)
    | _ => none
  | .append => match args with
    | [x, y] => match (argTypes[0]?).bind P.underlying, (argTypes[1]?).bind P.underlying with
      | some (.slice e), some ty => match P.info? e, zeroD P e with
        | some i, some z => if 0 < i.size ∧ i.bytes ≤ 65536 ∧ (i.zero.map (·.cells.size)) = some i.size then (match ty with
          | .slice e' => if e = e' then some (.app e i.size none (!draw), [x, y]) else none
          | .int .i64 => if z.cells.length = i.size then some (.app e i.size (some z) (!draw), [x, y]) else none
          | _ => none) else none
        | _, _ => none
      | _, _ => none
    | _ => none
  | _ => none

def decCall (E : Env) (draw : Bool) (c : Call) : Option (IOp × List Operand) :=
  match c.callee with
  | .value (.func f) => if hasBody E.P f then some (.call f, c.args.toList) else none
  | .value x => some (.callv, x :: c.args.toList)
  | .builtin b => decBuiltin E draw b c.argTypes c.args.toList
  | _ => none

def eqOp : BinOp → Option Bool
  | .eql => some false
  | .neq => some true
  | _ => none

def decBin (E : Env) (b : BinOp) (t : TypeId) (x y : Operand) : Option (IOp × List Operand) :=
  match E.P.underlying t with
  | some (.int _) => some (.bin b, [x, y])
  | some .bool => (eqOp b).map fun n => (.beq n, [x, y])
  | some (.struct _) => (eqOp b).bind fun n => (plainT E.P t).map fun tys => (.eqv n tys, [x, y])
  | some (.array _ _) => (eqOp b).bind fun n => (plainT E.P t).map fun tys => (.eqv n tys, [x, y])
  | some (.slice _) => (eqOp b).map fun n => (.eqnil n, [x, y])
  | _ => none

/-- One operation. -/
def decOp (E : Env) (draw : Bool) (used : Bool) (op : Op) : Option (IOp × List Operand) :=
  let P := E.P
  match op with
  | .move x | .assign x => some (.mov, [x])
  | .pick c a b => some (.pick, [c, a, b])
  | .box _ x => some (.box, [x])
  | .alloc e => (zeroCs P e).map fun cs => (.zero cs, [])
  | .build t parts => match zeroCs P t, P.underlying t with
    | some z, some (.struct fs) =>
      match fs.toList.mapM (fun f => (P.info? f.type).map fun i => (f.offset, i.size)) with
      | some places => (match listM (fun (p : Nat × Operand) => places[p.1]?) parts.toList with
        | some pl => some (.build z pl, parts.toList.map (·.2))
        | none => none)
      | none => none
    | some z, some (.array _ e) => match szOf P e with
      | some s => some (.build z (parts.toList.map fun p => (p.1 * s, s)), parts.toList.map (·.2))
      | none => none
    | _, _ => none
  | .buildSlice t len parts => match P.underlying t with
    | some (.slice e) => match zeroD P e, szOf P e with
      | some z, some s => if 0 < s ∧ s = z.cells.length ∧ len * s ≤ 16777216 then
          some (if used && !draw then .mkrowO e s z len (parts.toList.map (·.1)) else .mkrow s z len (parts.toList.map (·.1)), parts.toList.map (·.2)) else none
      | _, _ => none
    | _ => none
  | .load t a => match isAggT P t, szOf P t with
    | some ag, some n => if 0 < n ∧ (ag ∨ n = 1) then some (.load ag n, [a]) else none
    | _, _ => none
  | .store t a x => match szOf P t with
    | some n => if 0 < n then some (.store n, [a, x]) else none
    | none => none
  | .nilCheck x => some (.nilck, [x])
  | .binOp b t x y _ => decBin E b t x y
  | .unOp u _ x => some (.un u, [x])
  | .convert s t x => match P.underlying s, P.underlying t with
    | some (.int _), some (.int k) => some (.conv k, [x])
    | _, _ => none
  | .makeFunc (.func f) first captured => if first.size = 0 ∧ hasBody P f then some (.mkfn f, captured.toList) else none
  | .makeMap t none => match P.underlying t with
    | some (.map k _) => (plainT P k).map fun tys => (.mkmap tys, [])
    | _ => none
  | .makeSlice t l c => match P.underlying t with
    | some (.slice e) => match P.info? e, zeroD P e with
      | some i, some z => if 0 < i.size ∧ i.bytes ≤ 131072 ∧ z.cells.length = i.size then some (.mksl e i.size z (!draw), [l, c]) else none
      | _, _ => none
    | _ => none
  | .slice t x lo hi mx => match P.underlying t with
    | some (.slice e) => match szOf P e with
      | some s => if 0 < s then some (.slice s lo.isSome hi.isSome mx.isSome, x :: (lo.toList ++ hi.toList ++ mx.toList)) else none
      | none => none
    | _ => none
  | .fieldAddr t x f => match P.underlying t with
    | some (.struct fs) => (fs[f]?).bind fun f => match szOf P f.type with
      | some n => if 0 < n then some (.faddr f.offset, [x]) else none
      | none => none
    | _ => none
  | .field t x f => match P.underlying t with
    | some (.struct fs) => (fs[f]?).bind fun f => match isAggT P f.type, szOf P f.type with
      | some ag, some n => if 0 < n ∧ (ag ∨ n = 1) then some (.field ag f.offset n, [x]) else none
      | _, _ => none
    | _ => none
  | .indexAddr t x i => match P.underlying t with
    | some (.slice e) => match szOf P e with
      | some s => if 0 < s then some (.iaddrS s, [x, i]) else none
      | none => none
    | some (.array n e) => match szOf P e with
      | some s => if 0 < s then some (.iaddrA n s, [x, i]) else none
      | none => none
    | _ => none
  | .index t x i => match P.underlying t with
    | some (.array n e) => match isAggT P e, szOf P e with
      | some ag, some s => if 0 < s ∧ (ag ∨ s = 1) then some (.index n s ag, [x, i]) else none
      | _, _ => none
    | _ => none
  | .lookup t x k ok => match P.underlying t with
    | some (.map kt e) => match plainT P kt, zeroD P e with
      | some tys, some z => some (.lookup ok tys z, [x, k])
      | _, _ => none
    | _ => none
  | .mapUpdate t m k v => match P.underlying t with
    | some (.map kt _) => (plainT P kt).map fun tys => (.mapupd tys, [m, k, v])
    | _ => none
  | .mapEntry t m k => match P.underlying t with
    | some (.map kt e) => match plainT P kt, zeroD P e with
      | some tys, some z => if z.one then some (.mapent tys z, [m, k]) else none
      | _, _ => none
    | _ => none
  | .entryStore _ m s v => some (.entst, [m, s, v])
  | .extract x i => some (.extract i, [x])
  | .call c => decCall E draw c
  | _ => none

/-- Is what an operation gives handed to a variable in the same region? -/
def usedIn (ops : List Oper) (d : Option Tmp) : Bool :=
  match d with
  | some t => ops.any fun o => match o.op with | .assign (.tmp u) => u == t | .store _ _ (.tmp u) => u == t | _ => false
  | none => false

def dstOK (n : Nat) : Option Tmp → Bool
  | some t => decide (t < n)
  | none => true

def decG (n : Nat) (ops : List Oper) : Option (Nat × Bool) → Option (Option (Nat × Bool))
  | none => some none
  | some (j, b) => match (ops[j]?).bind (·.dst) with
    | some t => if t < n then some (some (t, b)) else none
    | none => none

def flip (fl : List Nat) : Option Tmp → Bool
  | some t => fl.contains t
  | none => false

def decI (E : Env) (draw : Bool) (fl : List Nat) (n : Nat) (ops : List Oper) (o : Oper) : Option Ins :=
  match decOp E (draw != flip fl o.dst) (usedIn ops o.dst || flip fl o.dst) o.op with
  | none => none
  | some (op, xs) => match decOs E xs with
    | none => none
    | some ys => match dstOK n o.dst, decG n ops o.guard with
      | true, some g => some ⟨o.dst, g, op, ys⟩
      | _, _ => none

end Go.Pw
