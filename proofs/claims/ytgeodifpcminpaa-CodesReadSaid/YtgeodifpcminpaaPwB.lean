/- Abstract values, objects and states; what an operation does to them. -/
import Derived.Test.YtgeodifpcminpaaPwA
set_option linter.all false
namespace Go.Pw

/-- Abstract values: data, and references to what the call itself has made (a site, and a count of how often it was made). -/
inductive AV where
  | d (x : D)
  | ex (xs : List D)
  | agg (cs : List AV)
  | ptr (o g off : Nat)
  | rptr (o g es i off : Nat)
  | dptr (cs : List D) (off : Nat)
  | own (o g : Nat)
  | map (o g : Nat)
  | fn (f : FuncId) (cs : List AV)
  | tup (vs : List AV)
  | undef
  deriving Inhabited

/-- The kinds of the cells of a plain value, and whether it is a struct or an array. -/
abbrev KTy := Bool × List (Option IntKind)

inductive AObj where
  | cells (xs : List AV)
  | row (ety es : Nat) (nil : Bool) (xs : List D)
  | map (tys : KTy) (kvs : List (D × D))

def upd {α : Type} (f : Nat → α) (i : Nat) (x : α) : Nat → α := fun j => if j = i then x else f j

/-- What an operation does to the objects. -/
inductive Chg where
  | none
  | keep (o g : Nat) (x : AObj)
  | fresh (o : Nat) (x : AObj)
  | seq (a b : Chg)

structure View where
  ob : Nat → Option (Nat × AObj)
  cn : Nat → Nat

def View.get (V : View) (o g : Nat) : Option AObj :=
  match V.ob o with
  | some (g', x) => if g = g' then some x else Option.none
  | Option.none => Option.none

def View.app (V : View) : Chg → View
  | .none => V
  | .keep o g x => { V with ob := upd V.ob o (some (g, x)) }
  | .fresh o x => { ob := upd V.ob o (some (V.cn o, x)), cn := upd V.cn o (V.cn o + 1) }
  | .seq a b => (V.app a).app b

/-- Names from here on stand for what was handed over; they keep their place. -/
def lim : Nat := 900000
/-- Names for what a call hands back anew. -/
def newS (t : Nat) : List Nat := [t, t + 10000, t + 20000, t + 30000]

inductive Opd where
  | t (n : Nat)
  | k (v : AV)

def condB (c : Bool) (A B : Prop) : Prop := (c = true → A) ∧ (c = false → B)
@[simp] theorem condB_true (A B : Prop) : condB true A B = A := by simp [condB]
@[simp] theorem condB_false (A B : Prop) : condB false A B = B := by simp [condB]

/-- The cells of a value, none if it is not one that can be stored. -/
def AV.cells? : AV → Option (List AV)
  | .agg cs => some cs
  | .d (.agg cs) => some (cs.map .d)
  | .d (.tup _) | .d .junk | .tup _ | .undef => none
  | v => some [v]

/-- Data out of a value that has no references to objects. -/
def AV.toD0 : AV → Option D
  | .d (.tup _) | .d .junk => none
  | .d x => some x
  | .ex xs => some (.list false xs)
  | .dptr cs 0 => if cs = [] then none else some (.ptr cs)
  | _ => none

def listM {α β : Type} (f : α → Option β) : List α → Option (List β)
  | [] => some []
  | x :: xs => match f x with
    | none => none
    | some y => match listM f xs with
      | none => none
      | some ys => some (y :: ys)

def AV.toD1 : AV → Option D
  | .agg cs => match listM AV.toD0 cs with | some l => some (.agg l) | none => none
  | .fn f cs => match listM AV.toD0 cs with | some l => some (.fn f l) | none => none
  | v => v.toD0

/-- Data out of a value, as its objects are now. -/
def AV.snap0 (V : View) : AV → Option D
  | .own o g => match V.get o g with
    | some (.row _ _ nil xs) => some (.list nil xs)
    | _ => none
  | .ptr o g 0 => match V.get o g with
    | some (.cells xs) => match listM AV.toD1 xs with | some (c :: l) => some (.ptr (c :: l)) | _ => none
    | _ => none
  | v => v.toD1
def AV.snap (V : View) : AV → Option D
  | .agg cs => match listM (AV.snap0 V) cs with | some l => some (.agg l) | none => none
  | .fn f cs => match listM (AV.snap0 V) cs with | some l => some (.fn f l) | none => none
  | v => v.snap0 V

def primEq : D → D → Bool
  | .int k a, .int k' b => decide (k = k') && decide (a = b)
  | .bool a, .bool b => a == b
  | _, _ => false
def allEq : List D → List D → Bool
  | [], [] => true
  | a :: as, b :: bs => primEq a b && allEq as bs
  | _, _ => false
def keyEq (a b : D) : Bool := allEq a.cells b.cells
/-- Cells of these kinds (none: a bool). -/
def tyOK : List (Option IntKind) → List D → Bool
  | [], [] => true
  | some k :: ts, .int k' _ :: cs => decide (k = k') && tyOK ts cs
  | none :: ts, .bool _ :: cs => tyOK ts cs
  | _, _ => false

def D.isAgg : D → Bool | .agg _ => true | _ => false
def tyM (t : KTy) (d : D) : Bool := d.isAgg == t.1 && tyOK t.2 d.cells

def lookK (k : D) : List (D × D) → Option D
  | [] => none
  | e :: es => if keyEq k e.1 then some e.2 else lookK k es
def idxK (k : D) : List (D × D) → Option Nat
  | [] => none
  | e :: es => if keyEq k e.1 then some 0 else (idxK k es).map (· + 1)
def setK (k v : D) : List (D × D) → List (D × D)
  | [] => [(k, v)]
  | e :: es => if keyEq k e.1 then (e.1, v) :: es else e :: setK k v es

inductive IOp where
  | mov | pick
  | bin (b : BinOp)
  | beq (neg : Bool)
  | eqv (neg : Bool) (tys : KTy)    -- structs, arrays of plain cells
  | eqnil (neg : Bool)           -- a slice, a function, a pointer, a map against nil (the second operand)
  | un (u : UnOp)
  | conv (k : IntKind)
  | load (ag : Bool) (n : Nat)
  | store (n : Nat)
  | nilck
  | field (ag : Bool) (off n : Nat)
  | faddr (off : Nat)
  | iaddrS (es : Nat)
  | iaddrA (len es : Nat)
  | index (len es : Nat) (ag : Bool)
  | build (zero : List D) (places : List (Nat × Nat))
  | mkrow (es : Nat) (zero : D) (len : Nat) (at_ : List Nat)
  | mkrowO (ety es : Nat) (zero : D) (len : Nat) (at_ : List Nat)
  | mkfn (f : FuncId)
  | box
  | zero (cs : List D)
  | mkmap (tys : KTy)
  | mksl (ety es : Nat) (zero : D) (own : Bool)
  | slice (es : Nat) (lo hi max : Bool)
  | len (isMap : Bool)
  | minmax (isMax : Bool)
  | extract (i : Nat)
  | lookup (ok : Bool) (tys : KTy) (zero : D)
  | mapupd (tys : KTy)
  | mapent (tys : KTy) (zero : D)
  | entst
  | app (ety es : Nat) (zero : Option D) (own : Bool)
  | call (f : FuncId)
  | callv
  | delete
  deriving Inhabited

structure Ins where
  dst : Option Nat
  g : Option (Nat × Bool)
  op : IOp
  xs : List Opd
  deriving Inhabited

structure Env where
  P : Program
  G : Nat → Option (List D)

/-- The package-level variables hold what is known of them. -/
def GOK (E : Env) (w : World) (fb : Nat → Prop) : Prop := ∀ g cs, E.G g = some cs → DRep w fb (.ptr cs) (.pointer (some ⟨g, 0, none⟩))

open Go.RowKit in
/-- THE CONTRACT OF A FUNCTION: called with values that read as 'ds' it returns one that reads as 'r'; nothing that was there has changed. -/
def Ret (E : Env) (f : FuncId) (ds : List D) (r : D) : Prop :=
  ∀ (w : World) (fb : Nat → Prop) (vs : Array Value), (∀ b, fb b → b < w.heap.size) → GOK E w fb → vs.size = ds.length →
    (∀ (i : Nat) (d : D) (v : Value), ds[i]? = some d → vs[i]? = some v → DRep w fb d v) →
    Calls E.P f vs w fun e w' => ∃ v, e = .returned v ∧ Below w.heap.size w w' ∧ DRep w' fb r v

/-- v is a slice with the elements xs that owns its block (or nil). -/
def RowRep (w : World) (fb : Nat → Prop) (ety es : Nat) (nil : Bool) (xs : List D) (v : Value) : Prop :=
  (nil = true ∧ xs = [] ∧ v = .slice none 0 0) ∨
  (nil = false ∧ ∃ b off cap cur, v = .slice (some ⟨b, off, none⟩) xs.length cap ∧ w.heap[b]? = some (.cells cur ety (0, 0)) ∧
    xs.length ≤ cap ∧ cap ≤ maxLen ∧ off + cap * es ≤ cur.size ∧ 0 < es ∧ (∀ x, x ∈ xs → x.cells.length = es) ∧ (∀ x c, x ∈ xs → c ∈ x.cells → c.one = true) ∧
    ∀ (i : Nat) (x : D) (j : Nat) (c : D), xs[i]? = some x → x.cells[j]? = some c → ∃ u, cur[off + i * es + j]? = some u ∧ DRep w fb c u)

def rowBlk : Value → Option Nat
  | .slice (some a) _ _ => some a.block
  | .pointer (some a) => some a.block
  | .map (some b) => some b
  | _ => none

open Go.RowKit in
/-- The same for a function that returns a slice of its own. -/
def RetF (E : Env) (f : FuncId) (ds : List D) (ety es : Nat) (nil : Bool) (xs : List D) : Prop :=
  ∀ (w : World) (fb : Nat → Prop) (vs : Array Value), (∀ b, fb b → b < w.heap.size) → GOK E w fb → vs.size = ds.length →
    (∀ (i : Nat) (d : D) (v : Value), ds[i]? = some d → vs[i]? = some v → DRep w fb d v) →
    Calls E.P f vs w fun e w' => ∃ v, e = .returned v ∧ Below w.heap.size w w' ∧ (∀ b, rowBlk v = some b → w.heap.size ≤ b) ∧
      RowRep w' (fun b => fb b ∨ rowBlk v = some b) ety es nil xs v

def AV.one : AV → Bool
  | .agg _ | .tup _ | .undef => false
  | .d x => x.one
  | _ => true

/-- The number of a value's generation is below the count of its site. -/
inductive AVRep (w : World) (fb : Nat → Prop) (β : Nat → Nat → Value) (cn : Nat → Nat) : AV → Value → Prop
  | d (x v) (h : DRep w fb x v) : AVRep w fb β cn (.d x) v
  | ex (xs : List D) (a : Addr) (h : DRep w fb (.list false xs) (.slice (some a) xs.length xs.length)) : AVRep w fb β cn (.ex xs) (.slice (some a) xs.length xs.length)
  | agg (cs : List AV) (vs : Array Value) (hl : vs.size = cs.length) (h1 : ∀ c, c ∈ cs → c.one = true)
      (h : ∀ (i : Nat) (c : AV) (v : Value), cs[i]? = some c → vs[i]? = some v → AVRep w fb β cn c v) : AVRep w fb β cn (.agg cs) (.agg vs)
  | ptr (o g off b : Nat) (hg : g < cn o) (h : β o g = .pointer (some ⟨b, 0, none⟩)) : AVRep w fb β cn (.ptr o g off) (.pointer (some ⟨b, off, none⟩))
  | rptr (o g es i off b b0 n cap : Nat) (hg : g < cn o) (h : β o g = .slice (some ⟨b, b0, none⟩) n cap) :
      AVRep w fb β cn (.rptr o g es i off) (.pointer (some ⟨b, b0 + i * es + off, none⟩))
  | dptr (cs : List D) (off b base : Nat) (vs : Nat → Value) (hb : ¬ fb b) (hne : cs ≠ []) (h1 : ∀ c, c ∈ cs → c.one = true)
      (hc : ∀ (j : Nat) (c : D), cs[j]? = some c → w.cell? ⟨b, base + j, none⟩ = some (vs j))
      (hv : ∀ (j : Nat) (c : D), cs[j]? = some c → DRep w fb c (vs j)) : AVRep w fb β cn (.dptr cs off) (.pointer (some ⟨b, base + off, none⟩))
  | own (o g : Nat) (hg : g < cn o) (h1 : (β o g).oneCell' = true) : AVRep w fb β cn (.own o g) (β o g)
  | map (o g : Nat) (hg : g < cn o) (h1 : (β o g).oneCell' = true) : AVRep w fb β cn (.map o g) (β o g)
  | fn (f : FuncId) (cs : List AV) (vs : Array Value) (hl : vs.size = cs.length)
      (h : ∀ (i : Nat) (c : AV) (v : Value), cs[i]? = some c → vs[i]? = some v → AVRep w fb β cn c v) : AVRep w fb β cn (.fn f cs) (.func (.func f) #[] vs)
  | tup (cs : List AV) (vs : Array Value) (hl : vs.size = cs.length)
      (h : ∀ (i : Nat) (c : AV) (v : Value), cs[i]? = some c → vs[i]? = some v → AVRep w fb β cn c v) : AVRep w fb β cn (.tup cs) (.tuple vs)
  | undef (v) : AVRep w fb β cn .undef v

/-- How an object lies in the world. -/
inductive ORep (w : World) (fb : Nat → Prop) (β : Nat → Nat → Value) (cn : Nat → Nat) : AObj → Value → Prop
  | cells (xs : List AV) (b : Nat) (cur : Array Value) (e : TypeId) (hb : w.heap[b]? = some (.cells cur e (0, 0))) (hl : cur.size = xs.length)
      (h1 : ∀ x, x ∈ xs → x.one = true) (h : ∀ (i : Nat) (x : AV) (u : Value), xs[i]? = some x → cur[i]? = some u → AVRep w fb β cn x u) :
      ORep w fb β cn (.cells xs) (.pointer (some ⟨b, 0, none⟩))
  | row (ety es nil xs v) (h : RowRep w fb ety es nil xs v) : ORep w fb β cn (.row ety es nil xs) v
  | map (tys : KTy) (kvs : List (D × D)) (b : Nat) (es : Array MapEntry) (hb : w.heap[b]? = some (.map es kvs.length)) (hl : es.size = kvs.length)
      (h : ∀ (i : Nat) (kv : D × D) (e : MapEntry), kvs[i]? = some kv → es[i]? = some e → tyM tys kv.1 = true ∧ DRep w fb kv.1 e.key ∧ DRep w fb kv.2 e.val ∧ e.born = i) :
      ORep w fb β cn (.map tys kvs) (.map (some b))


/-- The blocks of some objects. -/
def OwnsL (β : Nat → Nat → Value) (V : List (Nat × Nat × AObj)) (b : Nat) : Prop := ∃ o g x, (o, g, x) ∈ V ∧ rowBlk (β o g) = some b

/-- These objects lie in the world, apart from each other and from 'fb'. -/
structure At (w : World) (fb : Nat → Prop) (β : Nat → Nat → Value) (cn : Nat → Nat) (V : List (Nat × Nat × AObj)) : Prop where
  objs : ∀ o g x, (o, g, x) ∈ V → g < cn o ∧ ORep w (fun b => fb b ∨ OwnsL β V b) β cn x (β o g)
  sep : ∀ o g x o' g' x' b, (o, g, x) ∈ V → (o', g', x') ∈ V → rowBlk (β o g) = some b → rowBlk (β o' g') = some b → o = o' ∧ g = g'
  home : ∀ o g x b, (o, g, x) ∈ V → rowBlk (β o g) = some b → b < w.heap.size ∧ ¬ fb b

open Go.RowKit in
/-- THE CONTRACT OF A FUNCTION THAT IS HANDED OBJECTS: V0 are they, with their contents; V1 is what they are behind the call, and what it has made; r is what it returns. -/
def CallM (E : Env) (f : FuncId) (V0 : List (Nat × Nat × AObj)) (xs : List AV) (V1 : List (Nat × Nat × AObj)) (r : AV) : Prop :=
  ∀ (w : World) (fb : Nat → Prop) (β : Nat → Nat → Value) (vs : Array Value), (∀ b, fb b → b < w.heap.size) → GOK E w (fun b => fb b ∨ OwnsL β V0 b) →
    At w fb β (fun _ => 1) V0 → vs.size = xs.length →
    (∀ (i : Nat) (x : AV) (v : Value), xs[i]? = some x → vs[i]? = some v → AVRep w (fun b => fb b ∨ OwnsL β V0 b) β (fun _ => 1) x v) →
    Calls E.P f vs w fun e w' => ∃ v β1 cn1, e = .returned v ∧ w'.os = w.os ∧ w'.tape = w.tape ∧ w'.output = w.output ∧ w.heap.size ≤ w'.heap.size ∧
      (∀ k, k < w.heap.size → ¬ OwnsL β V0 k → w'.heap[k]? = w.heap[k]?) ∧ At w' fb β1 cn1 V1 ∧
      (∀ o g x, (o, g, x) ∈ V0 → (∃ x', (o, g, x') ∈ V1) ∧ β1 o g = β o g) ∧
      (∀ o g x b, (o, g, x) ∈ V1 → rowBlk (β1 o g) = some b → w.heap.size ≤ b ∨ OwnsL β V0 b) ∧
      AVRep w' (fun b => fb b ∨ OwnsL β1 V1 b) β1 cn1 r v

/-- New names for names. -/
abbrev Ren := List ((Nat × Nat) × (Nat × Nat))
def Ren.get : Ren → Nat → Nat → Option (Nat × Nat)
  | [], _, _ => none
  | (p, q) :: l, o, g => if o = p.1 ∧ g = p.2 then some q else Ren.get l o g
def AV.ren (ρ : Ren) : AV → Option AV
  | .ptr o g off => match ρ.get o g with | some q => some (.ptr q.1 q.2 off) | none => none
  | .rptr o g es i off => match ρ.get o g with | some q => some (.rptr q.1 q.2 es i off) | none => none
  | .own o g => match ρ.get o g with | some q => some (.own q.1 q.2) | none => none
  | .map o g => match ρ.get o g with | some q => some (.map q.1 q.2) | none => none
  | .agg cs => match renL ρ cs with | some l => some (.agg l) | none => none
  | .fn f cs => match renL ρ cs with | some l => some (.fn f l) | none => none
  | .tup cs => match renL ρ cs with | some l => some (.tup l) | none => none
  | v => some v
where
  renL (ρ : Ren) : List AV → Option (List AV)
    | [] => some []
    | x :: xs => match x.ren ρ with
      | none => none
      | some y => match renL ρ xs with
        | none => none
        | some ys => some (y :: ys)
def AObj.ren (ρ : Ren) : AObj → Option AObj
  | .cells xs => match AV.ren.renL ρ xs with | some l => some (.cells l) | none => none
  | x => some x

/-- The sites that an object's contents name. -/
def AV.sites : AV → List Nat
  | .own o _ | .map o _ | .ptr o _ _ | .rptr o _ _ _ _ => [o]
  | .agg cs => sitesL cs
  | .fn _ cs => sitesL cs
  | .tup cs => sitesL cs
  | _ => []
where
  sitesL : List AV → List Nat
    | [] => []
    | x :: xs => x.sites ++ sitesL xs
def View.osites (V : View) (o : Nat) : List Nat := match V.ob o with
  | some (_, .cells xs) => AV.sites.sitesL xs
  | _ => []
def View.reach (V : View) : Nat → List Nat → List Nat
  | 0, l => l
  | n + 1, l => l ++ V.reach n (l.flatMap V.osites)
/-- The sites that a call may look at or change. -/
def callF (dst : Option Nat) (V : View) (xs : List AV) : List Nat := (match dst with | some t => newS t | none => []) ++ V.reach 3 (AV.sites.sitesL xs)

/-- What is handed over, by the callee's names and by the caller's. -/
def argM (ρ : Ren) : AV → AV → Prop
  | .d z, x => x.toD1 = some z
  | y, x => y.ren ρ = some x
def argsM (ρ : Ren) : List AV → List AV → Prop
  | [], [] => True
  | y :: ys, x :: xs => argM ρ y x ∧ argsM ρ ys xs
  | _, _ => False
/-- The objects of the caller that are handed over, by the names that the callee has for them. -/
def Handed (V : View) (F : List Nat) (ρ : Ren) : List (Nat × Nat × AObj) → Prop
  | [] => True
  | (o, g, x) :: l => (match ρ.get o g, x.ren ρ with
      | some q, some y => V.get q.1 q.2 = some y ∧ F.contains q.1 = true
      | _, _ => False) ∧ Handed V F ρ l
/-- What is handed back: changes and new objects, by the caller's names (in ρ2). -/
def backC (ρ ρ2 : Ren) : List (Nat × Nat × AObj) → Option Chg
  | [] => some .none
  | (o, g, x) :: l => match ρ2.get o g, x.ren ρ2, backC ρ ρ2 l with
    | some q, some y, some c => some (.seq (match ρ.get o g with | some _ => .keep q.1 q.2 y | none => .fresh q.1 y) c)
    | _, _, _ => none
def hasN (V : List (Nat × Nat × AObj)) (o g : Nat) : Bool := V.any fun p => p.1 == o && p.2.1 == g
def nodupB : List Nat → Bool
  | [] => true
  | x :: l => !l.contains x && nodupB l
/-- The names are as they should be. -/
def namesOk (cn : Nat → Nat) (dst : Option Nat) (V0 V1 : List (Nat × Nat × AObj)) (ρ ρ2 : Ren) : Bool :=
  (ρ.all fun e => e.1.2 == 0 && hasN V0 e.1.1 e.1.2 && (match ρ2.get e.1.1 e.1.2 with | some q => q.1 == e.2.1 && q.2 == e.2.2 | none => false)) &&
  (ρ2.all fun e => hasN V1 e.1.1 e.1.2 && (match ρ.get e.1.1 e.1.2 with
    | some _ => true
    | none => match dst with | some t => (newS t).contains e.2.1 && decide (e.2.1 < lim) && e.2.2 == cn e.2.1 | none => false)) &&
  nodupB (ρ2.map fun e => e.2.1) && nodupB (V1.map (·.1))

def bitsOp (op : BinOp) (k : IntKind) (x y : Int) : Int :=
  match op with
  | .and => k.wrap ((BitVec.ofInt k.bits x &&& BitVec.ofInt k.bits y).toNat : Int)
  | .or => k.wrap ((BitVec.ofInt k.bits x ||| BitVec.ofInt k.bits y).toNat : Int)
  | .xor => k.wrap ((BitVec.ofInt k.bits x ^^^ BitVec.ofInt k.bits y).toNat : Int)
  | _ => k.wrap ((BitVec.ofInt k.bits x &&& ~~~(BitVec.ofInt k.bits y)).toNat : Int)

def evBin (op : BinOp) (k k' : IntKind) (a b : Int) (K : AV → Prop) : Prop :=
  match op with
  | .add => k = k' ∧ K (.d (.int k (k.wrap (a + b))))
  | .sub => k = k' ∧ K (.d (.int k (k.wrap (a - b))))
  | .mul => k = k' ∧ K (.d (.int k (k.wrap (a * b))))
  | .quo => k = k' ∧ b ≠ 0 ∧ K (.d (.int k (k.wrap (a.tdiv b))))
  | .rem => k = k' ∧ b ≠ 0 ∧ K (.d (.int k (a.tmod b)))
  | .shl => 0 ≤ b ∧ K (.d (.int k (k.wrap (a * 2 ^ (min b.toNat k.bits)))))
  | .shr => 0 ≤ b ∧ K (.d (.int k (a.fdiv (2 ^ (min b.toNat k.bits)))))
  | .and | .or | .xor | .andNot => k = k' ∧ K (.d (.int k (bitsOp op k a b)))
  | .eql => k = k' ∧ K (.d (.bool (decide (a = b))))
  | .neq => k = k' ∧ K (.d (.bool (!decide (a = b))))
  | .lss => k = k' ∧ K (.d (.bool (decide (a < b))))
  | .leq => k = k' ∧ K (.d (.bool (decide (a ≤ b))))
  | .gtr => k = k' ∧ K (.d (.bool (decide (b < a))))
  | .geq => k = k' ∧ K (.d (.bool (decide (b ≤ a))))

/-- Elements of so many cells each. -/
def Unif (es : Nat) (l : List D) : Prop := ∀ x, x ∈ l → x.cells.length = es

/-- What a load of n cells at off gives. -/
def evPart {α : Type} (ag : Bool) (n : Nat) (cs : List α) (off : Nat) (mk : List α → AV) (one : α → AV) (K : AV → Prop) : Prop :=
  if ag then off + n ≤ cs.length ∧ K (mk ((cs.drop off).take n))
  else match cs[off]? with
    | some v => K (one v)
    | none => False

def splice {α : Type} (cs : List α) (off : Nat) (vs : List α) : List α := cs.take off ++ vs ++ cs.drop (off + vs.length)

/-- A struct or an array out of its parts. -/
def fillA : List AV → List ((Nat × Nat) × AV) → Option (List AV)
  | cs, [] => some cs
  | cs, ((off, size), v) :: rest =>
    match v.cells? with
    | none => none
    | some vs => if vs.length = size ∧ off + size ≤ cs.length then fillA (splice cs off vs) rest else none

/-- The elements of a slice literal. -/
def fillR (es : Nat) : List D → List (Nat × AV) → Option (List D)
  | xs, [] => some xs
  | xs, (i, v) :: rest =>
    match v.toD1 with
    | none => none
    | some x => if x.cells.length = es ∧ i < xs.length then fillR es (xs.set i x) rest else none

def bound : Nat := 1073741824

/-- A slice operand as a list, with its nil-ness: data, or an own row. -/
def AV.asList (V : View) : AV → Option (Bool × List D)
  | .d (.list nil xs) => some (nil, xs)
  | .ex xs => some (false, xs)
  | .own o g => match V.get o g with
    | some (.row _ _ nil xs) => some (nil, xs)
    | _ => none
  | _ => none

/-- What is appended: a slice, or so many zeros. -/
def appSrc (V : View) (zero : Option D) (y : AV) : Option (List D) :=
  match zero with
  | none => match y.asList V with | some (_, ys) => some ys | none => none
  | some z => match y with
    | .d (.int .i64 n) => if 0 ≤ n ∧ n ≤ (bound : Int) then some (List.replicate n.toNat z) else none
    | _ => none

def rngP (lo hi : Bool) (len : Nat) (rest : List AV) (C : Nat → Nat → Prop) : Prop :=
  if lo then
    (if hi then (match rest with | [.d (.int _ l), .d (.int _ h)] => 0 ≤ l ∧ l ≤ h ∧ h ≤ len ∧ C l.toNat h.toNat | _ => False)
    else (match rest with | [.d (.int _ l)] => 0 ≤ l ∧ l ≤ len ∧ C l.toNat len | _ => False))
  else
    (if hi then (match rest with | [.d (.int _ h)] => 0 ≤ h ∧ h ≤ len ∧ C 0 h.toNat | _ => False)
    else (match rest with | [] => C 0 len | _ => False))

def minI (a b : Int) : Int := if b < a then b else a
def maxI (a b : Int) : Int := if b > a then b else a
def foldMM (isMax : Bool) (k : IntKind) (a : Int) : List AV → Option Int
  | [] => some a
  | .d (.int k' b) :: rest => if k = k' then foldMM isMax k (if isMax then maxI a b else minI a b) rest else none
  | _ => none

/-- What a call's arguments read as. -/
def argsD (V : View) (xs : List AV) : Option (List D) := listM (AV.snap V) xs
def argsD0 (xs : List AV) : Option (List D) := listM AV.toD1 xs

def up : D → AV
  | .tup xs => .tup (xs.map .d)
  | x => .d x

def evCall (E : Env) (dst : Option Nat) (V : View) (f : FuncId) (xs : List AV) (K : AV → Chg → Prop) : Prop :=
  (∃ ds r, argsD0 xs = some ds ∧ Ret E f ds r ∧ K (up r) .none) ∨
  (∃ ds r, argsD V xs = some ds ∧ Ret E f ds r ∧ r.flat = true ∧ K (up r) .none) ∨
  (∃ ds t ety es nil l, dst = some t ∧ t < lim ∧ argsD0 xs = some ds ∧ RetF E f ds ety es nil l ∧ K (.own t (V.cn t)) (.fresh t (.row ety es nil l))) ∨
  (∃ V0 cxs V1 r r' ch, ∃ ρ ρ2 : Ren, argsM ρ cxs xs ∧ CallM E f V0 cxs V1 r ∧ Handed V (callF dst V xs) ρ V0 ∧ namesOk V.cn dst V0 V1 ρ ρ2 = true ∧
    r.ren ρ2 = some r' ∧ backC ρ ρ2 V1 = some ch ∧ K r' ch)

def hasBody (P : Program) (f : FuncId) : Bool :=
  match P.funcs[f]? with
  | some fn => fn.body.isSome && fn.name != "runtime.NumGoroutine"
  | none => false

/-- WHAT AN OPERATION GIVES. -/
def ev (E : Env) (dst : Option Nat) (V : View) (op : IOp) (xs : List AV) (K : AV → Chg → Prop) : Prop :=
  match op with
  | .mov => match xs with
    | [x] => K x .none
    | _ => False
  | .pick => match xs with
    | [.d (.bool c), a, b] => condB c (K a .none) (K b .none)
    | _ => False
  | .bin b => match xs with
    | [.d (.int k x), .d (.int k' y)] => evBin b k k' x y (K · .none)
    | _ => False
  | .beq neg => match xs with
    | [.d (.bool x), .d (.bool y)] => K (.d (.bool (if neg then !(x == y) else (x == y)))) .none
    | _ => False
  | .eqv neg tys => match xs with
    | [x, y] => match x.toD1, y.toD1 with
      | some a, some b => tyM tys a = true ∧ tyM tys b = true ∧ K (.d (.bool (if neg then !keyEq a b else keyEq a b))) .none
      | _, _ => False
    | _ => False
  | .eqnil neg => match xs with
    | [x, .d (.list true [])] => match x.asList V with
      | some (nil, _) => K (.d (.bool (if neg then !nil else nil))) .none
      | none => False
    | _ => False
  | .un u => match u, xs with
    | .not, [.d (.bool b)] => K (.d (.bool (!b))) .none
    | .neg, [.d (.int k n)] => K (.d (.int k (k.wrap (0 - n)))) .none
    | .xor, [.d (.int k n)] => K (.d (.int k (bitsOp .xor k (if k.signed then -1 else k.max) n))) .none
    | _, _ => False
  | .conv k => match xs with
    | [.d (.int _ n)] => K (.d (.int k (k.wrap n))) .none
    | _ => False
  | .load ag n => match xs with
    | [.ptr o g off] => match V.get o g with
      | some (.cells cs) => evPart ag n cs off .agg id (K · .none)
      | _ => False
    | [.rptr o g es i off] => match V.get o g with
      | some (.row _ es' _ l) => es = es' ∧ (match l[i]? with
        | some x => evPart ag n x.cells off (fun cs => .d (.agg cs)) .d (K · .none)
        | none => False)
      | _ => False
    | [.dptr cs off] => evPart ag n cs off (fun cs => .d (.agg cs)) .d (K · .none)
    | [.d (.ptr cs)] => evPart ag n cs 0 (fun cs => .d (.agg cs)) .d (K · .none)
    | _ => False
  | .store n => match xs with
    | [.ptr o g off, v] => match V.get o g, v.cells? with
      | some (.cells cs), some vs => vs.length = n ∧ off + n ≤ cs.length ∧ K .undef (.keep o g (.cells (splice cs off vs)))
      | _, _ => False
    | [.rptr o g es0 i off, v] => match V.get o g, v.toD1 with
      | some (.row ety es nil l), some y => es0 = es ∧ (match l[i]? with
        | some x => y.cells.length = n ∧ off + n ≤ x.cells.length ∧ (n = es ∨ 1 < x.cells.length) ∧
            K .undef (.keep o g (.row ety es nil (l.set i (if n = es then y else .agg (splice x.cells off y.cells)))))
        | none => False)
      | _, _ => False
    | _ => False
  | .nilck => match xs with
    | [.ptr o g off] => K (.ptr o g off) .none
    | [.rptr o g es i off] => K (.rptr o g es i off) .none
    | [.dptr cs off] => K (.dptr cs off) .none
    | [.d (.ptr cs)] => K (.d (.ptr cs)) .none
    | _ => False
  | .field ag off n => match xs with
    | [.agg cs] => evPart ag n cs off .agg id (K · .none)
    | [.d (.agg cs)] => evPart ag n cs off (fun cs => .d (.agg cs)) .d (K · .none)
    | _ => False
  | .faddr off => match xs with
    | [.ptr o g a] => K (.ptr o g (a + off)) .none
    | [.rptr o g es i a] => K (.rptr o g es i (a + off)) .none
    | [.dptr cs a] => K (.dptr cs (a + off)) .none
    | [.d (.ptr cs)] => K (.dptr cs off) .none
    | _ => False
  | .iaddrS es => match xs with
    | [.own o g, .d (.int _ i)] => match V.get o g with
      | some (.row _ es' _ l) => es = es' ∧ 0 ≤ i ∧ i < l.length ∧ K (.rptr o g es i.toNat 0) .none
      | _ => False
    | [.d (.list _ l), .d (.int _ i)] => 0 ≤ i ∧ i < l.length ∧ (match l[i.toNat]? with | some x => x.cells.length = es ∧ K (.dptr x.cells 0) .none | none => False)
    | [.ex l, .d (.int _ i)] => 0 ≤ i ∧ i < l.length ∧ (match l[i.toNat]? with | some x => x.cells.length = es ∧ K (.dptr x.cells 0) .none | none => False)
    | _ => False
  | .iaddrA len es => match xs with
    | [.ptr o g off, .d (.int _ i)] => 0 ≤ i ∧ i < len ∧ K (.ptr o g (off + i.toNat * es)) .none
    | [.dptr cs off, .d (.int _ i)] => 0 ≤ i ∧ i < len ∧ K (.dptr cs (off + i.toNat * es)) .none
    | [.d (.ptr cs), .d (.int _ i)] => 0 ≤ i ∧ i < len ∧ K (.dptr cs (i.toNat * es)) .none
    | _ => False
  | .index len es ag => match xs with
    | [.agg cs, .d (.int _ i)] => 0 ≤ i ∧ i < len ∧ evPart ag es cs (i.toNat * es) .agg id (K · .none)
    | [.d (.agg cs), .d (.int _ i)] => 0 ≤ i ∧ i < len ∧ evPart ag es cs (i.toNat * es) (fun cs => .d (.agg cs)) .d (K · .none)
    | _ => False
  | .build zero places => match fillA (zero.map .d) (places.zip xs) with
    | some cs => places.length = xs.length ∧ K (.agg cs) .none
    | none => False
  | .mkrow es zero len at_ => match fillR es (List.replicate len zero) (at_.zip xs) with
    | some l => at_.length = xs.length ∧ K (.ex l) .none
    | none => False
  | .mkrowO ety es zero len at_ => match dst, fillR es (List.replicate len zero) (at_.zip xs) with
    | some t, some l => t < lim ∧ at_.length = xs.length ∧ K (.own t (V.cn t)) (.fresh t (.row ety es false l))
    | _, _ => False
  | .mkfn f => K (.fn f xs) .none
  | .box => match dst, xs with
    | some t, [v] => match v.cells? with
      | some cs => t < lim ∧ K (.ptr t (V.cn t) 0) (.fresh t (.cells cs))
      | none => False
    | _, _ => False
  | .zero cs => match dst with
    | some t => t < lim ∧ K (.ptr t (V.cn t) 0) (.fresh t (.cells (cs.map .d)))
    | none => False
  | .mkmap tys => match dst with
    | some t => t < lim ∧ K (.map t (V.cn t)) (.fresh t (.map tys []))
    | none => False
  | .mksl ety es zero own => match dst, xs with
    | some t, [.d (.int .i64 n), .d (.int .i64 m)] => n = m ∧ 0 ≤ n ∧ n ≤ (bound : Int) ∧
        (if own then t < lim ∧ K (.own t (V.cn t)) (.fresh t (.row ety es false (List.replicate n.toNat zero)))
         else K (.d (.list false (List.replicate n.toNat zero))) .none)
    | _, _ => False
  | .slice es lo hi max =>
    if max then (match lo, hi, xs with
      | false, true, [.d (.list false l), .d (.int _ h), .d (.int _ m)] => Unif es l ∧ h = m ∧ 0 ≤ h ∧ h ≤ l.length ∧ K (.ex (l.take h.toNat)) .none
      | false, true, [.d (.list true []), .d (.int _ h), .d (.int _ m)] => h = 0 ∧ m = 0 ∧ K (.d (.list true [])) .none
      | _, _, _ => False)
    else match xs with
    | .d (.list nil l) :: rest => Unif es l ∧ rngP lo hi l.length rest fun a b => K (.d (.list nil ((l.drop a).take (b - a)))) .none
    | .ex l :: rest => Unif es l ∧ rngP lo hi l.length rest fun a b => K (.d (.list false ((l.drop a).take (b - a)))) .none
    | .own o g :: rest => (match V.get o g with
      | some (.row ety es' nil l) => o < lim ∧ es = es' ∧ hi = false ∧ rngP lo hi l.length rest fun a _ => K (.own o (V.cn o)) (.fresh o (.row ety es nil (l.drop a)))
      | _ => False)
    | _ => False
  | .len isMap => match xs with
    | [x] => if isMap then (match x with
        | .map o g => (match V.get o g with
          | some (.map _ kvs) => kvs.length ≤ bound ∧ K (.d (.int .i64 kvs.length)) .none
          | _ => False)
        | _ => False)
      else (match x.asList V with
        | some (_, l) => K (.d (.int .i64 l.length)) .none
        | none => False)
    | _ => False
  | .minmax isMax => match xs with
    | .d (.int k a) :: rest => (match foldMM isMax k a rest with
      | some r => K (.d (.int k r)) .none
      | none => False)
    | _ => False
  | .extract i => match xs with
    | [.tup vs] => (match vs[i]? with
      | some v => K v .none
      | none => False)
    | _ => False
  | .lookup ok tys zero => match xs with
    | [.map o g, key] => (match V.get o g, key.toD1 with
      | some (.map tys' kvs), some k => tys = tys' ∧ tyM tys k = true ∧ (match lookK k kvs with
        | some v => K (if ok then .tup [.d v, .d (.bool true)] else .d v) .none
        | none => K (if ok then .tup [.d zero, .d (.bool false)] else .d zero) .none)
      | _, _ => False)
    | [.d .nilmap, key] => (match key.toD1 with
      | some k => tyM tys k = true ∧ K (if ok then .tup [.d zero, .d (.bool false)] else .d zero) .none
      | none => False)
    | _ => False
  | .mapupd tys => match xs with
    | [.map o g, key, val] => (match V.get o g, key.toD1, val.toD1 with
      | some (.map tys' kvs), some k, some v => tys = tys' ∧ v.one = true ∧ tyM tys k = true ∧ K .undef (.keep o g (.map tys (setK k v kvs)))
      | _, _, _ => False)
    | _ => False
  | .mapent tys zero => match xs with
    | [.map o g, key] => (match V.get o g, key.toD1 with
      | some (.map tys' kvs), some k => tys = tys' ∧ tyM tys k = true ∧ kvs.length ≤ bound ∧ (match idxK k kvs with
        | some i => K (.tup [.undef, .d (.int .i64 i)]) .none
        | none => K (.tup [.undef, .d (.int .i64 kvs.length)]) (.keep o g (.map tys (kvs ++ [(k, zero)]))))
      | _, _ => False)
    | _ => False
  | .entst => match xs with
    | [.map o g, .d (.int _ i), val] => (match V.get o g, val.toD1 with
      | some (.map tys kvs), some v => 0 ≤ i ∧ v.one = true ∧ (match kvs[i.toNat]? with
        | some e => K .undef (.keep o g (.map tys (kvs.set i.toNat (e.1, v))))
        | none => False)
      | _, _ => False)
    | _ => False
  | .app ety es zero own => match xs with
    | [x, y] => (match appSrc V zero y with
      | none => False
      | some ys => (match x with
        | .own o g => (match V.get o g with
          | some (.row ety' es' nil l) => o < lim ∧ ety = ety' ∧ es = es' ∧ Unif es ys ∧ l.length + ys.length ≤ bound ∧
              K (.own o (V.cn o)) (.fresh o (.row ety es (nil && ys.isEmpty) (l ++ ys)))
          | _ => False)
        | .d (.list true []) => Unif es ys ∧ ys.length ≤ bound ∧
            (if own then (match dst with
              | some t => t < lim ∧ K (.own t (V.cn t)) (.fresh t (.row ety es ys.isEmpty ys))
              | none => False)
             else K (.d (.list ys.isEmpty ys)) .none)
        | .ex l => Unif es (l ++ ys) ∧ l.length + ys.length ≤ bound ∧
            (if own then (match dst with
              | some t => (match ys with
                | [] => K (.ex l) .none
                | _ :: _ => t < lim ∧ K (.own t (V.cn t)) (.fresh t (.row ety es false (l ++ ys))))
              | none => False)
             else K (.d (.list false (l ++ ys))) .none)
        | _ => False))
    | _ => False
  | .call f => evCall E dst V f xs K
  | .callv => match xs with
    | .fn f cs :: args => hasBody E.P f = true ∧ evCall E dst V f (args ++ cs) K
    | .d (.fn f cs) :: args => hasBody E.P f = true ∧ evCall E dst V f (args ++ cs.map .d) K
    | _ => False
  | .delete => False
end Go.Pw
