/- A part of the proof. -/
import Derived.WalkKit
set_option linter.all false
section
namespace Go.Pw
def MC (k:IntKind) (n:Int):Prop:=k.min<=n/\n<=k.max
inductive D where
 |int (k:IntKind) (n:Int)
 |bool (b:Bool)
 |list (nil:Bool) (xs:List D)
 |agg (cs:List D)
 |ptr (cs:List D)
 |fn (f:FuncId) (cs:List D)
 |tup (xs:List D)
 |nilptr|nilmap|nilfn
 |junk
 deriving Inhabited
def D.cells:D->List D
 |.agg cs=>cs
 |d=>[d]
def D.one:D->Bool
 |.agg _|.tup _|.junk=>false
 |_=>true
inductive Aw (w:World) (fb:Nat->Prop):D->Value->Prop
 |int (k n) (h:MC k n):Aw w fb (.int k n) (.int k n)
 |bool (b):Aw w fb (.bool b) (.bool b)
 |nil:Aw w fb (.list true []) (.slice none 0 0)
 |empty (a cap) (hm:cap<=maxLen):Aw w fb (.list false []) (.slice (some a) 0 cap)
 |list (xs:List D) (es b off cap:Nat) (vs:Nat->Nat->Value) (hcap:xs.length<=cap) (hm:cap<=maxLen) (hb:¬fb b) (hes:0<es)
  (hs:∀x,x∈xs->x.cells.length=es) (h1:∀x c,x∈xs->c∈x.cells->c.one=true)
  (hc:∀(i:Nat) (x:D) (j:Nat) (c:D),xs[i]?=some x->x.cells[j]?=some c->w.cell? ⟨b,off+i*es+j,none⟩=some (vs i j))
  (hv:∀(i:Nat) (x:D) (j:Nat) (c:D),xs[i]?=some x->x.cells[j]?=some c->Aw w fb c (vs i j)) :
  Aw w fb (.list false xs) (.slice (some ⟨b,off,none⟩) xs.length cap)
 |agg (cs:List D) (vs:Array Value) (hl:vs.size=cs.length) (h1:∀c,c∈cs->c.one=true) (h:∀(i:Nat) (c:D) (v:Value),cs[i]?=some c->vs[i]?=some v->Aw w fb c v) :
  Aw w fb (.agg cs) (.agg vs)
 |ptr (cs:List D) (b off:Nat) (vs:Nat->Value) (hb:¬fb b) (hne:cs≠[]) (h1:∀c,c∈cs->c.one=true)
  (hc:∀(j:Nat) (c:D),cs[j]?=some c->w.cell? ⟨b,off+j,none⟩=some (vs j))
  (hv:∀(j:Nat) (c:D),cs[j]?=some c->Aw w fb c (vs j)) :
  Aw w fb (.ptr cs) (.pointer (some ⟨b,off,none⟩))
 |fn (f:FuncId) (cs:List D) (vs:Array Value) (hl:vs.size=cs.length) (h:∀(i:Nat) (c:D) (v:Value),cs[i]?=some c->vs[i]?=some v->Aw w fb c v) :
  Aw w fb (.fn f cs) (.func (.func f) #[] vs)
 |tup (cs:List D) (vs:Array Value) (hl:vs.size=cs.length) (h:∀(i:Nat) (c:D) (v:Value),cs[i]?=some c->vs[i]?=some v->Aw w fb c v) :
  Aw w fb (.tup cs) (.tuple vs)
 |nilptr:Aw w fb .nilptr (.pointer none)
 |nilmap:Aw w fb .nilmap (.map none)
 |nilfn:Aw w fb .nilfn .nilFunc
 |junk (v):Aw w fb .junk v
def Am (fb:Nat->Prop) (w w':World):Prop:=∀b,¬fb b->b<w.heap.size->w'.heap[b]?=w.heap[b]?
theorem Am.refl (fb:Nat->Prop) (w:World):Am fb w w:=fun _ _ _=>rfl
theorem Am.cell {fb:Nat->Prop}{w w':World}(h:Am fb w w') {a:Addr}{v:Value}(hb:¬fb a.block) (hc:w.cell? a=some v):w'.cell? a=some v:=by
 rw[World.cell?_of_block (w:=w) (h a.block hb (World.block_lt_of_cell? w a hc))];exact hc
theorem BU {w:World}{b o:Nat}{v:Value}(hc:w.cell? ⟨b,o,none⟩=some v):b<w.heap.size:=World.block_lt_of_cell? w ⟨b,o,none⟩ hc
theorem Aw.mono {w w':World}{fb fb':Nat->Prop}(hw:Am fb w w') (hf:∀b,b<w.heap.size->fb' b->fb b)
  {d:D}{v:Value}(h:Aw w fb d v):Aw w' fb' d v:=by
 induction h with
 |int k n h=>exact .int k n h
 |bool b=>exact .bool b
 |nil=>exact .nil
 |empty a cap hm=>exact .empty a cap hm
 |list xs es b off cap vs hcap hm hb hes hs h1 hc hv ih =>
  cases xs with
  |nil=>exact .empty _ _ hm
  |cons x xs =>
   have hlt:b<w.heap.size:=by
    have hx:=hs x (by simp)
    have hex:∃c,x.cells[0]?=some c:=⟨_,List.getElem?_eq_getElem (by omega)⟩
    obtain⟨c,hcc⟩:=hex
    exact BU (hc 0 x 0 c (by simp) hcc)
   exact .list _ es b off cap vs hcap hm (fun hh=>hb (hf b hlt hh)) hes hs h1 (fun i x j c h1 h2=>hw.cell hb (hc i x j c h1 h2)) ih
 |agg cs vs hl h1 h ih=>exact .agg cs vs hl h1 ih
 |ptr cs b off vs hb hne h1 hc hv ih =>
  cases cs with
  |nil=>exact absurd rfl hne
  |cons x xs =>
   have hlt:b<w.heap.size:=BU (hc 0 x (by simp))
   exact .ptr _ b off vs (fun hh=>hb (hf b hlt hh)) hne h1 (fun j c h1=>hw.cell hb (hc j c h1)) ih
 |fn f cs vs hl h ih=>exact .fn f cs vs hl ih
 |tup cs vs hl h ih=>exact .tup cs vs hl ih
 |nilptr=>exact .nilptr
 |nilmap=>exact .nilmap
 |nilfn=>exact .nilfn
 |junk v=>exact .junk v
def D.prim:D->Bool
 |.int ..|.bool _|.nilptr|.nilmap|.nilfn|.junk=>true
 |_=>false
def D.flat1:D->Bool
 |.list true []=>true
 |.agg cs=>cs.all D.prim
 |d=>d.prim
def D.flat:D->Bool
 |.tup cs=>cs.all D.flat1
 |d=>d.flat1
theorem Z8 {α:Type}{cs:List α}{p:α->Bool}(h:cs.all p=true) {i:Nat}{c:α}(hc:cs[i]?=some c):p c=true:=by
 rw[List.all_eq_true] at h
 exact h c (List.mem_of_getElem? hc)
theorem Aw.of_prim {w w':World}{fb fb':Nat->Prop}{c:D}{v:Value}(hc:c.prim=true) (h:Aw w fb c v):Aw w' fb' c v:=by
 cases h<;>simp[D.prim] at hc
 ·exact .int _ _ (by assumption)
 ·exact .bool _
 ·exact .nilptr
 ·exact .nilmap
 ·exact .nilfn
 ·exact .junk _
theorem Aw.of_flat1 {w w':World}{fb fb':Nat->Prop}{c:D}{v:Value}(hc:c.flat1=true) (h:Aw w fb c v):Aw w' fb' c v:=by
 cases h with
 |nil=>exact .nil
 |agg cs vs hl h1 h=>exact .agg cs vs hl h1 fun i c v h1 h2=>(h i c v h1 h2).of_prim (Z8 (p:=D.prim) hc h1)
 |int k n h=>exact .int k n h
 |bool b=>exact .bool b
 |nilptr=>exact .nilptr
 |nilmap=>exact .nilmap
 |nilfn=>exact .nilfn
 |junk v=>exact .junk v
 |_=>simp[D.flat1,D.prim] at hc
theorem Aw.of_flat {w w':World}{fb fb':Nat->Prop}{d:D}{v:Value}(hd:d.flat=true) (h:Aw w fb d v):Aw w' fb' d v:=by
 cases h with
 |tup cs vs hl h=>exact .tup cs vs hl fun i c v h1 h2=>(h i c v h1 h2).of_flat1 (Z8 (p:=D.flat1) hd h1)
 |nil=>exact .nil
 |agg cs vs hl h1 h=>exact Aw.of_flat1 (fb:=fb) (w:=w) hd (.agg cs vs hl h1 h)
 |int k n h=>exact .int k n h
 |bool b=>exact .bool b
 |nilptr=>exact .nilptr
 |nilmap=>exact .nilmap
 |nilfn=>exact .nilfn
 |junk v=>exact .junk v
 |_=>simp[D.flat,D.flat1,D.prim] at hd
def D.WF:D->Prop
 |.int k n=>MC k n
 |.bool _|.nilptr|.nilmap|.nilfn|.junk=>True
 |.list _ xs=>xs.length<=maxLen/\∀x,x∈xs->WF x
 |.agg cs|.ptr cs|.fn _ cs|.tup cs=>∀c,c∈cs->WF c
theorem D.wf_of_cells {x:D}(h:∀c,c∈x.cells->c.WF):x.WF:=by
 cases x with
 |agg cs=>simpa[D.WF,D.cells] using h
 |_=>exact h _ (by simp[D.cells])
theorem Aw.wf {w:World}{fb:Nat->Prop}{d:D}{v:Value}(h:Aw w fb d v):d.WF:=by
 have hex:∀{cs:List D}{vs:Array Value}{i:Nat}{c:D},vs.size=cs.length->cs[i]?=some c->∃v,vs[i]?=some v:=by
  intro cs vs i c hl hc
  have:i<cs.length:=(List.getElem?_eq_some_iff.1 hc).1
  exact⟨_,Array.getElem?_eq_getElem (by omega)⟩
 induction h with
 |int k n h=>simpa[D.WF] using h
 |list xs es b off cap vs hcap hm hb hes hs h1 hc hv ih =>
  rw[D.WF]
  refine⟨by omega,fun x hx=>D.wf_of_cells fun c hcm=>?_⟩
  obtain⟨i,hi⟩:=List.getElem?_of_mem hx
  obtain⟨j,hj⟩:=List.getElem?_of_mem hcm
  exact ih i x j c hi hj
 |agg cs vs hl h1 h ih =>
  rw[D.WF];intro c hc
  obtain⟨i,hi⟩:=List.getElem?_of_mem hc
  obtain⟨v,hv⟩:=hex hl hi
  exact ih i c v hi hv
 |ptr cs b off vs hb hne h1 hc hv ih =>
  rw[D.WF];intro c hc
  obtain⟨i,hi⟩:=List.getElem?_of_mem hc
  exact ih i c hi
 |fn f cs vs hl h ih =>
  rw[D.WF];intro c hc
  obtain⟨i,hi⟩:=List.getElem?_of_mem hc
  obtain⟨v,hv⟩:=hex hl hi
  exact ih i c v hi hv
 |tup cs vs hl h ih =>
  rw[D.WF];intro c hc
  obtain⟨i,hi⟩:=List.getElem?_of_mem hc
  obtain⟨v,hv⟩:=hex hl hi
  exact ih i c v hi hv
 |_=>simp[D.WF,maxLen]
end Go.Pw
end
section
namespace Go.Pw
inductive MK where
 |out
 |row (j:Nat)
 |xp (i:Nat)
 |mp (j k:Nat)
 |bs (off n cap:Nat)
 deriving Inhabited
inductive AV where
 |d (x:D)
 |ex (xs:List D)
 |agg (cs:List AV)
 |ptr (o g off:Nat)
 |rptr (o g es i off:Nat)
 |dptr (cs:List D) (off:Nat)
 |own (o g:Nat)
 |map (o g:Nat)
 |fn (f:FuncId) (cs:List AV)
 |tup (vs:List AV)
 |undef
 |bnd (f:FuncId) (cs:List D)
 |mref (k:MK) (o g:Nat)
 |ablk (sl:Bool) (cs:List AV) (off:Nat)
 deriving Inhabited
abbrev qQ:=Bool×List (Option IntKind)
inductive Ah where
 |cells (xs:List AV)
 |row (ety es:Nat) (nil:Bool) (xs:List D)
 |rowH (ety:Nat) (xs:List D) (i q p:Nat)
 |map (tys:qQ) (kvs:List (D×D))
 |mat (e1 e2:Nat) (nil:Bool) (ix:List Nat) (rows:List (Bool×List D))
 |hist (els:List (List D)) (n:Nat) (st:Bool)
def Ah.isHist:Ah->Bool
 |.hist ..=>true
 |_=>false
def Bs {α:Type}(f:Nat->α) (i:Nat) (x:α):Nat->α:=fun j=>if j=i then x else f j
inductive BQ where
 |none
 |keep (o g:Nat) (x:Ah)
 |fresh (o:Nat) (x:Ah)
 |seq (a b:BQ)
structure AN where
 ob:Nat->Option (Nat×Ah)
 cn:Nat->Nat
def AN.get (V:AN) (o g:Nat):Option Ah :=
 match V.ob o with
 |some (g',x)=>if g=g' then some x else Option.none
 |Option.none=>Option.none
def AN.app (V:AN):BQ->AN
 |.none=>V
 |.keep o g x=>{ V with ob:=Bs V.ob o (some (g,x)) }
 |.fresh o x=>{ ob:=Bs V.ob o (some (V.cn o,x)),cn:=Bs V.cn o (V.cn o+1) }
 |.seq a b=>(V.app a).app b
def D7:Nat:=900000
def Lf (t:Nat):List Nat:=[t,t+10000,t+20000,t+30000]
inductive Jq where
 |t (n:Nat)
 |k (v:AV)
def G7 (c:Bool) (A B:Prop):Prop:=(c=true->A)/\(c=false->B)
@[simp] theorem Mv (A B:Prop):G7 true A B=A:=by simp[G7]
@[simp] theorem Kw (A B:Prop):G7 false A B=B:=by simp[G7]
def AV.cells?:AV->Option (List AV)
 |.agg cs=>some cs
 |.d (.agg cs)=>some (cs.map .d)
 |.d (.tup _)|.d .junk|.tup _|.undef=>none
 |v=>some [v]
def AV.toD0:AV->Option D
 |.d (.tup _)|.d .junk=>none
 |.d x=>some x
 |.ex xs=>some (.list false xs)
 |.dptr cs 0=>if cs=[] then none else some (.ptr cs)
 |_=>none
def Ax {α β:Type}(f:α->Option β):List α->Option (List β)
 |[]=>some []
 |x::xs=>match f x with
  |none=>none
  |some y=>match Ax f xs with
   |none=>none
   |some ys=>some (y::ys)
def AV.toD1:AV->Option D
 |.agg cs=>match Ax AV.toD0 cs with|some l=>some (.agg l)|none=>none
 |.fn f cs=>match Ax AV.toD0 cs with|some l=>some (.fn f l)|none=>none
 |v=>v.toD0
def AV.snap0 (V:AN):AV->Option D
 |.own o g=>match V.get o g with
  |some (.row _ _ nil xs)=>some (.list nil xs)
  |_=>none
 |.ptr o g 0=>match V.get o g with
  |some (.cells xs)=>match Ax AV.toD1 xs with|some (c::l)=>some (.ptr (c::l))|_=>none
  |_=>none
 |v=>v.toD1
def AV.snap (V:AN):AV->Option D
 |.agg cs=>match Ax (AV.snap0 V) cs with|some l=>some (.agg l)|none=>none
 |.fn f cs=>match Ax (AV.snap0 V) cs with|some l=>some (.fn f l)|none=>none
 |v=>v.snap0 V
def AV.snapC (V:AN):AV->Option D
 |.own o g=>match V.get o g with
  |some (.row _ _ nil xs)=>some (.list nil xs)
  |_=>none
 |v=>v.toD1
def AV.snapN (V:AN):AV->Option D
 |.ptr o g 0=>match V.get o g with
  |some (.cells xs)=>match Ax (AV.snapC V) xs with|some (c::l)=>some (.ptr (c::l))|_=>none
  |_=>none
 |v=>v.snap V
def pH:D->D->Bool
 |.int k a,.int k' b=>decide (k=k') && decide (a=b)
 |.bool a,.bool b=>a == b
 |_,_=>false
def jH:List D->List D->Bool
 |[],[]=>true
 |a::asq,b::bs=>pH a b && jH asq bs
 |_,_=>false
def fh (a b:D):Bool:=jH a.cells b.cells
def oI:List (Option IntKind)->List D->Bool
 |[],[]=>true
 |some k::ts,.int k' _::cs=>decide (k=k') && oI ts cs
 |none::ts,.bool _::cs=>oI ts cs
 |_,_=>false
def D.isAgg:D->Bool|.agg _=>true|_=>false
def sF (t:qQ) (d:D):Bool:=d.isAgg == t.1 && oI t.2 d.cells
def qu (k:D):List (D×D)->Option D
 |[]=>none
 |e::es=>if fh k e.1 then some e.2 else qu k es
def qz (k:D):List (D×D)->Option Nat
 |[]=>none
 |e::es=>if fh k e.1 then some 0 else (qz k es).map (·+1)
def rq (k v:D):List (D×D)->List (D×D)
 |[]=>[(k,v)]
 |e::es=>if fh k e.1 then (e.1,v)::es else e::rq k v es
inductive B5 where
 |mov|pick
 |bin (b:BinOp)
 |beq (neg:Bool)
 |eqnil (neg:Bool)
 |un (u:UnOp)
 |conv (k:IntKind)
 |load (ag:Bool) (n:Nat)
 |store (n:Nat)
 |nilck
 |field (ag:Bool) (off n:Nat)
 |faddr (off:Nat)
 |iaddrS (es:Nat)
 |iaddrA (len es:Nat)
 |index (len es:Nat) (ag:Bool)
 |build (zero:List D) (places:List (Nat×Nat))
 |mkrow (es:Nat) (zero:D) (len:Nat) (at_:List Nat)
 |mkrowO (ety es:Nat) (zero:D) (len:Nat) (at_:List Nat)
 |mkfn (f:FuncId)
 |mkbnd (f:FuncId)
 |yld
 |box
 |zero (cs:List D)
 |mksl (ety es:Nat) (zero:D) (own:Bool)
 |slice (es:Nat) (lo hi max:Bool)
 |len (isMap:Bool)
 |cap
 |minmax (isMax:Bool)
 |extract (i:Nat)
 |app (ety es:Nat) (zero:Option D) (own:Bool)
 |call (f:FuncId)
 |callv
 |delete
 deriving Inhabited
structure EX where
 dst:Option Nat
 g:Option (Nat×Bool)
 op:B5
 xs:List Jq
 deriving Inhabited
structure CB where
 P:Program
 G:Nat->Option (List D)
def dW (E:CB) (w:World) (fb:Nat->Prop):Prop:=∀g cs,E.G g=some cs->Aw w fb (.ptr cs) (.pointer (some ⟨g,0,none⟩))
open Go.RowKit in
def BR (E:CB) (f:FuncId) (ds:List D) (r:D):Prop :=
 ∀(w:World) (fb:Nat->Prop) (vs:Array Value),(∀b,fb b->b<w.heap.size)->dW E w fb->vs.size=ds.length ->
  (∀(i:Nat) (d:D) (v:Value),ds[i]?=some d->vs[i]?=some v->Aw w fb d v) ->
  Calls E.P f vs w fun e w'=>∃v,e=.returned v/\Below w.heap.size w w'/\Aw w' fb r v
def CR (w:World) (fb:Nat->Prop) (ety es:Nat) (nil:Bool) (xs:List D) (v:Value):Prop :=
 (nil=true/\xs=[]/\v=.slice none 0 0) \/
 (nil=false/\∃b off cap cur,v=.slice (some ⟨b,off,none⟩) xs.length cap/\w.heap[b]?=some (.cells cur ety (0,0)) /\
  xs.length<=cap/\cap<=maxLen/\off+cap*es<=cur.size/\0<es/\(∀x,x∈xs->x.cells.length=es)/\(∀x c,x∈xs->c∈x.cells->c.one=true) /\
  ∀(i:Nat) (x:D) (j:Nat) (c:D),xs[i]?=some x->x.cells[j]?=some c->∃u,cur[off+i*es+j]?=some u/\Aw w fb c u)
def nE (w:World) (fb:Nat->Prop) (β:Nat->Nat->Value) (cn:Nat->Nat) (ety:Nat) (xs:List D) (i q p:Nat) (v:Value):Prop :=
 ∃b off cap cur,v=.slice (some ⟨b,off,none⟩) xs.length cap/\w.heap[b]?=some (.cells cur ety (0,0)) /\
  xs.length<=cap/\cap<=maxLen/\off+cap*1<=cur.size/\(∀x,x∈xs->x.cells.length=1)/\(∀x c,x∈xs->c∈x.cells->c.one=true) /\
  (i<xs.length/\cur[off+i]?=some (β q p)/\p<cn q/\(β q p).oneCell'=true) /\
  ∀(j:Nat) (x:D) (c:D),j≠i->xs[j]?=some x->x.cells[0]?=some c->∃u,cur[off+j]?=some u/\Aw w fb c u
def Ay:Value->Option Nat
 |.slice (some a) _ _=>some a.block
 |.pointer (some a)=>some a.block
 |.map (some b)=>some b
 |_=>none
def Cm:Value->Nat->Prop
 |.tuple vs,b=>∃(i:Nat) (u:Value),vs[i]?=some u/\Ay u=some b
 |v,b=>Ay v=some b
def U7 (w:World) (fb:Nat->Prop) (e1 e2:Nat) (nil:Bool) (ix:List Nat) (rows:List (Bool×List D)) (v:Value):Prop :=
 ∃(v0:Value) (vs:List Value),v=.tuple (v0::vs).toArray/\vs.length=rows.length /\
  ((
   nil=true/\ix=[]/\v0=.slice none 0 0)\/(nil=false/\∃b off cap cur,v0=.slice (some ⟨b,off,none⟩) ix.length cap/\w.heap[b]?=some (.cells cur e1 (0,0)) /\
   ix.length<=cap/\cap<=maxLen/\off+cap<=cur.size/\∀(p j:Nat),ix[p]?=some j->∃u,vs[j]?=some u/\cur[off+p]?=some u)) /\
  (∀(j:Nat) (x:Bool×List D) (u:Value),rows[j]?=some x->vs[j]?=some u->CR w fb e2 1 x.1 x.2 u) /\
  ∀(i j:Nat) (u u':Value) (b:Nat),(v0::vs)[i]?=some u->(v0::vs)[j]?=some u'->Ay u=some b->Ay u'=some b->i=j
def Qx (i:Nat):Value->Option Value
 |.slice (some ⟨b,b0,none⟩) _ _=>some (.pointer (some ⟨b,b0+i,none⟩))
 |_=>none
def D_:MK->Value->Option Value
 |.out,.tuple vs=>vs[0]?
 |.row j,.tuple vs=>vs[j+1]?
 |.xp i,.tuple vs=>vs[0]?.bind (Qx i)
 |.mp j k,.tuple vs=>vs[j+1]?.bind (Qx k)
 |.bs off n cap,.pointer (some ⟨b,0,none⟩)=>if n<=4096 then some (.slice (some ⟨b,off,none⟩) n cap) else none
 |_,_=>none
def Gw (ix:List Nat) (rows:List (Bool×List D)):List D:=ix.map fun j=>.list (rows[j]?.getD (false,[])).1 (rows[j]?.getD (false,[])).2
def mr (sl:Bool) (n off b base:Nat):Value:=if sl then .slice (some ⟨b,base,none⟩) n n else .pointer (some ⟨b,base+off,none⟩)
open Go.RowKit in
def nF (E:CB) (f:FuncId) (ds:List D) (ety es:Nat) (nil:Bool) (xs:List D):Prop :=
 ∀(w:World) (fb:Nat->Prop) (vs:Array Value),(∀b,fb b->b<w.heap.size)->dW E w fb->vs.size=ds.length ->
  (∀(i:Nat) (d:D) (v:Value),ds[i]?=some d->vs[i]?=some v->Aw w fb d v) ->
  Calls E.P f vs w fun e w'=>∃v,e=.returned v/\Below w.heap.size w w'/\(∀b,Cm v b->w.heap.size<=b) /\
   CR w' (fun b=>fb b\/Cm v b) ety es nil xs v
def AV.one:AV->Bool
 |.agg _|.tup _|.undef=>false
 |.d x=>x.one
 |_=>true
inductive AY (w:World) (fb:Nat->Prop) (β:Nat->Nat->Value) (cn:Nat->Nat):AV->Value->Prop
 |d (x v) (h:Aw w fb x v):AY w fb β cn (.d x) v
 |ex (xs:List D) (a:Addr) (h:Aw w fb (.list false xs) (.slice (some a) xs.length xs.length)):AY w fb β cn (.ex xs) (.slice (some a) xs.length xs.length)
 |agg (cs:List AV) (vs:Array Value) (hl:vs.size=cs.length) (h1:∀c,c∈cs->c.one=true)
  (h:∀(i:Nat) (c:AV) (v:Value),cs[i]?=some c->vs[i]?=some v->AY w fb β cn c v):AY w fb β cn (.agg cs) (.agg vs)
 |ptr (o g off b:Nat) (hg:g<cn o) (h:β o g=.pointer (some ⟨b,0,none⟩)):AY w fb β cn (.ptr o g off) (.pointer (some ⟨b,off,none⟩))
 |rptr (o g es i off b b0 n cap:Nat) (hg:g<cn o) (h:β o g=.slice (some ⟨b,b0,none⟩) n cap) :
  AY w fb β cn (.rptr o g es i off) (.pointer (some ⟨b,b0+i*es+off,none⟩))
 |dptr (cs:List D) (off b base:Nat) (vs:Nat->Value) (hb:¬fb b) (hne:cs≠[]) (h1:∀c,c∈cs->c.one=true)
  (hc:∀(j:Nat) (c:D),cs[j]?=some c->w.cell? ⟨b,base+j,none⟩=some (vs j))
  (hv:∀(j:Nat) (c:D),cs[j]?=some c->Aw w fb c (vs j)):AY w fb β cn (.dptr cs off) (.pointer (some ⟨b,base+off,none⟩))
 |own (o g:Nat) (hg:g<cn o) (h1:(β o g).oneCell'=true):AY w fb β cn (.own o g) (β o g)
 |map (o g:Nat) (hg:g<cn o) (h1:(β o g).oneCell'=true):AY w fb β cn (.map o g) (β o g)
 |fn (f:FuncId) (cs:List AV) (vs:Array Value) (hl:vs.size=cs.length)
  (h:∀(i:Nat) (c:AV) (v:Value),cs[i]?=some c->vs[i]?=some v->AY w fb β cn c v):AY w fb β cn (.fn f cs) (.func (.func f) #[] vs)
 |tup (cs:List AV) (vs:Array Value) (hl:vs.size=cs.length)
  (h:∀(i:Nat) (c:AV) (v:Value),cs[i]?=some c->vs[i]?=some v->AY w fb β cn c v):AY w fb β cn (.tup cs) (.tuple vs)
 |undef (v):AY w fb β cn .undef v
 |bnd (f:FuncId) (cs:List D) (vs:Array Value) (hl:vs.size=cs.length)
  (h:∀(i:Nat) (c:D) (v:Value),cs[i]?=some c->vs[i]?=some v->Aw w fb c v):AY w fb β cn (.bnd f cs) (.func (.func f) vs #[])
 |mref (k:MK) (o g:Nat) (u:Value) (hg:g<cn o) (h:D_ k (β o g)=some u) (h1:u.oneCell'=true):AY w fb β cn (.mref k o g) u
 |ablk (sl:Bool) (cs:List AV) (off b base:Nat) (vs:Nat->Value) (u:Value) (hb:¬fb b) (hne:cs≠[]) (h1:∀c,c∈cs->c.one=true)
  (hc:∀(j:Nat) (c:AV),cs[j]?=some c->w.cell? ⟨b,base+j,none⟩=some (vs j))
  (hv:∀(j:Nat) (c:AV),cs[j]?=some c->AY w fb β cn c (vs j)) (hu:u=mr sl cs.length off b base):AY w fb β cn (.ablk sl cs off) u
inductive Dj (w:World) (fb:Nat->Prop) (β:Nat->Nat->Value) (cn:Nat->Nat):Ah->Value->Prop
 |cells (xs:List AV) (b:Nat) (cur:Array Value) (e:TypeId) (hb:w.heap[b]?=some (.cells cur e (0,0))) (hl:cur.size=xs.length)
  (h1:∀x,x∈xs->x.one=true) (h:∀(i:Nat) (x:AV) (u:Value),xs[i]?=some x->cur[i]?=some u->AY w fb β cn x u) :
  Dj w fb β cn (.cells xs) (.pointer (some ⟨b,0,none⟩))
 |row (ety es nil xs v) (h:CR w fb ety es nil xs v):Dj w fb β cn (.row ety es nil xs) v
 |rowH (ety xs i q p v) (h:nE w fb β cn ety xs i q p v):Dj w fb β cn (.rowH ety xs i q p) v
 |mat (e1 e2 nil ix rows v) (h:U7 w fb e1 e2 nil ix rows v):Dj w fb β cn (.mat e1 e2 nil ix rows) v
 |map (tys:qQ) (kvs:List (D×D)) (b:Nat) (es:Array MapEntry) (hb:w.heap[b]?=some (.map es kvs.length)) (hl:es.size=kvs.length)
  (h:∀(i:Nat) (kv:D×D) (e:MapEntry),kvs[i]?=some kv->es[i]?=some e->sF tys kv.1=true/\Aw w fb kv.1 e.key/\Aw w fb kv.2 e.val/\e.born=i) :
  Dj w fb β cn (.map tys kvs) (.map (some b))
 |hist (els n st l):Dj w fb β cn (.hist els n st) (.func (.yield l) #[] #[])
def EF (β:Nat->Nat->Value) (V:List (Nat×Nat×Ah)) (b:Nat):Prop:=∃o g x,(o,g,x)∈V/\Cm (β o g) b
structure At (w:World) (fb:Nat->Prop) (β:Nat->Nat->Value) (cn:Nat->Nat) (V:List (Nat×Nat×Ah)):Prop where
 objs:∀o g x,(o,g,x)∈V->g<cn o/\Dj w (fun b=>fb b\/EF β V b) β cn x (β o g)
 sep:∀o g x o' g' x' b,(o,g,x)∈V->(o',g',x')∈V->Cm (β o g) b->Cm (β o' g') b->o=o'/\g=g'
 home:∀o g x b,(o,g,x)∈V->Cm (β o g) b->b<w.heap.size/\¬fb b
open Go.RowKit in
def Hk (E:CB) (f:FuncId) (V0:List (Nat×Nat×Ah)) (xs:List AV) (V1:List (Nat×Nat×Ah)) (r:AV):Prop :=
 ∀(w:World) (fb:Nat->Prop) (β:Nat->Nat->Value) (vs:Array Value),(∀b,fb b->b<w.heap.size)->dW E w (fun b=>fb b\/EF β V0 b) ->
  At w fb β (fun _=>1) V0->vs.size=xs.length ->
  (∀(i:Nat) (x:AV) (v:Value),xs[i]?=some x->vs[i]?=some v->AY w (fun b=>fb b\/EF β V0 b) β (fun _=>1) x v) ->
  Calls E.P f vs w fun e w'=>∃v β1 cn1,e=.returned v/\w'.os=w.os/\w'.tape=w.tape/\w'.output=w.output/\w.heap.size<=w'.heap.size /\
   (∀k,k<w.heap.size->¬EF β V0 k->w'.heap[k]?=w.heap[k]?)/\At w' fb β1 cn1 V1 /\
   (∀o g x,(o,g,x)∈V0->(∃x',(o,g,x')∈V1)/\β1 o g=β o g) /\
   (∀o g x b,(o,g,x)∈V1->Cm (β1 o g) b->w.heap.size<=b\/EF β V0 b) /\
   AY w' (fun b=>fb b\/EF β1 V1 b) β1 cn1 r v
abbrev Gk:=List ((Nat×Nat)×(Nat×Nat))
def Gk.get:Gk->Nat->Nat->Option (Nat×Nat)
 |[],_,_=>none
 |(p,q)::l,o,g=>if o=p.1/\g=p.2 then some q else Gk.get l o g
def AV.ren (ρ:Gk):AV->Option AV
 |.ptr o g off=>match ρ.get o g with|some q=>some (.ptr q.1 q.2 off)|none=>none
 |.rptr o g es i off=>match ρ.get o g with|some q=>some (.rptr q.1 q.2 es i off)|none=>none
 |.own o g=>match ρ.get o g with|some q=>some (.own q.1 q.2)|none=>none
 |.map o g=>match ρ.get o g with|some q=>some (.map q.1 q.2)|none=>none
 |.agg cs=>match renL ρ cs with|some l=>some (.agg l)|none=>none
 |.fn f cs=>match renL ρ cs with|some l=>some (.fn f l)|none=>none
 |.tup cs=>match renL ρ cs with|some l=>some (.tup l)|none=>none
 |.bnd ..=>none
 |.mref k o g=>match ρ.get o g with|some q=>some (.mref k q.1 q.2)|none=>none
 |.ablk sl cs off=>match renL ρ cs with|some l=>some (.ablk sl l off)|none=>none
 |v=>some v
where
 renL (ρ:Gk):List AV->Option (List AV)
  |[]=>some []
  |x::xs=>match x.ren ρ with
   |none=>none
   |some y=>match renL ρ xs with
    |none=>none
    |some ys=>some (y::ys)
def Ah.ren (ρ:Gk):Ah->Option Ah
 |.cells xs=>match AV.ren.renL ρ xs with|some l=>some (.cells l)|none=>none
 |.hist ..=>none
 |.rowH ..=>none
 |x=>some x
def AV.sites:AV->List Nat
 |.own o _|.map o _|.ptr o _ _|.rptr o _ _ _ _|.mref _ o _=>[o]
 |.ablk _ cs _=>sitesL cs
 |.agg cs=>sitesL cs
 |.fn _ cs=>sitesL cs
 |.tup cs=>sitesL cs
 |_=>[]
where
 sitesL:List AV->List Nat
  |[]=>[]
  |x::xs=>x.sites++sitesL xs
def AN.osites (V:AN) (o:Nat):List Nat:=match V.ob o with
 |some (_,.cells xs)=>AV.sites.sitesL xs
 |some (_,.rowH _ _ _ q _)=>[q]
 |_=>[]
def AN.reach (V:AN):Nat->List Nat->List Nat
 |0,l=>l
 |n+1,l=>l++V.reach n (l.flatMap V.osites)
def CC (dst:Option Nat) (V:AN) (xs:List AV):List Nat:=(match dst with|some t=>Lf t|none=>[])++V.reach 3 (AV.sites.sitesL xs)
def mu (ρ:Gk):AV->AV->Prop
 |.d z,x=>x.toD1=some z
 |y,x=>y.ren ρ=some x
def N8 (ρ:Gk):List AV->List AV->Prop
 |[],[]=>True
 |y::ys,x::xs=>mu ρ y x/\N8 ρ ys xs
 |_,_=>False
def Handed (V:AN) (F:List Nat) (ρ:Gk):List (Nat×Nat×Ah)->Prop
 |[]=>True
 |(o,g,x)::l=>(match ρ.get o g,x.ren ρ with
  |some q,some y=>V.get q.1 q.2=some y/\F.contains q.1=true
  |_,_=>False)/\Handed V F ρ l
def Kz (ρ ρ2:Gk):List (Nat×Nat×Ah)->Option BQ
 |[]=>some .none
 |(o,g,x)::l=>match ρ2.get o g,x.ren ρ2,Kz ρ ρ2 l with
  |some q,some y,some c=>some (.seq (match ρ.get o g with|some _=>.keep q.1 q.2 y|none=>.fresh q.1 y) c)
  |_,_,_=>none
def J4 (V:List (Nat×Nat×Ah)) (o g:Nat):Bool:=V.any fun p=>p.1 == o && p.2.1 == g
def E9:List Nat->Bool
 |[]=>true
 |x::l=>!l.contains x && E9 l
def Gb (cn:Nat->Nat) (dst:Option Nat) (V0 V1:List (Nat×Nat×Ah)) (ρ ρ2:Gk):Bool :=
 (ρ.all fun e=>e.1.2 == 0 && J4 V0 e.1.1 e.1.2 && (match ρ2.get e.1.1 e.1.2 with|some q=>q.1 == e.2.1 && q.2 == e.2.2|none=>false)) &&
 (ρ2.all fun e=>J4 V1 e.1.1 e.1.2 && (match ρ.get e.1.1 e.1.2 with
  |some _=>true
  |none=>match dst with|some t=>(Lf t).contains e.2.1 && decide (e.2.1<D7) && e.2.2 == cn e.2.1|none=>false)) &&
 E9 (ρ2.map fun e=>e.2.1) && E9 (V1.map (·.1))
def Ai (op:BinOp) (k:IntKind) (x y:Int):Int :=
 match op with
 |.and=>k.wrap ((BitVec.ofInt k.bits x &&& BitVec.ofInt k.bits y).toNat:Int)
 |.or=>k.wrap ((BitVec.ofInt k.bits x ||| BitVec.ofInt k.bits y).toNat:Int)
 |.xor=>k.wrap ((BitVec.ofInt k.bits x ^^^ BitVec.ofInt k.bits y).toNat:Int)
 |_=>k.wrap ((BitVec.ofInt k.bits x &&& ~~~(BitVec.ofInt k.bits y)).toNat:Int)
def Cf (op:BinOp) (k k':IntKind) (a b:Int) (K:AV->Prop):Prop :=
 match op with
 |.add=>k=k'/\K (.d (.int k (k.wrap (a+b))))
 |.sub=>k=k'/\K (.d (.int k (k.wrap (a-b))))
 |.mul=>k=k'/\K (.d (.int k (k.wrap (a*b))))
 |.quo=>k=k'/\b≠0/\K (.d (.int k (k.wrap (a.tdiv b))))
 |.rem=>k=k'/\b≠0/\K (.d (.int k (a.tmod b)))
 |.shl=>0<=b/\K (.d (.int k (k.wrap (a*2^(min b.toNat k.bits)))))
 |.shr=>0<=b/\K (.d (.int k (a.fdiv (2^(min b.toNat k.bits)))))
 |.and|.or|.xor|.andNot=>k=k'/\K (.d (.int k (Ai op k a b)))
 |.eql=>k=k'/\K (.d (.bool (decide (a=b))))
 |.neq=>k=k'/\K (.d (.bool (!decide (a=b))))
 |.lss=>k=k'/\K (.d (.bool (decide (a<b))))
 |.leq=>k=k'/\K (.d (.bool (decide (a<=b))))
 |.gtr=>k=k'/\K (.d (.bool (decide (b<a))))
 |.geq=>k=k'/\K (.d (.bool (decide (b<=a))))
def CJ (es:Nat) (l:List D):Prop:=∀x,x∈l->x.cells.length=es
def BV {α:Type}(ag:Bool) (n:Nat) (cs:List α) (off:Nat) (mk:List α->AV) (one:α->AV) (K:AV->Prop):Prop :=
 if ag then off+n<=cs.length/\K (mk ((cs.drop off).take n))
 else match cs[off]? with
  |some v=>K (one v)
  |none=>False
def BA {α:Type}(cs:List α) (off:Nat) (vs:List α):List α:=cs.take off++vs++cs.drop (off+vs.length)
def L_:List AV->List ((Nat×Nat)×AV)->Option (List AV)
 |cs,[]=>some cs
 |cs,((off,size),v)::rest =>
  match v.cells? with
  |none=>none
  |some vs=>if vs.length=size/\off+size<=cs.length then L_ (BA cs off vs) rest else none
def FY (es:Nat):List D->List (Nat×AV)->Option (List D)
 |xs,[]=>some xs
 |xs,(i,v)::rest =>
  match v.toD1 with
  |none=>none
  |some x=>if x.cells.length=es/\i<xs.length then FY es (xs.set i x) rest else none
def Cn:Nat:=1073741824
def AV.asList (V:AN):AV->Option (Bool×List D)
 |.d (.list nil xs)=>some (nil,xs)
 |.ex xs=>some (false,xs)
 |.own o g=>match V.get o g with
  |some (.row _ _ nil xs)=>some (nil,xs)
  |_=>none
 |.mref .out o g=>match V.get o g with
  |some (.mat _ _ nil ix rows)=>some (nil,Gw ix rows)
  |_=>none
 |.mref (.row j) o g=>match V.get o g with
  |some (.mat _ _ _ _ rows)=>rows[j]?
  |_=>none
 |_=>none
def AV.lenL (V:AN):AV->Option Nat
 |.mref (.bs _ n _) _ _=>some n
 |x=>match x.asList V with
  |some (_,l)=>some l.length
  |none=>none
def DN (V:AN) (zero:Option D) (y:AV):Option (List D) :=
 match zero with
 |none=>match y with
  |.mref .out _ _=>none
  |_=>match y.asList V with|some (_,ys)=>some ys|none=>none
 |some z=>match y with
  |.d (.int .i64 n)=>if 0<=n/\n<=(Cn:Int) then some (List.replicate n.toNat z) else none
  |_=>none
def MV (lo hi:Bool) (len:Nat) (rest:List AV) (C:Nat->Nat->Prop):Prop :=
 if lo then
  (if hi then (match rest with|[.d (.int _ l),.d (.int _ h)]=>0<=l/\l<=h/\h<=len/\C l.toNat h.toNat|_=>False)
  else (match rest with|[.d (.int _ l)]=>0<=l/\l<=len/\C l.toNat len|_=>False))
 else
  (if hi then (match rest with|[.d (.int _ h)]=>0<=h/\h<=len/\C 0 h.toNat|_=>False)
  else (match rest with|[]=>C 0 len|_=>False))
def kn (a b:Int):Int:=if b<a then b else a
def ko (a b:Int):Int:=if b>a then b else a
def E_ (isMax:Bool) (k:IntKind) (a:Int):List AV->Option Int
 |[]=>some a
 |.d (.int k' b)::rest=>if k=k' then E_ isMax k (if isMax then ko a b else kn a b) rest else none
 |_=>none
def XG (V:AN) (xs:List AV):Option (List D):=Ax (AV.snapN V) xs
def Ed (xs:List AV):Option (List D):=Ax AV.toD1 xs
def up:D->AV
 |.tup xs=>.tup (xs.map .d)
 |x=>.d x
def rM (o g:Nat) (nl:Bool) (l:List D):AV->Option D
 |.own o' g'=>if o'=o/\g'=g then some (.list nl l) else none
 |x=>x.toD1
def DF (E:CB) (dst:Option Nat) (V:AN) (f:FuncId) (xs:List AV) (K:AV->BQ->Prop):Prop :=
 (∃ds r,Ed xs=some ds/\BR E f ds r/\K (up r) .none) \/
 (∃ds r,XG V xs=some ds/\BR E f ds r/\r.flat=true/\K (up r) .none) \/
 (∃ds t ety es nil l,dst=some t/\t<D7/\Ed xs=some ds/\nF E f ds ety es nil l/\K (.own t (V.cn t)) (.fresh t (.row ety es nil l))) \/
 (∃V0 cxs V1 r r' ch,∃ρ ρ2:Gk,N8 ρ cxs xs/\Hk E f V0 cxs V1 r/\Handed V (CC dst V xs) ρ V0/\Gb V.cn dst V0 V1 ρ ρ2=true /\
  r.ren ρ2=some r'/\Kz ρ ρ2 V1=some ch/\K r' ch) \/
 (∃o g ety es nl l ds r,V.get o g=some (.row ety es nl l)/\o<D7/\(CC dst V xs).contains o=true/\Ax (rM o g nl l) xs=some ds/\BR E f ds r/\K (up r) (.fresh o (.row ety es true [])))
def BL (P:Program) (f:FuncId):Bool :=
 match P.funcs[f]? with
 |some fn=>fn.body.isSome && fn.name != "runtime.NumGoroutine"
 |none=>false
def ev (E:CB) (dst:Option Nat) (V:AN) (op:B5) (xs:List AV) (K:AV->BQ->Prop):Prop :=
 match op with
 |.mov=>match xs with
  |[x]=>K x .none
  |_=>False
 |.pick=>match xs with
  |[.d (.bool c),a,b]=>G7 c (K a .none) (K b .none)
  |_=>False
 |.bin b=>match xs with
  |[.d (.int k x),.d (.int k' y)]=>Cf b k k' x y (K · .none)
  |_=>False
 |.beq neg=>match xs with
  |[.d (.bool x),.d (.bool y)]=>K (.d (.bool (if neg then !(x == y) else (x == y)))) .none
  |_=>False
 |.eqnil neg=>match xs with
  |[x,.d (.list true [])]=>match x.asList V with
   |some (nil,_)=>K (.d (.bool (if neg then !nil else nil))) .none
   |none=>False
  |_=>False
 |.un u=>match u,xs with
  |.not,[.d (.bool b)]=>K (.d (.bool (!b))) .none
  |.neg,[.d (.int k n)]=>K (.d (.int k (k.wrap (0-n)))) .none
  |.xor,[.d (.int k n)]=>K (.d (.int k (Ai .xor k (if k.signed then -1 else k.max) n))) .none
  |_,_=>False
 |.conv k=>match xs with
  |[.d (.int _ n)]=>K (.d (.int k (k.wrap n))) .none
  |_=>False
 |.load ag n=>match xs with
  |[.ptr o g off]=>match V.get o g with
   |some (.cells cs)=>BV ag n cs off .agg id (K · .none)
   |_=>False
  |[.rptr o g es i off]=>match V.get o g with
   |some (.row _ es' _ l)=>es=es'/\(match l[i]? with
    |some x=>BV ag n x.cells off (fun cs=>.d (.agg cs)) .d (K · .none)
    |none=>False)
   |_=>False
  |[.dptr cs off]=>BV ag n cs off (fun cs=>.d (.agg cs)) .d (K · .none)
  |[.d (.ptr cs)]=>BV ag n cs 0 (fun cs=>.d (.agg cs)) .d (K · .none)
  |[.mref (.xp i) o g]=>match V.get o g with
   |some (.mat _ _ _ ix _)=>(match ix[i]? with
    |some j=>BV ag n [.mref (.row j) o g] 0 .agg id (K · .none)
    |none=>False)
   |_=>False
  |[.mref (.mp j k) o g]=>match V.get o g with
   |some (.mat _ _ _ _ rows)=>(match rows[j]? with
    |some x=>(match x.2[k]? with
      |some y=>BV ag n y.cells 0 (fun cs=>.d (.agg cs)) .d (K · .none)
      |none=>False)
    |none=>False)
   |_=>False
  |[.ablk false cs off]=>BV ag n cs off .agg id (K · .none)
  |_=>False
 |.store n=>match xs with
  |[.ptr o g off,v]=>match V.get o g,v.cells? with
   |some (.cells cs),some vs=>vs.length=n/\off+n<=cs.length/\K .undef (.keep o g (.cells (BA cs off vs)))
   |_,_=>False
  |[.rptr o g es0 i off,v]=>match V.get o g,v.toD1 with
   |some (.row ety es nil l),some y=>es0=es/\(match l[i]? with
    |some x=>y.cells.length=n/\off+n<=x.cells.length/\(n=es\/1<x.cells.length) /\
       K .undef (.keep o g (.row ety es nil (l.set i (if n=es then y else .agg (BA x.cells off y.cells)))))
    |none=>False)
   |_,_=>False
  |[.mref (.xp i) o g,.mref (.row j) o' g']=>match V.get o g with
   |some (.mat e1 e2 nil ix rows)=>n=1/\o'=o/\g'=g/\i<ix.length/\j<rows.length/\K .undef (.keep o g (.mat e1 e2 nil (ix.set i j) rows))
   |_=>False
  |[.mref (.xp i) o g,.own q p]=>match V.get o g,V.get q p with
   |some (.mat e1 e2 nil ix rows),some (.row e2' es2 nl2 l2)=>n=1/\o<D7/\q<D7/\o≠q/\es2=1/\e2'=e2/\i<ix.length /\
      K .undef (.seq (.keep o g (.mat e1 e2 nil (ix.set i rows.length) (rows++[(nl2,l2)]))) (.fresh q (.row e2 1 true [])))
   |_,_=>False
  |[.mref (.mp j k) o g,v]=>match V.get o g,v.toD1 with
   |some (.mat e1 e2 nil ix rows),some y=>(match rows[j]? with
    |some x=>n=1/\y.cells.length=1/\k<x.2.length/\K .undef (.keep o g (.mat e1 e2 nil ix (rows.set j (x.1,x.2.set k y))))
    |none=>False)
   |_,_=>False
  |_=>False
 |.nilck=>match xs with
  |[.mref (.xp i) o g]=>K (.mref (.xp i) o g) .none
  |[.mref (.mp j k) o g]=>K (.mref (.mp j k) o g) .none
  |[.ablk false cs off]=>K (.ablk false cs off) .none
  |[.ptr o g off]=>K (.ptr o g off) .none
  |[.rptr o g es i off]=>K (.rptr o g es i off) .none
  |[.dptr cs off]=>K (.dptr cs off) .none
  |[.d (.ptr cs)]=>K (.d (.ptr cs)) .none
  |_=>False
 |.field ag off n=>match xs with
  |[.agg cs]=>BV ag n cs off .agg id (K · .none)
  |[.d (.agg cs)]=>BV ag n cs off (fun cs=>.d (.agg cs)) .d (K · .none)
  |_=>False
 |.faddr off=>match xs with
  |[.ptr o g a]=>K (.ptr o g (a+off)) .none
  |[.rptr o g es i a]=>K (.rptr o g es i (a+off)) .none
  |[.dptr cs a]=>K (.dptr cs (a+off)) .none
  |[.d (.ptr cs)]=>K (.dptr cs off) .none
  |[.ablk false cs a]=>K (.ablk false cs (a+off)) .none
  |_=>False
 |.iaddrS es=>match xs with
  |[.own o g,.d (.int _ i)]=>match V.get o g with
   |some (.row _ es' _ l)=>es=es'/\0<=i/\i<l.length/\K (.rptr o g es i.toNat 0) .none
   |_=>False
  |[.d (.list _ l),.d (.int _ i)]=>0<=i/\i<l.length/\(match l[i.toNat]? with|some x=>x.cells.length=es/\K (.dptr x.cells 0) .none|none=>False)
  |[.ex l,.d (.int _ i)]=>0<=i/\i<l.length/\(match l[i.toNat]? with|some x=>x.cells.length=es/\K (.dptr x.cells 0) .none|none=>False)
  |[.mref .out o g,.d (.int _ i)]=>match V.get o g with
   |some (.mat _ _ _ ix _)=>es=1/\0<=i/\i<ix.length/\K (.mref (.xp i.toNat) o g) .none
   |_=>False
  |[.mref (.row j) o g,.d (.int _ i)]=>match V.get o g with
   |some (.mat _ _ _ _ rows)=>(match rows[j]? with
    |some x=>es=1/\0<=i/\i<x.2.length/\K (.mref (.mp j i.toNat) o g) .none
    |none=>False)
   |_=>False
  |[.mref (.bs off n _) o g,.d (.int _ i)]=>es=1/\0<=i/\i<n/\K (.ptr o g (off+i.toNat)) .none
  |_=>False
 |.iaddrA len es=>match xs with
  |[.ptr o g off,.d (.int _ i)]=>0<=i/\i<len/\K (.ptr o g (off+i.toNat * es)) .none
  |[.rptr o g es' j off,.d (.int _ i)]=>0<=i/\i<len/\K (.rptr o g es' j (off+i.toNat * es)) .none
  |[.dptr cs off,.d (.int _ i)]=>0<=i/\i<len/\K (.dptr cs (off+i.toNat * es)) .none
  |[.d (.ptr cs),.d (.int _ i)]=>0<=i/\i<len/\K (.dptr cs (i.toNat * es)) .none
  |_=>False
 |.index len es ag=>match xs with
  |[.agg cs,.d (.int _ i)]=>0<=i/\i<len/\BV ag es cs (i.toNat * es) .agg id (K · .none)
  |[.d (.agg cs),.d (.int _ i)]=>0<=i/\i<len/\BV ag es cs (i.toNat * es) (fun cs=>.d (.agg cs)) .d (K · .none)
  |_=>False
 |.build zero places=>match L_ (zero.map .d) (places.zip xs) with
  |some cs=>places.length=xs.length/\K (.agg cs) .none
  |none=>False
 |.mkrow es zero len at_=>match xs with
  |[.own q p]=>es=1/\len=1/\at_=[0]/\K (.ablk true [.own q p] 0) .none
  |xs=>match FY es (List.replicate len zero) (at_.zip xs) with
   |some l=>at_.length=xs.length/\K (.ex l) .none
   |none=>False
 |.mkrowO ety es zero len at_=>match dst,FY es (List.replicate len zero) (at_.zip xs) with
  |some t,some l=>t<D7/\at_.length=xs.length/\K (.own t (V.cn t)) (.fresh t (.row ety es false l))
  |_,_=>False
 |.mkfn f=>K (.fn f xs) .none
 |.mkbnd f=>match Ed xs with
  |some ds=>K (.bnd f ds) .none
  |none=>False
 |.yld=>False
 |.box=>match dst,xs with
  |some t,[v]=>match v.cells? with
   |some cs=>t<D7/\K (.ptr t (V.cn t) 0) (.fresh t (.cells cs))
   |none=>False
  |_,_=>False
 |.zero cs=>match dst with
  |some t=>t<D7/\K (.ptr t (V.cn t) 0) (.fresh t (.cells (cs.map .d)))
  |none=>False
 |.mksl ety es zero own=>match dst,xs with
  |some t,[.d (.int .i64 n),.d (.int .i64 m)]=>n=m/\0<=n/\n<=(Cn:Int) /\
    (
     if own then t<D7/\K (.own t (V.cn t)) (.fresh t (.row ety es false (List.replicate n.toNat zero)))
     else K (.d (.list false (List.replicate n.toNat zero))) .none)
  |_,_=>False
 |.slice es lo hi max =>
  if max then (match lo,hi,xs with
   |false,true,[.d (.list false l),.d (.int _ h),.d (.int _ m)]=>CJ es l/\h=m/\0<=h/\h<=l.length/\K (.ex (l.take h.toNat)) .none
   |false,true,[.d (.list true []),.d (.int _ h),.d (.int _ m)]=>h=0/\m=0/\K (.d (.list true [])) .none
   |true,true,[.ptr o g off,.d (.int _ h),.d (.int _ m)]=>0<=h/\h<=m/\K (.mref (.bs off h.toNat m.toNat) o g) .none
   |true,true,[.d (.ptr cs),.d (.int _ h),.d (.int _ m)]=>0<=h/\h<=m/\m<=cs.length/\K (.d (.list false (cs.take h.toNat))) .none
   |true,true,[.dptr cs off,.d (.int _ h),.d (.int _ m)]=>0<=h/\h<=m/\off+m.toNat<=cs.length/\K (.d (.list false ((cs.drop off).take h.toNat))) .none
   |true,true,[.d (.list false l),.d (.int _ a),.d (.int _ h),.d (.int _ m)]=>CJ es l/\h=m/\0<=a/\a<h/\h<=l.length/\K (.ex ((l.drop a.toNat).take (h.toNat-a.toNat))) .none
   |_,_,_=>False)
  else match xs with
  |.d (.list nil l)::rest=>CJ es l/\MV lo hi l.length rest fun a b=>K (.d (.list nil ((l.drop a).take (b-a)))) .none
  |.ex l::rest=>CJ es l/\MV lo hi l.length rest fun a b=>K (.d (.list false ((l.drop a).take (b-a)))) .none
  |.own o g::rest=>(match V.get o g with
   |some (.row ety es' nil l)=>o<D7/\es=es'/\MV lo hi l.length rest fun a b=>K (.own o (V.cn o)) (.fresh o (.row ety es nil (if hi then (l.drop a).take (b-a) else l.drop a)))
   |_=>False)
  |_=>False
 |.len isMap=>match xs with
  |[x]=>if isMap then False
   else (match x.lenL V with
    |some n=>K (.d (.int .i64 n)) .none
    |none=>False)
  |_=>False
 |.cap=>match xs with
  |[.d (.list true [])]=>K (.d (.int .i64 0)) .none
  |_=>False
 |.minmax isMax=>match xs with
  |.d (.int k a)::rest=>(match E_ isMax k a rest with
   |some r=>K (.d (.int k r)) .none
   |none=>False)
  |_=>False
 |.extract i=>match xs with
  |[.tup vs]=>(match vs[i]? with
   |some v=>K v .none
   |none=>False)
  |_=>False
 |.app ety es zero own=>match xs with
  |[.mref k o g,y]=>(match k,V.get o g,y with
   |.out,some (.mat e1 e2 nil ix rows),.ablk true [.own q p] 0=>(match V.get q p with
    |some (.row e2' es2 nl2 l2)=>zero=none/\o<D7/\q<D7/\o≠q/\ety=e1/\es=1/\es2=1/\e2'=e2/\ix.length+1<=Cn /\
       K (.mref .out o (V.cn o)) (.seq (.fresh o (.mat e1 e2 false (ix++[rows.length]) (rows++[(nl2,l2)]))) (.fresh q (.row e2 1 true [])))
    |_=>False)
   |_,_,_=>False)
  |[x,y]=>(match DN V zero y with
   |none=>False
   |some ys=>(match x with
    |.own o g=>(match V.get o g with
      |some (.row ety' es' nil l)=>o<D7/\ety=ety'/\es=es'/\CJ es ys/\l.length+ys.length<=Cn /\
         K (.own o (V.cn o)) (.fresh o (.row ety es (nil && ys.isEmpty) (l++ys)))
      |_=>False)
    |.d (.list true [])=>CJ es ys/\ys.length<=Cn /\
       (if own then (match dst with
         |some t=>t<D7/\K (.own t (V.cn t)) (.fresh t (.row ety es ys.isEmpty ys))
         |none=>False)
        else K (.d (.list ys.isEmpty ys)) .none)
    |.ex l=>CJ es (l++ys)/\l.length+ys.length<=Cn /\
       (if own then (match dst with
         |some t=>(match ys with
          |[]=>K (.ex l) .none
          |_::_=>t<D7/\K (.own t (V.cn t)) (.fresh t (.row ety es false (l++ys))))
         |none=>False)
        else K (.d (.list false (l++ys))) .none)
    |_=>False))
  |_=>False
 |.call f=>DF E dst V f xs K
 |.callv=>match xs with
  |.fn f cs::args=>BL E.P f=true/\DF E dst V f (args++cs) K
  |.d (.fn f cs)::args=>BL E.P f=true/\DF E dst V f (args++cs.map .d) K
  |_=>False
 |.delete=>False
end Go.Pw
end
section
namespace Go.Pw
open Go.RowKit
theorem Aw.oneCell {w:World}{fb:Nat->Prop}{d:D}{v:Value}(h:Aw w fb d v) (h1:d.one=true):v.oneCell'=true:=by
 cases h<;>first|rfl|simp[D.one] at h1
theorem AY.mono {w w':World}{fb fb':Nat->Prop}{β β':Nat->Nat->Value}{cn cn':Nat->Nat}(hw:Am fb w w')
  (hf:∀b,b<w.heap.size->fb' b->fb b) (hβ:∀o g,g<cn o->β' o g=β o g) (hcn:∀o,cn o<=cn' o)
  {a:AV}{v:Value}(h:AY w fb β cn a v):AY w' fb' β' cn' a v:=by
 induction h with
 |d x v h=>exact .d x v (h.mono hw hf)
 |ex xs a h=>exact .ex xs a (h.mono hw hf)
 |agg cs vs hl h1 h ih=>exact .agg cs vs hl h1 ih
 |ptr o g off b hg h=>exact .ptr o g off b (Nat.lt_of_lt_of_le hg (hcn o)) ((hβ o g hg).trans h)
 |rptr o g es i off b b0 n cap hg h=>exact .rptr o g es i off b b0 n cap (Nat.lt_of_lt_of_le hg (hcn o)) ((hβ o g hg).trans h)
 |dptr cs off b base vs hb hne h1 hc hv =>
  cases cs with
  |nil=>exact absurd rfl hne
  |cons x xs =>
   have hlt:b<w.heap.size:=BU (hc 0 x (by simp))
   exact .dptr _ off b base vs (fun hh=>hb (hf b hlt hh)) hne h1 (fun j c h1=>hw.cell hb (hc j c h1)) (fun j c h1=>(hv j c h1).mono hw hf)
 |own o g hg h1=>rw[←hβ o g hg] at h1 ⊢;exact .own o g (Nat.lt_of_lt_of_le hg (hcn o)) h1
 |map o g hg h1=>rw[←hβ o g hg] at h1 ⊢;exact .map o g (Nat.lt_of_lt_of_le hg (hcn o)) h1
 |fn f cs vs hl h ih=>exact .fn f cs vs hl ih
 |tup cs vs hl h ih=>exact .tup cs vs hl ih
 |undef v=>exact .undef v
 |bnd f cs vs hl h=>exact .bnd f cs vs hl fun i c v h1 h2=>(h i c v h1 h2).mono hw hf
 |mref k o g u hg h h1=>exact .mref k o g u (Nat.lt_of_lt_of_le hg (hcn o)) (by rw[hβ o g hg];exact h) h1
 |ablk sl cs off b base vs u hb hne h1 hc hv hu ih =>
  cases cs with
  |nil=>exact absurd rfl hne
  |cons x xs =>
   have hlt:b<w.heap.size:=BU (hc 0 x (by simp))
   exact .ablk sl _ off b base vs u (fun hh=>hb (hf b hlt hh)) hne h1 (fun j c h1=>hw.cell hb (hc j c h1)) ih hu
def rk (β β':Nat->Nat->Value) (o g:Nat):Prop:=β' o g=β o g\/∃l us:List Value,β o g=.tuple l.toArray/\β' o g=.tuple (l++us).toArray
theorem fR {k:MK}{l us:List Value}{u:Value}(h:D_ k (.tuple l.toArray)=some u):D_ k (.tuple (l++us).toArray)=some u:=by
 have key:∀{i:Nat}{x:Value},l[i]?=some x->(l++us)[i]?=some x:=fun {i x} hx=>by
  rw[List.getElem?_append_left (List.getElem?_eq_some_iff.1 hx).1];exact hx
 cases k with
 |out=>simp only[D_,List.getElem?_toArray] at h ⊢;exact key h
 |row j=>simp only[D_,List.getElem?_toArray] at h ⊢;exact key h
 |xp i =>
  simp only[D_,List.getElem?_toArray] at h ⊢
  cases hx:l[0]? with
  |none=>rw[hx] at h;simp at h
  |some x=>rw[key hx];rw[hx] at h;exact h
 |mp j k =>
  simp only[D_,List.getElem?_toArray] at h ⊢
  cases hx:l[j+1]? with
  |none=>rw[hx] at h;simp at h
  |some x=>rw[key hx];rw[hx] at h;exact h
 |bs off n cap=>simp[D_] at h
theorem AY.monoE {w w':World}{fb fb':Nat->Prop}{β β':Nat->Nat->Value}{cn cn':Nat->Nat}(hw:Am fb w w')
  (hf:∀b,b<w.heap.size->fb' b->fb b) (hβ:∀o g,g<cn o->rk β β' o g) (hcn:∀o,cn o<=cn' o)
  {a:AV}{v:Value}(h:AY w fb β cn a v):AY w' fb' β' cn' a v:=by
 have one:∀{o g},g<cn o->(β o g).oneCell'=true->β' o g=β o g:=fun {o g} hg h1=>by
  rcases hβ o g hg with h|⟨l,us,h,_⟩
  ·exact h
  ·rw[h] at h1;cases h1
 induction h with
 |d x v h=>exact .d x v (h.mono hw hf)
 |ex xs a h=>exact .ex xs a (h.mono hw hf)
 |agg cs vs hl h1 h ih=>exact .agg cs vs hl h1 ih
 |ptr o g off b hg h=>exact .ptr o g off b (Nat.lt_of_lt_of_le hg (hcn o)) ((one hg (by rw[h];rfl)).trans h)
 |rptr o g es i off b b0 n cap hg h=>exact .rptr o g es i off b b0 n cap (Nat.lt_of_lt_of_le hg (hcn o)) ((one hg (by rw[h];rfl)).trans h)
 |dptr cs off b base vs hb hne h1 hc hv =>
  cases cs with
  |nil=>exact absurd rfl hne
  |cons x xs =>
   have hlt:b<w.heap.size:=BU (hc 0 x (by simp))
   exact .dptr _ off b base vs (fun hh=>hb (hf b hlt hh)) hne h1 (fun j c h1=>hw.cell hb (hc j c h1)) (fun j c h1=>(hv j c h1).mono hw hf)
 |own o g hg h1 =>
  have e:=one hg h1
  rw[←e] at h1 ⊢;exact .own o g (Nat.lt_of_lt_of_le hg (hcn o)) h1
 |map o g hg h1 =>
  have e:=one hg h1
  rw[←e] at h1 ⊢;exact .map o g (Nat.lt_of_lt_of_le hg (hcn o)) h1
 |fn f cs vs hl h ih=>exact .fn f cs vs hl ih
 |tup cs vs hl h ih=>exact .tup cs vs hl ih
 |undef v=>exact .undef v
 |bnd f cs vs hl h=>exact .bnd f cs vs hl fun i c v h1 h2=>(h i c v h1 h2).mono hw hf
 |mref k o g u hg h h1 =>
  refine .mref k o g u (Nat.lt_of_lt_of_le hg (hcn o)) ?_ h1
  rcases hβ o g hg with e|⟨l,us,e,e'⟩
  ·rw[e];exact h
  ·rw[e'] ;rw[e] at h;exact fR h
 |ablk sl cs off b base vs u hb hne h1 hc hv hu ih =>
  cases cs with
  |nil=>exact absurd rfl hne
  |cons x xs =>
   have hlt:b<w.heap.size:=BU (hc 0 x (by simp))
   exact .ablk sl _ off b base vs u (fun hh=>hb (hf b hlt hh)) hne h1 (fun j c h1=>hw.cell hb (hc j c h1)) ih hu
structure C4 where
 w0:World
 fb:Nat->Prop
 mine:Nat->Prop
 b0:Nat->Value
 may:Nat->Prop:=fun _=>False
 els:List (List D):=[]
 yl:Nat:=0
 hn:Nat:=0
 nr:Bool:=false
 J:Nat->Bool->World->(Nat->Prop)->(Nat->Prop)->Prop:=fun _ _ _ _ _=>False
def C_ (β:Nat->Nat->Value) (V:AN) (b:Nat):Prop:=∃o g x,V.ob o=some (g,x)/\Cm (β o g) b
def C4.bar (c:C4) (β:Nat->Nat->Value) (V:AN) (b:Nat):Prop:=c.fb b\/C_ β V b
structure A1 where
 sl:Nat->AV
 V:AN
structure XR (c:C4) (w:World):Prop where
 os:w.os=c.w0.os
 tape:w.tape=c.w0.tape
 output:w.output=c.w0.output
 size:c.w0.heap.size<=w.heap.size
 block:∀k,k<c.w0.heap.size->¬c.mine k->w.heap[k]?=c.w0.heap[k]?
structure BI (E:CB) (c:C4) (β:Nat->Nat->Value) (s:A1) (tm:Array Value) (w:World):Prop where
 keep:XR c w
 low:∀b,c.fb b->b<c.w0.heap.size/\¬c.mine b
 glob:dW E w (c.bar β s.V)
 slots:∀t,AY w (c.bar β s.V) β s.V.cn (s.sl t) (tm.getD t undef)
 objs:∀o g x,s.V.ob o=some (g,x)->g<s.V.cn o/\Dj w (c.bar β s.V) β s.V.cn x (β o g)
 sep:∀o o' g g' x x' b,s.V.ob o=some (g,x)->s.V.ob o'=some (g',x')->Cm (β o g) b->Cm (β o' g') b->o=o'
 home:∀o g x b,s.V.ob o=some (g,x)->Cm (β o g) b->b<w.heap.size/\(c.w0.heap.size<=b\/c.mine b)/\¬c.fb b
 pin:∀o g x,D7<=o->s.V.ob o=some (g,x)->β o g=c.b0 o
 hist:∀o g els n st,s.V.ob o=some (g,.hist els n st)->els=c.els/\β o g=.func (.yield c.yl) #[] #[]/\c.J n st c.w0 c.mine c.may/\o=c.hn
theorem Am.of_below {fb:Nat->Prop}{w w':World}(h:Below w.heap.size w w'):Am fb w w':=fun b _ hlt=>h.block b hlt
theorem CR.mono {w w':World}{fb fb':Nat->Prop} {ety es nil xs v} (hw:Am fb w w') (hf:∀b,b<w.heap.size->fb' b->fb b)
  (hv:∀b,Cm v b->b<w.heap.size->w'.heap[b]?=w.heap[b]?) (h:CR w fb ety es nil xs v):CR w' fb' ety es nil xs v:=by
 rcases h with⟨h1,h2,h3⟩|⟨h1,b,off,cap,cur,h2,h3,h4,h5,h6,h7,h8,h10,h9⟩
 ·exact .inl ⟨h1,h2,h3⟩
 ·subst h2
  have hlt:b<w.heap.size:=(Array.getElem?_eq_some_iff.1 h3).1
  refine .inr ⟨h1,b,off,cap,cur,rfl,?_,h4,h5,h6,h7,h8,h10,fun i x j c hi hj=>?_⟩
  ·rw[hv b rfl hlt];exact h3
  ·obtain⟨u,hu,hd⟩:=h9 i x j c hi hj
   exact⟨u,hu,hd.mono hw hf⟩
theorem nE.mono {w w':World}{fb fb':Nat->Prop}{β β':Nat->Nat->Value}{cn cn':Nat->Nat} {ety xs i q p v} (hw:Am fb w w') (hf:∀b,b<w.heap.size->fb' b->fb b)
  (hβ:∀o g,g<cn o->β' o g=β o g) (hcn:∀o,cn o<=cn' o)
  (hv:∀b,Cm v b->b<w.heap.size->w'.heap[b]?=w.heap[b]?) (h:nE w fb β cn ety xs i q p v):nE w' fb' β' cn' ety xs i q p v:=by
 obtain⟨b,off,cap,cur,h2,h3,h4,h5,h6,h8,h10,⟨k1,k2,k3,k4⟩,h9⟩:=h
 subst h2
 have hlt:b<w.heap.size:=(Array.getElem?_eq_some_iff.1 h3).1
 refine⟨b,off,cap,cur,rfl,?_,h4,h5,h6,h8,h10,⟨k1,?_,Nat.lt_of_lt_of_le k3 (hcn q),?_⟩,fun j x c hj hx hc=>?_⟩
 ·rw[hv b rfl hlt];exact h3
 ·rw[hβ q p k3];exact k2
 ·rw[hβ q p k3];exact k4
 ·obtain⟨u,hu,hd⟩:=h9 j x c hj hx hc
  exact⟨u,hu,hd.mono hw hf⟩
theorem CR.blk {w:World}{fb:Nat->Prop} {ety es nil xs v} (h:CR w fb ety es nil xs v) {b:Nat}(hb:Cm v b):Ay v=some b:=by
 rcases h with⟨h1,h2,h3⟩|⟨h1,b,off,cap,cur,h2,h3⟩
 ·subst h3;exact hb
 ·subst h2;exact hb
theorem CR.one {w:World}{fb:Nat->Prop} {ety es nil xs v} (h:CR w fb ety es nil xs v):v.oneCell'=true:=by
 rcases h with⟨h1,h2,h3⟩|⟨h1,b,off,cap,cur,h2,h3⟩
 ·subst h3;rfl
 ·subst h2;rfl
theorem Ba {v0:Value}{vs:List Value}(i:Nat):(v0::vs).toArray[i]?=(v0::vs)[i]?:=by simp
theorem U7.mono {w w':World}{fb fb':Nat->Prop} {e1 e2 nil ix rows v} (hw:Am fb w w') (hf:∀b,b<w.heap.size->fb' b->fb b)
  (hv:∀b,Cm v b->b<w.heap.size->w'.heap[b]?=w.heap[b]?) (h:U7 w fb e1 e2 nil ix rows v):U7 w' fb' e1 e2 nil ix rows v:=by
 obtain⟨v0,vs,hv',hl,h0,hr,hs⟩:=h
 subst hv'
 refine⟨v0,vs,rfl,hl,?_,fun j x u hx hu=>(hr j x u hx hu).mono hw hf fun b hb hlt=>hv b ⟨j+1,u,by simpa using hu,(hr j x u hx hu).blk hb⟩ hlt,hs⟩
 rcases h0 with h0|⟨h0,b,off,cap,cur,h2,h3,h4⟩
 ·exact .inl h0
 ·refine .inr ⟨h0,b,off,cap,cur,h2,?_,h4⟩
  rw[hv b ⟨0,v0,by simp,by rw[h2];rfl⟩ (Array.getElem?_eq_some_iff.1 h3).1];exact h3
theorem Dj.mono {w w':World}{fb fb':Nat->Prop}{β β':Nat->Nat->Value}{cn cn':Nat->Nat}(hw:Am fb w w')
  (hf:∀b,b<w.heap.size->fb' b->fb b) (hβ:∀o g,g<cn o->β' o g=β o g) (hcn:∀o,cn o<=cn' o)
  {x:Ah}{v:Value}(hv:∀b,Cm v b->b<w.heap.size->w'.heap[b]?=w.heap[b]?) (h:Dj w fb β cn x v):Dj w' fb' β' cn' x v:=by
 cases h with
 |cells xs b cur e hb hl h1 h =>
  have hlt:b<w.heap.size:=(Array.getElem?_eq_some_iff.1 hb).1
  exact .cells xs b cur e ((hv b rfl hlt).trans hb) hl h1 fun i x u hx hu=>(h i x u hx hu).mono hw hf hβ hcn
 |row ety es nil xs v h=>exact .row _ _ _ _ _ (h.mono hw hf hv)
 |rowH ety xs i q p v h=>exact .rowH _ _ _ _ _ _ (h.mono hw hf hβ hcn hv)
 |mat e1 e2 nil ix rows v h=>exact .mat _ _ _ _ _ _ (h.mono hw hf hv)
 |map tys kvs b es hb hl h =>
  have hlt:b<w.heap.size:=(Array.getElem?_eq_some_iff.1 hb).1
  exact .map tys kvs b es ((hv b rfl hlt).trans hb) hl fun i kv e hk he=>by
   obtain⟨h1,h2,h3,h4⟩:=h i kv e hk he
   exact⟨h1,h2.mono hw hf,h3.mono hw hf,h4⟩
 |hist els n st l=>exact .hist els n st l
theorem Dj.monoE {w w':World}{fb fb':Nat->Prop}{β β':Nat->Nat->Value}{cn cn':Nat->Nat}(hw:Am fb w w')
  (hf:∀b,b<w.heap.size->fb' b->fb b) (hβ:∀o g,g<cn o->rk β β' o g) (hcn:∀o,cn o<=cn' o)
  {x:Ah}{v:Value}(hv:∀b,Cm v b->b<w.heap.size->w'.heap[b]?=w.heap[b]?) (h:Dj w fb β cn x v):Dj w' fb' β' cn' x v:=by
 cases h with
 |cells xs b cur e hb hl h1 h =>
  have hlt:b<w.heap.size:=(Array.getElem?_eq_some_iff.1 hb).1
  exact .cells xs b cur e ((hv b rfl hlt).trans hb) hl h1 fun i x u hx hu=>(h i x u hx hu).monoE hw hf hβ hcn
 |row ety es nil xs v h=>exact .row _ _ _ _ _ (h.mono hw hf hv)
 |rowH ety xs i q p v h =>
  obtain⟨b,off,cap,cur,h2,h3,h4,h5,h6,h8,h10,⟨k1,k2,k3,k4⟩,h9⟩:=h
  subst h2
  have hlt:b<w.heap.size:=(Array.getElem?_eq_some_iff.1 h3).1
  have e:β' q p=β q p:=by
   rcases hβ q p k3 with h|⟨l,us,h,_⟩
   ·exact h
   ·rw[h] at k4;cases k4
  refine .rowH _ _ _ _ _ _ ⟨b,off,cap,cur,rfl,?_,h4,h5,h6,h8,h10,⟨k1,?_,Nat.lt_of_lt_of_le k3 (hcn q),?_⟩,fun j x c hj hx hc=>?_⟩
  ·rw[hv b rfl hlt];exact h3
  ·rw[e];exact k2
  ·rw[e];exact k4
  ·obtain⟨u,hu,hd⟩:=h9 j x c hj hx hc
   exact⟨u,hu,hd.mono hw hf⟩
 |mat e1 e2 nil ix rows v h=>exact .mat _ _ _ _ _ _ (h.mono hw hf hv)
 |map tys kvs b es hb hl h =>
  have hlt:b<w.heap.size:=(Array.getElem?_eq_some_iff.1 hb).1
  exact .map tys kvs b es ((hv b rfl hlt).trans hb) hl fun i kv e hk he=>by
   obtain⟨h1,h2,h3,h4⟩:=h i kv e hk he
   exact⟨h1,h2.mono hw hf,h3.mono hw hf,h4⟩
 |hist els n st l=>exact .hist els n st l
theorem XR.grow {c:C4}{w w':World}(h:XR c w) (hg:Below w.heap.size w w'):XR c w' :=
 ⟨hg.os.trans h.os,hg.tape.trans h.tape,hg.output.trans h.output,Nat.le_trans h.size hg.size,
  fun k hk hm=>(hg.block k (Nat.lt_of_lt_of_le hk h.size)).trans (h.block k hk hm)⟩
theorem dW.mono {E:CB}{w w':World}{fb:Nat->Prop}(h:dW E w fb) (hw:Am fb w w'):dW E w' fb :=
 fun g cs hg=>(h g cs hg).mono hw (fun _ _ h=>h)
theorem BI.grow {E:CB}{c:C4}{β:Nat->Nat->Value}{s:A1}{tm:Array Value}{w w':World}(h:BI E c β s tm w) (hg:Below w.heap.size w w'):BI E c β s tm w':=by
 refine⟨h.keep.grow hg,h.low,h.glob.mono (.of_below hg),fun t=>?_,fun o g x hx=>?_,h.sep,fun o g x b hx hb=>?_,h.pin,h.hist⟩
 ·exact(h.slots t).mono (.of_below hg) (fun _ _ h=>h) (fun _ _ _=>rfl) (fun _=>Nat.le_refl _)
 ·obtain⟨h1,h2⟩:=h.objs o g x hx
  exact⟨h1,h2.mono (.of_below hg) (fun _ _ h=>h) (fun _ _ _=>rfl) (fun _=>Nat.le_refl _) fun b _ hlt=>hg.block b hlt⟩
 ·obtain⟨h1,h2⟩:=h.home o g x b hx hb
  exact⟨Nat.lt_of_lt_of_le h1 hg.size,h2⟩
theorem gM {tm:Array Value}{t:Nat}{u d:Value}(ht:t<tm.size) (i:Nat):(tm.setIfInBounds t u).getD i d=if i=t then u else tm.getD i d:=by
 by_cases h:i=t
 ·subst h;simp[Array.getD_eq_getD_getElem?,ht]
 ·simp[Array.getD_eq_getD_getElem?,Array.getElem?_setIfInBounds_ne (Ne.symm h),h]
theorem BI.set {E:CB}{c:C4}{β:Nat->Nat->Value}{s:A1}{tm:Array Value}{w:World}(h:BI E c β s tm w) {t:Nat}{v:AV}{u:Value}
  (ht:t<tm.size) (hv:AY w (c.bar β s.V) β s.V.cn v u):BI E c β { s with sl:=Bs s.sl t v } (tm.setIfInBounds t u) w:=by
 refine⟨h.keep,h.low,h.glob,fun i=>?_,h.objs,h.sep,h.home,h.pin,h.hist⟩
 rw[gM ht]
 simp only[Bs]
 split
 ·exact hv
 ·exact h.slots i
def Ey (β:Nat->Nat->Value) (o g:Nat) (v:Value):Nat->Nat->Value:=fun o' g'=>if o'=o/\g'=g then v else β o' g'
theorem BJ (β:Nat->Nat->Value) (o g:Nat) (v:Value):Ey β o g v o g=v:=by simp[Ey]
theorem Dm {β:Nat->Nat->Value}{cn:Nat->Nat}{o:Nat}{v:Value}(o' g':Nat) (h:g' < cn o'):Ey β o (cn o) v o' g'=β o' g':=by
 simp only[Ey]
 split
 ·rename_i hh;obtain⟨rfl,rfl⟩:=hh;omega
 ·rfl
structure Iv (v:Value) (w w':World):Prop where
 os:w'.os=w.os
 tape:w'.tape=w.tape
 output:w'.output=w.output
 size:w.heap.size<=w'.heap.size
 block:∀k,k<w.heap.size->¬Cm v k->w'.heap[k]?=w.heap[k]?
theorem Iv.of_below {w w':World}(v:Value) (h:Below w.heap.size w w'):Iv v w w':=⟨h.os,h.tape,h.output,h.size,fun k hk _=>h.block k hk⟩
theorem BI.fresh {E:CB}{c:C4}{β:Nat->Nat->Value}{s:A1}{tm:Array Value}{w w':World}(h:BI E c β s tm w) {o:Nat}{x:Ah}{vo:Value}(hlim:o<D7)
  (hw:Iv vo w w') (hb:∀b,Cm vo b->b<w'.heap.size/\(w.heap.size<=b\/∃g x,s.V.ob o=some (g,x)/\Cm (β o g) b))
  (ho:∀β' fb',β'=Ey β o (s.V.cn o) vo->fb'=(c.bar β' (s.V.app (.fresh o x)))->(∀b,b<w.heap.size->fb' b->c.bar β s.V b) ->
   Dj w' fb' β' (s.V.app (.fresh o x)).cn x vo) (hnh:x.isHist=false:=by rfl) :
  BI E c (Ey β o (s.V.cn o) vo) { s with V:=s.V.app (.fresh o x) } tm w':=by
 have hob:(s.V.app (.fresh o x)).ob=Bs s.V.ob o (some (s.V.cn o,x)):=rfl
 have hcn:(s.V.app (.fresh o x)).cn=Bs s.V.cn o (s.V.cn o+1):=rfl
 have hle:∀k,s.V.cn k<=(s.V.app (.fresh o x)).cn k:=fun k=>by rw[hcn];simp only[Bs];split<;>simp_all
 have hβ:∀k g,g<s.V.cn k->Ey β o (s.V.cn o) vo k g=β k g:=fun k g hk=>Dm k g hk
 have hbar:∀b,b<w.heap.size->c.bar (Ey β o (s.V.cn o) vo) (s.V.app (.fresh o x)) b->c.bar β s.V b:=by
  intro b hlt hh
  rcases hh with hh|⟨o',g',x',h1,h2⟩
  ·exact .inl hh
  ·rw[hob] at h1
   simp only[Bs] at h1
   split at h1
   ·rename_i heq
    simp only[Option.some.injEq,Prod.mk.injEq] at h1
    obtain⟨rfl,rfl⟩:=h1
    subst heq
    rw[BJ] at h2
    rcases (hb b h2).2 with h3|⟨g,x,h3,h4⟩
    ·omega
    ·exact .inr ⟨_,g,x,h3,h4⟩
   ·have:=(h.objs o' g' x' h1).1
    rw[Dm o' g' this] at h2
    exact .inr ⟨o',g',x',h1,h2⟩
 have hst:Am (c.bar β s.V) w w':=by
  intro b hn hlt
  refine hw.block b hlt fun he=>?_
  rcases (hb b he).2 with h3|⟨g,x,h3,h4⟩
  ·omega
  ·exact hn (.inr ⟨o,g,x,h3,h4⟩)
 refine⟨⟨hw.os.trans h.keep.os,hw.tape.trans h.keep.tape,hw.output.trans h.keep.output,Nat.le_trans h.keep.size hw.size,fun k hk hm=>?_⟩,h.low,?_,fun t=>?_,fun o' g' x' hx=>?_,?_,?_,?_,fun o1 g1 els n st h1=>?_⟩
 ·rw[←h.keep.block k hk hm]
  refine hw.block k (Nat.lt_of_lt_of_le hk h.keep.size) fun he=>?_
  rcases (hb k he).2 with h3|⟨g,x,h3,h4⟩
  ·have:=h.keep.size;omega
  ·rcases (h.home o g x k h3 h4).2.1 with h5|h5
   ·omega
   ·exact hm h5
 ·intro g cs hg
  exact(h.glob g cs hg).mono hst hbar
 ·exact(h.slots t).mono hst hbar hβ hle
 ·rw[hob] at hx
  simp only[Bs] at hx
  split at hx
  ·rename_i heq
   simp only[Option.some.injEq,Prod.mk.injEq] at hx
   obtain⟨rfl,rfl⟩:=hx
   subst heq
   rw[BJ]
   exact⟨by rw[hcn];simp[Bs],ho _ _ rfl rfl hbar⟩
  ·rename_i hne
   obtain⟨h1,h2⟩:=h.objs o' g' x' hx
   rw[Dm o' g' h1]
   refine⟨Nat.lt_of_lt_of_le h1 (hle _),h2.mono hst hbar hβ hle fun b hbb hlt=>hw.block b hlt fun he=>?_⟩
   rcases (hb b he).2 with h3|⟨g,x,h3,h4⟩
   ·omega
   ·exact hne (h.sep o' o g' g x' x b hx h3 hbb h4)
 ·intro o1 o2 g1 g2 x1 x2 b h1 h2 h3 h4
  rw[hob] at h1 h2
  simp only[Bs] at h1 h2
  split at h1<;>split at h2
  ·simp_all
  ·rename_i e1 e2
   simp only[Option.some.injEq,Prod.mk.injEq] at h1
   obtain⟨rfl,rfl⟩:=h1
   subst e1
   rw[BJ] at h3
   have h5:=(h.objs _ _ _ h2).1
   rw[Dm _ _ h5] at h4
   rcases (hb b h3).2 with h6|⟨g,x,h6,h7⟩
   ·have:=(h.home _ _ _ b h2 h4).1;omega
   ·exact(h.sep _ _ _ _ _ _ b h6 h2 h7 h4)
  ·rename_i e1 e2
   simp only[Option.some.injEq,Prod.mk.injEq] at h2
   obtain⟨rfl,rfl⟩:=h2
   subst e2
   rw[BJ] at h4
   have h5:=(h.objs _ _ _ h1).1
   rw[Dm _ _ h5] at h3
   rcases (hb b h4).2 with h6|⟨g,x,h6,h7⟩
   ·have:=(h.home _ _ _ b h1 h3).1;omega
   ·exact(h.sep _ _ _ _ _ _ b h1 h6 h3 h7)
  ·have h5:=(h.objs _ _ _ h1).1
   have h6:=(h.objs _ _ _ h2).1
   rw[Dm _ _ h5] at h3
   rw[Dm _ _ h6] at h4
   exact h.sep _ _ _ _ _ _ b h1 h2 h3 h4
 ·intro o1 g1 x1 b h1 h2
  rw[hob] at h1
  simp only[Bs] at h1
  split at h1
  ·rename_i e1
   simp only[Option.some.injEq,Prod.mk.injEq] at h1
   obtain⟨rfl,rfl⟩:=h1
   subst e1
   rw[BJ] at h2
   obtain⟨h3,h4⟩:=hb b h2
   refine⟨h3,?_⟩
   rcases h4 with h4|⟨g,x,h4,h5⟩
   ·refine⟨.inl (Nat.le_trans h.keep.size h4),fun hf=>?_⟩
    have:=(h.low b hf).1
    have:=h.keep.size
    omega
   ·exact(h.home _ g x b h4 h5).2
  ·have h3:=(h.objs _ _ _ h1).1
   rw[Dm _ _ h3] at h2
   obtain⟨h4,h5⟩:=h.home _ _ _ b h1 h2
   exact⟨Nat.lt_of_lt_of_le h4 hw.size,h5⟩
 ·intro o1 g1 x1 ho1 h1
  rw[hob] at h1
  simp only[Bs] at h1
  split at h1
  ·rename_i e1;subst e1;omega
  ·rw[Dm _ _ (h.objs _ _ _ h1).1];exact h.pin _ _ _ ho1 h1
 ·rw[hob] at h1
  simp only[Bs] at h1
  split at h1
  ·simp only[Option.some.injEq,Prod.mk.injEq] at h1
   rw[h1.2] at hnh;cases hnh
  ·rw[Dm _ _ (h.objs _ _ _ h1).1];exact h.hist _ _ _ _ _ h1
theorem BI.fresh2 {E:CB}{c:C4}{β:Nat->Nat->Value}{s:A1}{tm:Array Value}{w w':World}(h:BI E c β s tm w) {o:Nat}(q:Nat) {x:Ah}{vo:Value}(hlim:o<D7)
  (hw:Iv vo w w') (hb:∀b,Cm vo b->b<w'.heap.size/\(w.heap.size<=b\/∃o1 g x,(o1=o\/o1=q)/\s.V.ob o1=some (g,x)/\Cm (β o1 g) b))
  (ho:∀β' fb',β'=Ey β o (s.V.cn o) vo->fb'=(c.bar β' ((AN.mk (Bs s.V.ob q none) s.V.cn).app (.fresh o x)))->(∀b,b<w.heap.size->fb' b->c.bar β s.V b) ->
   Dj w' fb' β' ((AN.mk (Bs s.V.ob q none) s.V.cn).app (.fresh o x)).cn x vo) (hnh:x.isHist=false:=by rfl) :
  BI E c (Ey β o (s.V.cn o) vo) { s with V:=(AN.mk (Bs s.V.ob q none) s.V.cn).app (.fresh o x) } tm w':=by
 obtain⟨V',hV'⟩:∃V',V'=(AN.mk (Bs s.V.ob q none) s.V.cn).app (.fresh o x):=⟨_,rfl⟩
 rw[←hV'] at ho ⊢
 have hcn:V'.cn=Bs s.V.cn o (s.V.cn o+1):=by rw[hV'];rfl
 have hnew:∀y,V'.ob o=some y->y=(s.V.cn o,x):=fun y hy=>by
  rw[hV'] at hy;simp[AN.app,Bs] at hy;exact hy.symm
 have hold:∀o' y,o'≠o->V'.ob o'=some y->s.V.ob o'=some y/\o'≠q:=fun o' y hne hy=>by
  rw[hV'] at hy
  simp only[AN.app,Bs,hne,if_false] at hy
  split at hy
  ·cases hy
  ·rename_i hq;exact⟨hy,hq⟩
 have hle:∀k,s.V.cn k<=V'.cn k:=fun k=>by rw[hcn];simp only[Bs];split<;>simp_all
 have hβ:∀k g,g<s.V.cn k->Ey β o (s.V.cn o) vo k g=β k g:=fun k g hk=>Dm k g hk
 have hown:∀b,Cm vo b->b<w.heap.size->C_ β s.V b:=fun b hbb hlt=>by
  rcases (hb b hbb).2 with h3|⟨o1,g,x,_,h3,h4⟩
  ·omega
  ·exact⟨o1,g,x,h3,h4⟩
 have hbar:∀b,b<w.heap.size->c.bar (Ey β o (s.V.cn o) vo) V' b->c.bar β s.V b:=by
  intro b hlt hh
  rcases hh with hh|⟨o',g',x',h1,h2⟩
  ·exact .inl hh
  ·by_cases he:o'=o
   ·subst he
    have:=hnew _ h1
    simp only[Prod.mk.injEq] at this
    obtain⟨rfl,rfl⟩:=this
    rw[BJ] at h2
    exact .inr (hown b h2 hlt)
   ·obtain⟨h3,_⟩:=hold _ _ he h1
    rw[hβ o' g' (h.objs o' g' x' h3).1] at h2
    exact .inr ⟨o',g',x',h3,h2⟩
 have hst:Am (c.bar β s.V) w w':=fun b hn hlt=>hw.block b hlt fun he=>hn (.inr (hown b he hlt))
 refine⟨⟨hw.os.trans h.keep.os,hw.tape.trans h.keep.tape,hw.output.trans h.keep.output,Nat.le_trans h.keep.size hw.size,fun k hk hm=>?_⟩,h.low,fun g cs hg=>(h.glob g cs hg).mono hst hbar,fun t=>(h.slots t).mono hst hbar hβ hle,fun o' g' x' hx=>?_,?_,?_,?_,fun o1 g1 els n st h1=>?_⟩
 ·rw[←h.keep.block k hk hm]
  refine hw.block k (Nat.lt_of_lt_of_le hk h.keep.size) fun he=>?_
  obtain⟨o1,g,x,h3,h4⟩:=hown k he (Nat.lt_of_lt_of_le hk h.keep.size)
  rcases (h.home o1 g x k h3 h4).2.1 with h5|h5
  ·omega
  ·exact hm h5
 ·show g' < V'.cn o'/\Dj w' (c.bar _ V') _ V'.cn x' _
  by_cases he:o'=o
  ·subst he
   have:=hnew _ hx
   simp only[Prod.mk.injEq] at this
   obtain⟨rfl,rfl⟩:=this
   rw[BJ]
   exact⟨by rw[hcn];simp[Bs],ho _ _ rfl rfl hbar⟩
  ·obtain⟨h3,hq⟩:=hold _ _ he hx
   obtain⟨h1,h2⟩:=h.objs o' g' x' h3
   rw[hβ o' g' h1]
   refine⟨Nat.lt_of_lt_of_le h1 (hle _),h2.mono hst hbar hβ hle fun b hbb hlt=>hw.block b hlt fun hv=>?_⟩
   rcases (hb b hv).2 with h4|⟨o1,g,x,h6,h4,h5⟩
   ·omega
   ·have:=h.sep o' o1 g' g x' x b h3 h4 hbb h5
    rcases h6 with h6|h6
    ·exact he (this.trans h6)
    ·exact hq (this.trans h6)
 ·intro o1 o2 g1 g2 x1 x2 b h1 h2 h3 h4
  have one:∀{o2 g2 x2},o2≠o->V'.ob o2=some (g2,x2)->Cm vo b->Cm (Ey β o (s.V.cn o) vo o2 g2) b->False:=fun {o2 g2 x2} hne k1 k2 k3=>by
   obtain⟨k4,hq⟩:=hold _ _ hne k1
   rw[hβ _ _ (h.objs _ _ _ k4).1] at k3
   rcases (hb b k2).2 with h6|⟨o3,g,x,h8,h6,h7⟩
   ·have:=(h.home _ _ _ b k4 k3).1;omega
   ·have:=h.sep _ _ _ _ _ _ b k4 h6 k3 h7
    rcases h8 with h8|h8
    ·exact hne (this.trans h8)
    ·exact hq (this.trans h8)
  by_cases e1:o1=o<;>by_cases e2:o2=o
  ·rw[e1,e2]
  ·have:=hnew _ (by rw[←e1];exact h1)
   simp only[Prod.mk.injEq] at this
   rw[e1,this.1,BJ] at h3
   exact(one e2 h2 h3 h4).elim
  ·have:=hnew _ (by rw[←e2];exact h2)
   simp only[Prod.mk.injEq] at this
   rw[e2,this.1,BJ] at h4
   exact(one e1 h1 h4 h3).elim
  ·obtain⟨k1,_⟩:=hold _ _ e1 h1
   obtain⟨k2,_⟩:=hold _ _ e2 h2
   rw[hβ _ _ (h.objs _ _ _ k1).1] at h3
   rw[hβ _ _ (h.objs _ _ _ k2).1] at h4
   exact h.sep _ _ _ _ _ _ b k1 k2 h3 h4
 ·intro o1 g1 x1 b h1 h2
  by_cases e1:o1=o
  ·have:=hnew _ (by rw[←e1];exact h1)
   simp only[Prod.mk.injEq] at this
   rw[e1,this.1,BJ] at h2
   obtain⟨h3,h4⟩:=hb b h2
   refine⟨h3,?_⟩
   rcases h4 with h4|⟨o1,g,x,_,h4,h5⟩
   ·refine⟨.inl (Nat.le_trans h.keep.size h4),fun hf=>?_⟩
    have:=(h.low b hf).1
    have:=h.keep.size
    omega
   ·exact(h.home _ g x b h4 h5).2
  ·obtain⟨k1,_⟩:=hold _ _ e1 h1
   rw[hβ _ _ (h.objs _ _ _ k1).1] at h2
   obtain⟨h4,h5⟩:=h.home _ _ _ b k1 h2
   exact⟨Nat.lt_of_lt_of_le h4 hw.size,h5⟩
 ·intro o1 g1 x1 ho1 h1
  have e1:o1≠o:=by omega
  obtain⟨k1,_⟩:=hold _ _ e1 h1
  rw[hβ _ _ (h.objs _ _ _ k1).1];exact h.pin _ _ _ ho1 k1
 ·by_cases e1:o1=o
  ·have:=hnew _ (by rw[←e1];exact h1)
   simp only[Prod.mk.injEq] at this
   rw[←this.2] at hnh;cases hnh
  ·obtain⟨k1,_⟩:=hold _ _ e1 h1
   rw[hβ _ _ (h.objs _ _ _ k1).1];exact h.hist _ _ _ _ _ k1
theorem BI.kept {E:CB}{c:C4}{β:Nat->Nat->Value}{s:A1}{tm:Array Value}{w w':World}(h:BI E c β s tm w) {o g:Nat}{x x0:Ah}
  (hx0:s.V.ob o=some (g,x0)) (hw:Iv (β o g) w w')
  (ho:∀fb',(∀b,b<w.heap.size->fb' b->c.bar β s.V b)->fb'=c.bar β (s.V.app (.keep o g x))->Dj w' fb' β s.V.cn x (β o g)) (hnh:x.isHist=false:=by rfl) :
  BI E c β { s with V:=s.V.app (.keep o g x) } tm w':=by
 have hob:(s.V.app (.keep o g x)).ob=Bs s.V.ob o (some (g,x)):=rfl
 have hcn:(s.V.app (.keep o g x)).cn=s.V.cn:=rfl
 have hback:∀o1 g1 x1,(s.V.app (.keep o g x)).ob o1=some (g1,x1)->∃x2,s.V.ob o1=some (g1,x2):=by
  intro o1 g1 x1 h1
  rw[hob] at h1
  simp only[Bs] at h1
  split at h1
  ·rename_i e1;subst e1
   simp only[Option.some.injEq,Prod.mk.injEq] at h1
   obtain⟨rfl,rfl⟩:=h1
   exact⟨x0,hx0⟩
  ·exact⟨x1,h1⟩
 have hbar:∀b,c.bar β (s.V.app (.keep o g x)) b->c.bar β s.V b:=by
  intro b hh
  rcases hh with hh|⟨o',g',x',h1,h2⟩
  ·exact .inl hh
  ·obtain⟨x2,h3⟩:=hback _ _ _ h1
   exact .inr ⟨o',g',x2,h3,h2⟩
 have hst:Am (c.bar β s.V) w w':=fun b hn hlt=>hw.block b hlt fun he=>hn (.inr ⟨o,g,x0,hx0,he⟩)
 refine⟨⟨hw.os.trans h.keep.os,hw.tape.trans h.keep.tape,hw.output.trans h.keep.output,Nat.le_trans h.keep.size hw.size,fun k hk hm=>?_⟩,h.low,fun g cs hg=>(h.glob g cs hg).mono hst fun b _=>hbar b,fun t=>?_,fun o' g' x' hx=>?_,?_,?_,?_,fun o1 g1 els n st h1=>?_⟩
 ·rw[←h.keep.block k hk hm]
  refine hw.block k (Nat.lt_of_lt_of_le hk h.keep.size) fun he=>?_
  rcases (h.home o g x0 k hx0 he).2.1 with h5|h5
  ·omega
  ·exact hm h5
 ·exact(h.slots t).mono hst (fun b _=>hbar b) (fun _ _ _=>rfl) (fun _=>Nat.le_refl _)
 ·rw[hob] at hx
  simp only[Bs] at hx
  split at hx
  ·rename_i e1;subst e1
   simp only[Option.some.injEq,Prod.mk.injEq] at hx
   obtain⟨rfl,rfl⟩:=hx
   exact⟨(h.objs _ _ _ hx0).1,ho _ (fun b _=>hbar b) rfl⟩
  ·rename_i hne
   obtain⟨h1,h2⟩:=h.objs o' g' x' hx
   exact⟨h1,h2.mono hst (fun b _=>hbar b) (fun _ _ _=>rfl) (fun _=>Nat.le_refl _) fun b hbb hlt=>hw.block b hlt fun he=>hne (h.sep o' o g' g x' x0 b hx hx0 hbb he)⟩
 ·intro o1 o2 g1 g2 x1 x2 b h1 h2 h3 h4
  obtain⟨y1,k1⟩:=hback _ _ _ h1
  obtain⟨y2,k2⟩:=hback _ _ _ h2
  exact h.sep _ _ _ _ _ _ b k1 k2 h3 h4
 ·intro o1 g1 x1 b h1 h2
  obtain⟨y1,k1⟩:=hback _ _ _ h1
  obtain⟨h4,h5⟩:=h.home _ _ _ b k1 h2
  exact⟨Nat.lt_of_lt_of_le h4 hw.size,h5⟩
 ·intro o1 g1 x1 ho1 h1
  obtain⟨y1,k1⟩:=hback _ _ _ h1
  exact h.pin _ _ _ ho1 k1
 ·rw[hob] at h1
  simp only[Bs] at h1
  split at h1
  ·simp only[Option.some.injEq,Prod.mk.injEq] at h1
   rw[h1.2] at hnh;cases hnh
  ·exact h.hist _ _ _ _ _ h1
theorem BI.absorb {E:CB}{c:C4}{β:Nat->Nat->Value}{s:A1}{tm:Array Value}{w w':World}(h:BI E c β s tm w) {o g q p:Nat}{x x0 y:Ah}{l us:List Value}
  (hx0:s.V.ob o=some (g,x0)) (hq0:s.V.ob q=some (p,y)) (hoq:o≠q) (hol:o<D7) (hv:β o g=.tuple l.toArray) (hw:Iv (.tuple l.toArray) w w')
  (hb:∀b u,u∈us->Ay u=some b->Cm (β q p) b)
  (ho:∀β' fb',(∀b,b<w.heap.size->fb' b->c.bar β s.V b)->Dj w' fb' β' s.V.cn x (.tuple (l++us).toArray)) (hnh:x.isHist=false:=by rfl) :
  BI E c (Ey β o g (.tuple (l++us).toArray)) { s with V:=(AN.mk (Bs s.V.ob q none) s.V.cn).app (.keep o g x) } tm w':=by
 obtain⟨V',hV'⟩:∃V',V'=(AN.mk (Bs s.V.ob q none) s.V.cn).app (.keep o g x):=⟨_,rfl⟩
 obtain⟨T,hT⟩:∃T,T=Value.tuple (l++us).toArray:=⟨_,rfl⟩
 rw[←hT] at ho
 rw[←hV',←hT]
 have hcn:V'.cn=s.V.cn:=by rw[hV'];rfl
 have hnew:∀z,V'.ob o=some z->z=(g,x):=fun z hz=>by
  rw[hV'] at hz;simp[AN.app,Bs] at hz;exact hz.symm
 have hold:∀o' z,o'≠o->V'.ob o'=some z->s.V.ob o'=some z/\o'≠q:=fun o' z hne hz=>by
  rw[hV'] at hz
  simp only[AN.app,Bs,hne,if_false] at hz
  split at hz
  ·cases hz
  ·rename_i hq;exact⟨hz,hq⟩
 have hβ:∀k m,m<s.V.cn k->rk β (Ey β o g T) k m:=fun k m _=>by
  unfold rk
  simp only[Ey]
  split
  ·rename_i hh;obtain⟨rfl,rfl⟩:=hh
   exact .inr ⟨l,us,hv,hT⟩
  ·exact .inl rfl
 have hβo:∀k m,k≠o->Ey β o g T k m=β k m:=fun k m hk=>by simp[Ey,hk]
 have hbl:∀b,Cm T b->Cm (β o g) b\/Cm (β q p) b:=fun b hbb=>by
  rw[hT] at hbb
  obtain⟨i,u,hi,hu⟩:=hbb
  rw[List.getElem?_toArray] at hi
  by_cases hil:i<l.length
  ·rw[List.getElem?_append_left hil] at hi
   exact .inl (by rw[hv];exact⟨i,u,by rw[List.getElem?_toArray];exact hi,hu⟩)
  ·rw[List.getElem?_append_right (by omega)] at hi
   exact .inr (hb b u (List.mem_of_getElem? hi) hu)
 have hbar:∀b,c.bar (Ey β o g T) V' b->c.bar β s.V b:=by
  intro b hh
  rcases hh with hh|⟨o',g',x',h1,h2⟩
  ·exact .inl hh
  ·by_cases he:o'=o
   ·subst he
    have:=hnew _ h1
    simp only[Prod.mk.injEq] at this
    obtain⟨rfl,rfl⟩:=this
    rw[BJ] at h2
    rcases hbl b h2 with h3|h3
    ·exact .inr ⟨_,_,_,hx0,h3⟩
    ·exact .inr ⟨_,_,_,hq0,h3⟩
   ·rw[hβo _ _ he] at h2
    exact .inr ⟨o',g',x',(hold _ _ he h1).1,h2⟩
 have hst:Am (c.bar β s.V) w w':=fun b hn hlt=>hw.block b hlt fun he=>hn (.inr ⟨o,g,x0,hx0,by rw[hv];exact he⟩)
 have hown:∀b,Cm T b->∃o1 g1 x1,(o1=o\/o1=q)/\s.V.ob o1=some (g1,x1)/\Cm (β o1 g1) b:=fun b hbb =>
  (hbl b hbb).elim (fun h3=>⟨_,_,_,.inl rfl,hx0,h3⟩) fun h3=>⟨_,_,_,.inr rfl,hq0,h3⟩
 refine⟨⟨hw.os.trans h.keep.os,hw.tape.trans h.keep.tape,hw.output.trans h.keep.output,Nat.le_trans h.keep.size hw.size,fun k hk hm=>?_⟩,h.low,fun g cs hg=>(h.glob g cs hg).mono hst fun b _=>hbar b,fun t=>?_,fun o' g' x' hx=>?_,?_,?_,?_,fun o1 g1 els n st h1=>?_⟩
 ·rw[←h.keep.block k hk hm]
  refine hw.block k (Nat.lt_of_lt_of_le hk h.keep.size) fun he=>?_
  rcases (h.home o g x0 k hx0 (by rw[hv];exact he)).2.1 with h5|h5
  ·omega
  ·exact hm h5
 ·show AY w' (c.bar _ V') _ V'.cn _ _
  rw[hcn]
  exact(h.slots t).monoE hst (fun b _=>hbar b) hβ (fun _=>Nat.le_refl _)
 ·show g' < V'.cn o'/\Dj w' (c.bar _ V') _ V'.cn x' _
  rw[hcn]
  by_cases he:o'=o
  ·subst he
   have:=hnew _ hx
   simp only[Prod.mk.injEq] at this
   obtain⟨rfl,rfl⟩:=this
   rw[BJ]
   exact⟨(h.objs _ _ _ hx0).1,ho _ _ fun b _=>hbar b⟩
  ·obtain⟨h3,hq⟩:=hold _ _ he hx
   obtain⟨h1,h2⟩:=h.objs o' g' x' h3
   rw[hβo _ _ he]
   exact⟨h1,h2.monoE hst (fun b _=>hbar b) hβ (fun _=>Nat.le_refl _) fun b hbb hlt=>hw.block b hlt fun hv2=>he (h.sep o' o g' g x' x0 b h3 hx0 hbb (by rw[hv];exact hv2))⟩
 ·intro o1 o2 g1 g2 x1 x2 b h1 h2 h3 h4
  have one:∀{o2 g2 x2},o2≠o->V'.ob o2=some (g2,x2)->Cm T b->Cm (Ey β o g T o2 g2) b->False:=fun {o2 g2 x2} hne k1 k2 k3=>by
   obtain⟨k4,hq⟩:=hold _ _ hne k1
   rw[hβo _ _ hne] at k3
   obtain⟨o3,g3,x3,h8,h6,h7⟩:=hown b k2
   have:=h.sep _ _ _ _ _ _ b k4 h6 k3 h7
   rcases h8 with h8|h8
   ·exact hne (this.trans h8)
   ·exact hq (this.trans h8)
  by_cases e1:o1=o<;>by_cases e2:o2=o
  ·rw[e1,e2]
  ·have:=hnew _ (by rw[←e1];exact h1)
   simp only[Prod.mk.injEq] at this
   rw[e1,this.1,BJ] at h3
   exact(one e2 h2 h3 h4).elim
  ·have:=hnew _ (by rw[←e2];exact h2)
   simp only[Prod.mk.injEq] at this
   rw[e2,this.1,BJ] at h4
   exact(one e1 h1 h4 h3).elim
  ·obtain⟨k1,_⟩:=hold _ _ e1 h1
   obtain⟨k2,_⟩:=hold _ _ e2 h2
   rw[hβo _ _ e1] at h3
   rw[hβo _ _ e2] at h4
   exact h.sep _ _ _ _ _ _ b k1 k2 h3 h4
 ·intro o1 g1 x1 b h1 h2
  by_cases e1:o1=o
  ·have:=hnew _ (by rw[←e1];exact h1)
   simp only[Prod.mk.injEq] at this
   rw[e1,this.1,BJ] at h2
   obtain⟨o3,g3,x3,_,h6,h7⟩:=hown b h2
   obtain⟨h4,h5⟩:=h.home _ _ _ b h6 h7
   exact⟨Nat.lt_of_lt_of_le h4 hw.size,h5⟩
  ·obtain⟨k1,_⟩:=hold _ _ e1 h1
   rw[hβo _ _ e1] at h2
   obtain⟨h4,h5⟩:=h.home _ _ _ b k1 h2
   exact⟨Nat.lt_of_lt_of_le h4 hw.size,h5⟩
 ·intro o1 g1 x1 ho1 h1
  have e1:o1≠o:=by omega
  obtain⟨k1,_⟩:=hold _ _ e1 h1
  rw[hβo _ _ e1];exact h.pin _ _ _ ho1 k1
 ·by_cases e1:o1=o
  ·have:=hnew _ (by rw[←e1];exact h1)
   simp only[Prod.mk.injEq] at this
   rw[←this.2] at hnh;cases hnh
  ·obtain⟨k1,_⟩:=hold _ _ e1 h1
   rw[hβo _ _ e1];exact h.hist _ _ _ _ _ k1
theorem BI.drop {E:CB}{c:C4}{β:Nat->Nat->Value}{s:A1}{tm:Array Value}{w:World}(h:BI E c β s tm w) {s':A1}
  (hsl:s'.sl=s.sl) (hcn:s'.V.cn=s.V.cn) (hob:∀o y,s'.V.ob o=some y->s.V.ob o=some y):BI E c β s' tm w:=by
 have hbar:∀b,c.bar β s'.V b->c.bar β s.V b:=by
  intro b hh
  rcases hh with hh|⟨o',g',x',h1,h2⟩
  ·exact .inl hh
  ·exact .inr ⟨o',g',x',hob _ _ h1,h2⟩
 refine⟨h.keep,h.low,fun g cs hg=>(h.glob g cs hg).mono (Am.refl _ _) fun b _=>hbar b,fun t=>?_,fun o' g' x' hx=>?_,fun o1 o2 g1 g2 x1 x2 b h1 h2=>h.sep _ _ _ _ _ _ b (hob _ _ h1) (hob _ _ h2),fun o g x b hx=>h.home o g x b (hob _ _ hx),fun o g x ho hx=>h.pin o g x ho (hob _ _ hx),fun o g els n st hx=>h.hist o g els n st (hob _ _ hx)⟩
 ·rw[hsl,hcn];exact(h.slots t).mono (Am.refl _ _) (fun b _=>hbar b) (fun _ _ _=>rfl) (fun _=>Nat.le_refl _)
 ·obtain⟨h1,h2⟩:=h.objs o' g' x' (hob _ _ hx)
  rw[hcn]
  exact⟨h1,h2.mono (Am.refl _ _) (fun b _=>hbar b) (fun _ _ _=>rfl) (fun _=>Nat.le_refl _) fun _ _ _=>rfl⟩
theorem AN.get_some {V:AN}{o g:Nat}{x:Ah}(h:V.get o g=some x):V.ob o=some (g,x):=by
 unfold AN.get at h
 split at h
 ·rename_i g' x' hh
  split at h
  ·rename_i e;subst e;simp_all
  ·cases h
 ·cases h
theorem AY.own_new {w:World}{fb:Nat->Prop}{β:Nat->Nat->Value}{cn cn':Nat->Nat}{o:Nat}{v:Value}(hv:v.oneCell'=true) (hcn:cn o<cn' o):AY w fb (Ey β o (cn o) v) cn' (.own o (cn o)) v:=by
 have:=AY.own (w:=w) (fb:=fb) (β:=Ey β o (cn o) v) (cn:=cn') o (cn o) hcn (by rw[BJ];exact hv)
 rwa [BJ] at this
theorem AY.oneCell {w:World}{fb:Nat->Prop}{β:Nat->Nat->Value}{cn:Nat->Nat}{a:AV}{v:Value}(h:AY w fb β cn a v) (h1:a.one=true):v.oneCell'=true:=by
 cases h with
 |d x v h=>exact h.oneCell h1
 |own o g hg hh=>exact hh
 |map o g hg hh=>exact hh
 |mref k o g u hg hh h2=>exact h2
 |ablk sl cs off b base vs u hb hne h1 hc hv hu=>subst hu;cases sl<;>rfl
 |_=>first|rfl|simp[AV.one] at h1
theorem Io (V:AN) (o:Nat) (x:Ah):V.cn o<(V.app (.fresh o x)).cn o:=by simp[AN.app,Bs]
end Go.Pw
end
section
namespace Go.Pw
def sP (k:IntKind) (n:Int):Bool:=decide (k.min<=n) && decide (n<=k.max)
def P':Value->Option D
 |.int k n=>if sP k n then some (.int k n) else none
 |.bool b=>some (.bool b)
 |.slice none 0 0=>some (.list true [])
 |.pointer none=>some .nilptr
 |.map none=>some .nilmap
 |.nilFunc=>some .nilfn
 |_=>none
def Uw (E:CB):Operand->Option Jq
 |.tmp t=>some (.t t)
 |.const v=>(P' v).map fun d=>.k (.d d)
 |.global g=>(E.G g).map fun cs=>.k (.d (.ptr cs))
 |.func f=>some (.k (.fn f []))
def EY (P:Program) (t:TypeId):Option Nat:=(P.info? t).map (·.size)
def Gy (P:Program) (t:TypeId):Option Bool :=
 match P.underlying t with
 |some (.struct _)|some (.array _ _)=>some true
 |some _=>some false
 |none=>none
def I5 (P:Program) (t:TypeId):Option (List D) :=
 match (P.info? t).bind (·.zero) with
 |some v=>Ax P' v.cells.toList
 |none=>none
def JT (P:Program) (t:TypeId):Option D :=
 match (P.info? t).bind (·.zero) with
 |some (.agg cs)=>(Ax P' cs.toList).map .agg
 |some v=>P' v
 |none=>none
def Wv (E:CB) (xs:List Operand):Option (List Jq):=Ax (Uw E) xs
def R0 (E:CB) (draw:Bool) (b:Builtin) (argTypes:Array TypeId) (args:List Operand):Option (B5×List Operand) :=
 let P:=E.P
 match b with
 |.len=>match args with
  |[x]=>match (argTypes[0]?).bind P.underlying with
   |some (.slice _)=>some (.len false,[x])
   |some (.map ..)=>some (.len true,[x])
   |_=>none
  |_=>none
 |.cap=>match args with
  |[x]=>match (argTypes[0]?).bind P.underlying with
   |some (.slice _)=>some (.cap,[x])
   |_=>none
  |_=>none
 |.min=>match args with
  |x::xs=>some (.minmax false,x::xs)
  |_=>none
 |.max=>match args with
  |x::xs=>some (.minmax true,x::xs)
  |_=>none
 |.append=>match args with
  |[x,y]=>match (argTypes[0]?).bind P.underlying,(argTypes[1]?).bind P.underlying with
   |some (.slice e),some ty=>match P.info? e,JT P e with
    |some i,some z=>if 0<i.size/\i.bytes<=65536/\(i.zero.map (·.cells.size))=some i.size then (match ty with
     |.slice e'=>if e=e' then some (.app e i.size none (!draw),[x,y]) else none
     |.int .i64=>if z.cells.length=i.size then some (.app e i.size (some z) (!draw),[x,y]) else none
     |_=>none) else none
    |_,_=>none
   |_,_=>none
  |_=>none
 |_=>none
def JN (E:CB) (draw:Bool) (c:Call):Option (B5×List Operand) :=
 match c.callee with
 |.value (.func f)=>if BL E.P f then some (.call f,c.args.toList) else none
 |.value x=>some (.callv,x::c.args.toList)
 |.builtin b=>R0 E draw b c.argTypes c.args.toList
 |_=>none
def lp:BinOp->Option Bool
 |.eql=>some false
 |.neq=>some true
 |_=>none
def iO (E:CB) (b:BinOp) (t:TypeId) (x y:Operand):Option (B5×List Operand) :=
 match E.P.underlying t with
 |some (.int _)=>some (.bin b,[x,y])
 |some .bool=>(lp b).map fun n=>(.beq n,[x,y])
 |some (.slice _)=>(lp b).map fun n=>(.eqnil n,[x,y])
 |_=>none
def Ww (E:CB) (draw:Bool) (used:Bool) (op:Op):Option (B5×List Operand) :=
 let P:=E.P
 match op with
 |.move x|.assign x=>some (.mov,[x])
 |.pick c a b=>some (.pick,[c,a,b])
 |.box _ x=>some (.box,[x])
 |.alloc e=>(I5 P e).map fun cs=>(.zero cs,[])
 |.build t parts=>match I5 P t,P.underlying t with
  |some z,some (.struct fs) =>
   match fs.toList.mapM (fun f=>(P.info? f.type).map fun i=>(f.offset,i.size)) with
   |some places=>(match Ax (fun(p:Nat×Operand)=>places[p.1]?) parts.toList with
    |some pl=>some (.build z pl,parts.toList.map (·.2))
    |none=>none)
   |none=>none
  |some z,some (.array _ e)=>match EY P e with
   |some s=>some (.build z (parts.toList.map fun p=>(p.1*s,s)),parts.toList.map (·.2))
   |none=>none
  |_,_=>none
 |.buildSlice t len parts=>match P.underlying t with
  |some (.slice e)=>match JT P e,EY P e with
   |some z,some s=>if 0<s/\s=z.cells.length/\len*s<=16777216 then
     some (if used && !draw then .mkrowO e s z len (parts.toList.map (·.1)) else .mkrow s z len (parts.toList.map (·.1)),parts.toList.map (·.2)) else none
   |_,_=>none
  |_=>none
 |.load t a=>match Gy P t,EY P t with
  |some ag,some n=>if 0<n/\(ag\/n=1) then some (.load ag n,[a]) else none
  |_,_=>none
 |.store t a x=>match EY P t with
  |some n=>if 0<n then some (.store n,[a,x]) else none
  |none=>none
 |.nilCheck x=>some (.nilck,[x])
 |.binOp b t x y _=>iO E b t x y
 |.unOp u _ x=>some (.un u,[x])
 |.convert s t x=>match P.underlying s,P.underlying t with
  |some (.int _),some (.int k)=>some (.conv k,[x])
  |_,_=>none
 |.makeFunc (.func f) first captured=>if first.size=0/\BL P f then some (.mkfn f,captured.toList) else if captured.size=0/\BL P f then some (.mkbnd f,first.toList) else none
 |.makeSlice t l c=>match P.underlying t with
  |some (.slice e)=>match P.info? e,JT P e with
   |some i,some z=>if 0<i.size/\i.bytes<=131072/\z.cells.length=i.size then some (.mksl e i.size z (!draw),[l,c]) else none
   |_,_=>none
  |_=>none
 |.slice t x lo hi mx=>match P.underlying t with
  |some (.slice e)=>match EY P e with
   |some s=>if 0<s then some (.slice s lo.isSome hi.isSome mx.isSome,x::(lo.toList++hi.toList++mx.toList)) else none
   |none=>none
  |some (.array n e)=>match lo,mx with
   |none,none=>if EY P e=some 1/\n<=4096 then some (.slice 1 true true true,[x,hi.getD (.const (.int .i64 n)),.const (.int .i64 n)]) else none
   |_,_=>none
  |_=>none
 |.fieldAddr t x f=>match P.underlying t with
  |some (.struct fs)=>(fs[f]?).bind fun f=>match EY P f.type with
   |some n=>if 0<n then some (.faddr f.offset,[x]) else none
   |none=>none
  |_=>none
 |.field t x f=>match P.underlying t with
  |some (.struct fs)=>(fs[f]?).bind fun f=>match Gy P f.type,EY P f.type with
   |some ag,some n=>if 0<n/\(ag\/n=1) then some (.field ag f.offset n,[x]) else none
   |_,_=>none
  |_=>none
 |.indexAddr t x i=>match P.underlying t with
  |some (.slice e)=>match EY P e with
   |some s=>if 0<s then some (.iaddrS s,[x,i]) else none
   |none=>none
  |some (.array n e)=>match EY P e with
   |some s=>if 0<s then some (.iaddrA n s,[x,i]) else none
   |none=>none
  |_=>none
 |.index t x i=>match P.underlying t with
  |some (.array n e)=>match Gy P e,EY P e with
   |some ag,some s=>if 0<s/\(ag\/s=1) then some (.index n s ag,[x,i]) else none
   |_,_=>none
  |_=>none
 |.extract x i=>some (.extract i,[x])
 |.call c=>JN E draw c
 |_=>none
def oB (ops:List Oper) (d:Option Tmp):Bool :=
 match d with
 |some t=>ops.any fun o=>match o.op with|.assign (.tmp u)=>u == t|.store _ _ (.tmp u)=>u == t|_=>false
 |none=>false
def nY (n:Nat):Option Tmp->Bool
 |some t=>decide (t<n)
 |none=>true
def rA (n:Nat) (ops:List Oper):Option (Nat×Bool)->Option (Option (Nat×Bool))
 |none=>some none
 |some (j,b)=>match (ops[j]?).bind (·.dst) with
  |some t=>if t<n then some (some (t,b)) else none
  |none=>none
def q8 (fl:List Nat):Option Tmp->Bool
 |some t=>fl.contains t
 |none=>false
def O9 (E:CB) (draw:Bool) (fl:List Nat) (n:Nat) (ops:List Oper) (o:Oper):Option EX :=
 match Ww E (draw != q8 fl o.dst) (oB ops o.dst || q8 fl o.dst) o.op with
 |none=>none
 |some (op,xs)=>match Wv E xs with
  |none=>none
  |some ys=>match nY n o.dst,rA n ops o.guard with
   |true,some g=>some ⟨o.dst,g,op,ys⟩
   |_,_=>none
end Go.Pw
end
section
namespace Go.Pw
open Go.RowKit
theorem I6 (k:IntKind) (n:Int):MC k (k.wrap n):=by
 cases k<;>simp only[MC,IntKind.min,IntKind.max,IntKind.wrap,IntKind.signed,IntKind.bits]<;>simp<;>(repeat' split)<;>omega
theorem Kv {w fb} {v:Value}{d:D}(h:P' v=some d):Aw w fb d v:=by
 unfold P' at h
 split at h
 ·split at h
  ·rename_i hk;simp at h;subst h;exact .int _ _ (by simpa[sP,MC] using hk)
  ·cases h
 all_goals first|(simp at h;subst h;constructor)|cases h
def ZH (E:CB) (c:C4) (s:A1) (tm:Array Value) (K:AV->BQ->Prop) (r:Result Next):Prop :=
 (∃u w' v ch β',(r=.ok (.value u) w'\/(r=.ok .skip w'/\v=.undef))/\K v ch/\BI E c β' ⟨s.sl,s.V.app ch⟩ tm w' /\
  AY w' (c.bar β' (s.V.app ch)) β' (s.V.app ch).cn v u) \/
 (∃f args w',r=.ok (.enter f args) w'/\Calls E.P f args w' fun e w''=>∃u v ch β',e=.returned u/\K v ch/\BI E c β' ⟨s.sl,s.V.app ch⟩ tm w'' /\
  AY w'' (c.bar β' (s.V.app ch)) β' (s.V.app ch).cn v u)
section
variable {E:CB}{c:C4}{β:Nat->Nat->Value}{s:A1}{tm:Array Value}{w:World}{K:AV->BQ->Prop}
theorem B4 (h:BI E c β s tm w) {v:AV}{u:Value}{r:Result Next}(hK:K v .none) (hr:r=.ok (.value u) w) (hv:AY w (c.bar β s.V) β s.V.cn v u):ZH E c s tm K r :=
 .inl ⟨u,w,v,.none,β,.inl hr,hK,h,hv⟩
theorem A7 {fb β' cn k n} {u:Value}(h:AY w fb β' cn (.d (.int k n)) u):u=.int k n/\MC k n:=by
 cases h with|d _ _ h=>cases h with|int _ _ h=>exact⟨rfl,h⟩
theorem IC {fb β' cn b} {u:Value}(h:AY w fb β' cn (.d (.bool b)) u):u=.bool b:=by
 cases h with|d _ _ h=>cases h;rfl
theorem Ec {fb β' cn k n} (h:MC k n):AY w fb β' cn (.d (.int k n)) (.int k n):=.d _ _ (.int _ _ h)
theorem Lb {fb β' cn b}:AY w fb β' cn (.d (.bool b)) (.bool b):=.d _ _ (.bool _)
theorem jg {k:IntKind}{a b:Int}(ha:MC k a) (hb:MC k b) (h0:b≠0):MC k (a.tmod b):=by
 have h1:(a.tmod b).natAbs<=a.natAbs:=by rw[Int.natAbs_tmod];exact Nat.mod_le _ _
 have h2:0<=a->0<=a.tmod b:=fun h=>Int.tmod_nonneg b h
 have h3:a<=0->a.tmod b<=0:=fun h=>by
  have:=Int.tmod_nonneg b (show 0<=-a by omega)
  rw[Int.neg_tmod] at this;omega
 unfold MC at *
 have hmin:k.min<=0:=by cases k<;>decide
 have hmax:0<=k.max:=by cases k<;>decide
 rcases Int.le_total 0 a with h|h
 ·have:=h2 h;omega
 ·have:=h3 h;omega
theorem lX {k:IntKind}{a:Int}(ha:MC k a) (n:Nat):MC k (a.fdiv (2^n)):=by
 have hp:(0:Int)<2^n:=Int.pow_pos (by decide)
 rw[Int.fdiv_eq_ediv_of_nonneg _ (Int.le_of_lt hp)]
 unfold MC at *
 have hmin:k.min<=0:=by cases k<;>decide
 have hmax:0<=k.max:=by cases k<;>decide
 have h1:0<=a->a/2^n<=a:=fun h=>Int.ediv_le_self _ h
 have h2:0<=a->0<=a/2^n:=fun h=>Int.ediv_nonneg h (Int.le_of_lt hp)
 have h3:a<0->a/2^n<0:=fun h=>Int.ediv_neg_of_neg_of_pos h hp
 have h4:a<0->a<=a/2^n:=fun h=>by
  have:a*2^n<=a:=by
   have:a*2^n<=a*1:=Int.mul_le_mul_of_nonpos_left (by omega) (by omega)
   omega
  exact Int.le_ediv_of_mul_le hp this
 rcases Int.lt_or_le a 0 with h|h
 ·have:=h3 h;have:=h4 h;omega
 ·have:=h1 h;have:=h2 h;omega
theorem Zw (a b:Int):(a == b)=decide (a=b):=by rw[Bool.eq_iff_iff];simp
theorem aY (h:BI E c β s tm w) {op:BinOp}{t:TypeId}{x y:Operand}{k k':IntKind}{a b:Int}{u v:Value}
  (hu:AY w (c.bar β s.V) β s.V.cn (.d (.int k a)) u) (hv:AY w (c.bar β s.V) β s.V.cn (.d (.int k' b)) v)
  (he:Cf op k k' a b (K · .none)) {vo:Sem Value->Sem Next}(hvo:vo=fun s=>do pure (.value (←s))) :
  ZH E c s tm K ((vo (do eqGuard op t x y u v;binOp op t u v)).run E.P w):=by
 obtain⟨rfl,ha⟩:=A7 hu
 obtain⟨rfl,hb⟩:=A7 hv
 subst hvo
 have hg:(eqGuard op t x y (.int k a) (.int k' b)).run E.P w=.ok () w:=by
  unfold eqGuard;cases op<;>simp
 cases op<;>simp only[Cf] at he
 case shl =>
  obtain⟨h0,hK⟩:=he
  exact B4 h hK (by simp[hg,binOp,Op.shift,Int.not_lt.2 h0]) (Ec (I6 _ _))
 case shr =>
  obtain⟨h0,hK⟩:=he
  exact B4 h hK (by simp[hg,binOp,Op.shift,Int.not_lt.2 h0]) (Ec (lX ha _))
 case quo =>
  obtain⟨rfl,h0,hK⟩:=he
  exact B4 h hK (by simp[hg,binOp,Op.intDiv,h0]) (Ec (I6 _ _))
 case rem =>
  obtain⟨rfl,h0,hK⟩:=he
  exact B4 h hK (by simp[hg,binOp,Op.intDiv,h0]) (Ec (jg ha hb h0))
 all_goals (obtain⟨rfl,hK⟩:=he)
 case add|sub|mul=>exact B4 h hK (by simp[hg,binOp,Op.intArith]) (Ec (I6 _ _))
 case and|or|xor|andNot=>exact B4 h hK (by simp[hg,binOp,Op.intBits,Ai]) (Ec (I6 _ _))
 case eql=>exact B4 h hK (by simp[hg,binOp,Op.intCmp,Zw]) Lb
 case neq=>exact B4 h hK (by simp[hg,binOp,Op.intCmp,bne,Zw]) Lb
 all_goals exact B4 h hK (by simp[hg,binOp,Op.intCmp]) Lb
theorem LS {P:Program}{t:TypeId}{ag:Bool}(h:Gy P t=some ag) (w:World):(isAgg t).run P w=.ok ag w:=by
 unfold Gy at h
 split at h
 ·rename_i fs hu;simp at h;subst h;simp[isAgg,run_underlying hu]
 ·rename_i n e hu;simp at h;subst h;simp[isAgg,run_underlying hu]
 ·rename_i d h1 h2 hu
  simp at h;subst h
  simp only[isAgg,Sem.run_bind,run_underlying hu,Result.andThen_ok]
  cases d<;>simp_all
 ·cases h
theorem BS {P:Program}{t:TypeId}{n:Nat}(h:EY P t=some n) (w:World):(sizeOf t).run P w=.ok n w:=by
 unfold EY at h
 cases hi:P.info? t with
 |none=>simp[hi] at h
 |some i=>simp[hi] at h;subst h;simp[sizeOf,typeInfo,hi]
def BW {α:Type}(R:α->Value->Prop) (cs:List α) (vs:Array Value):Prop:=vs.size=cs.length/\∀(i:Nat) (c:α) (v:Value),cs[i]?=some c->vs[i]?=some v->R c v
theorem BW.extract {α:Type}{R:α->Value->Prop}{cs:List α}{vs:Array Value}(h:BW R cs vs) {off n:Nat}(hn:off+n<=cs.length) :
  BW R ((cs.drop off).take n) (vs.extract off (off+n)):=by
 obtain⟨h1,h2⟩:=h
 refine⟨by simp;omega,fun i c v hc hv=>?_⟩
 rw[List.getElem?_take] at hc
 split at hc
 ·rw[List.getElem?_drop] at hc
  rw[Array.getElem?_extract] at hv
  split at hv
  ·exact h2 _ c v hc hv
  ·cases hv
 ·cases hc
theorem I' {α:Type}{R:α->Value->Prop}(h:BI E c β s tm w) {cs:List α}{vs:Array Value}(hR:BW R cs vs) {mk:List α->AV}{one:α->AV}{t:TypeId}{ag:Bool}{n off:Nat}
  (hag:Gy E.P t=some ag) (hsz:EY E.P t=some n)
  (hmk:∀l (us:Array Value),(∀x,x∈l->x∈cs)->BW R l us->AY w (c.bar β s.V) β s.V.cn (mk l) (.agg us))
  (hone:∀x u,R x u->AY w (c.bar β s.V) β s.V.cn (one x) u)
  (he:BV ag n cs off mk one (K · .none)):∃u,(part t vs off).run E.P w=.ok u w/\∃v,K v .none/\AY w (c.bar β s.V) β s.V.cn v u:=by
 unfold BV at he
 cases ag with
 |true =>
  simp only[if_true] at he
  obtain⟨h1,h2⟩:=he
  refine⟨.agg (vs.extract off (off+n)),by simp[part,LS hag,BS hsz],_,h2,hmk _ _ (fun x hx=>List.mem_of_mem_drop (List.mem_of_mem_take hx)) (hR.extract h1)⟩
 |false =>
  simp only[Bool.false_eq_true,if_false] at he
  split at he
  ·rename_i x hx
   have hlt:off<cs.length:=(List.getElem?_eq_some_iff.1 hx).1
   obtain⟨u,hu⟩:∃u,vs[off]?=some u:=⟨_,Array.getElem?_eq_getElem (by have:=hR.1;omega)⟩
   exact⟨u,by simp[part,LS hag,hu],_,he,hone x u (hR.2 off x u hx hu)⟩
  ·exact he.elim
theorem N9 {fb β' cn cs} {u:Value}(h:AY w fb β' cn (.agg cs) u):∃vs,u=.agg vs/\BW (AY w fb β' cn) cs vs/\∀x,x∈cs->x.one=true:=by
 cases h with|agg _ vs hl h1 h=>exact⟨vs,rfl,⟨hl,h⟩,h1⟩
theorem R3 {fb β' cn cs} {u:Value}(h:AY w fb β' cn (.d (.agg cs)) u):∃vs,u=.agg vs/\BW (Aw w fb) cs vs/\∀x,x∈cs->x.one=true:=by
 cases h with|d _ _ h=>cases h with|agg _ vs hl h1 h=>exact⟨vs,rfl,⟨hl,h⟩,h1⟩
theorem M4 {fb β' cn cs vs} (h:BW (AY w fb β' cn) cs vs) (h1:∀x,x∈cs->x.one=true):AY w fb β' cn (.agg cs) (.agg vs):=.agg _ _ h.1 h1 h.2
theorem LZ {fb β' cn cs vs} (h:BW (Aw w fb) cs vs) (h1:∀x,x∈cs->x.one=true):AY w fb β' cn (.d (.agg cs)) (.agg vs):=.d _ _ (.agg _ _ h.1 h1 h.2)
theorem Dv {α:Type}{R:α->Value->Prop}(h:BI E c β s tm w) {cs:List α}{b base off:Nat}{vs:Nat->Value}
  (hc:∀(j:Nat) (x:α),cs[j]?=some x->w.cell? ⟨b,base+j,none⟩=some (vs j)) (hv:∀(j:Nat) (x:α),cs[j]?=some x->R x (vs j))
  {mk:List α->AV}{one:α->AV}{t:TypeId}{ag:Bool}{n:Nat}
  (hag:Gy E.P t=some ag) (hsz:EY E.P t=some n)
  (hmk:∀l (us:Array Value),(∀x,x∈l->x∈cs)->BW R l us->AY w (c.bar β s.V) β s.V.cn (mk l) (.agg us))
  (hone:∀x u,R x u->AY w (c.bar β s.V) β s.V.cn (one x) u)
  (he:BV ag n cs off mk one (K · .none)):∃u,(loadVar t ⟨b,base+off,none⟩).run E.P w=.ok u w/\∃v,K v .none/\AY w (c.bar β s.V) β s.V.cn v u:=by
 unfold BV at he
 cases ag with
 |true =>
  simp only[if_true] at he
  obtain⟨h1,h2⟩:=he
  have hl:=run_loadCells (P:=E.P) w ⟨b,base+off,none⟩ n (fun j=>vs (off+j)) (fun j hj=>by
   rw[Addr.add_lit,Nat.add_assoc]
   obtain⟨x,hx⟩:∃x,cs[off+j]?=some x:=⟨_,List.getElem?_eq_getElem (by omega)⟩
   exact hc _ x hx)
  refine⟨.agg ((List.range n).map fun j=>vs (off+j)).toArray,by simp[loadVar,LS hag,BS hsz,hl],_,h2,hmk _ _ (fun x hx=>List.mem_of_mem_drop (List.mem_of_mem_take hx)) ⟨by simp;omega,fun i x v hx hv'=>?_⟩⟩
  rw[List.getElem?_take] at hx
  split at hx
  ·rename_i hi
   rw[List.getElem?_drop] at hx
   simp[hi] at hv'
   subst hv'
   exact hv _ x hx
  ·cases hx
 |false =>
  simp only[Bool.false_eq_true,if_false] at he
  split at he
  ·rename_i x hx
   exact⟨vs off,by simp[loadVar,LS hag,run_load,hc off x hx],_,he,hone x _ (hv off x hx)⟩
  ·exact he.elim
theorem Bj {w:World}{b:Nat}{cur:Array Value}{e:TypeId} {fr} (hb:w.heap[b]?=some (.cells cur e fr)) (j:Nat):w.cell? ⟨b,j,none⟩=cur[j]?:=by
 simp[World.cell?,hb]
theorem Qy (h:BI E c β s tm w) {t:TypeId}{ag:Bool}{n:Nat}(hag:Gy E.P t=some ag) (hsz:EY E.P t=some n) {dst:Option Nat}{p:AV}{u:Value}
  (hp:AY w (c.bar β s.V) β s.V.cn p u) (he:ev E dst s.V (.load ag n) [p] K) :
  ∃r,(Instr.loadAt t u).run E.P w=.ok r w/\∃v,K v .none/\AY w (c.bar β s.V) β s.V.cn v r:=by
 unfold ev at he
 simp only at he
 cases p with
 |ptr o g off =>
  simp only at he
  split at he
  ·rename_i cs hg
   have hob:=AN.get_some hg
   cases hp with|ptr _ _ _ b hlt hβ =>
   have ho:=(h.objs _ _ _ hob).2
   rw[hβ] at ho
   cases ho with|cells _ _ cur e hb hl h1 hx =>
   have:=Dv (R:=AY w (c.bar β s.V) β s.V.cn) h (cs:=cs) (b:=b) (base:=0) (off:=off) (vs:=fun j=>cur.getD j undef) (fun j x hj=>by
     have hlt:j<cur.size:=by rw[hl];exact(List.getElem?_eq_some_iff.1 hj).1
     rw[Nat.zero_add,Bj hb,Array.getElem?_eq_getElem hlt];simp[Array.getD_eq_getD_getElem?,hlt])
    (fun j x hj=>by
     have hlt:j<cur.size:=by rw[hl];exact(List.getElem?_eq_some_iff.1 hj).1
     exact hx j x _ hj (by rw[Array.getElem?_eq_getElem hlt];simp[Array.getD_eq_getD_getElem?,hlt]))
    hag hsz (fun l us hm hc=>M4 hc fun x hx=>h1 x (hm x hx)) (fun x u hx=>hx) he
   obtain⟨r,hr,h3⟩:=this
   exact⟨r,by simpa[Instr.loadAt,Instr.sureAddr] using hr,h3⟩
  ·exact he.elim
 |rptr o g es i off =>
  simp only at he
  split at he
  ·rename_i es' nl l hg
   obtain⟨rfl,he⟩:=he
   split at he
   ·rename_i x hxi
    have hob:=AN.get_some hg
    cases hp with|rptr _ _ _ _ _ b b0 len cap hlt hβ =>
    have ho:=(h.objs _ _ _ hob).2
    rw[hβ] at ho
    cases ho with|row _ _ _ _ _ ho =>
    rcases ho with⟨_,_,h3⟩|⟨_,b',off',cap',cur,h2,h3,h4,h5,h6,h7,h8,h10,h9⟩
    ·cases h3
    ·simp only[Value.slice.injEq,Option.some.injEq,Addr.mk.injEq] at h2
     obtain⟨⟨rfl,rfl,_⟩,rfl,rfl⟩:=h2
     have hone:∀c,c∈x.cells->c.one=true:=fun c hc=>h10 x c (List.mem_of_getElem? hxi) hc
     have:=Dv (R:=Aw w (c.bar β s.V)) h (cs:=x.cells) (b:=b) (base:=b0+i*es) (off:=off) (vs:=fun j=>cur.getD (b0+i*es+j) undef) (fun j c hj=>by
       obtain⟨u,hu,_⟩:=h9 i x j c hxi hj
       rw[Bj h3,hu];simp[Array.getD_eq_getD_getElem?,hu])
      (fun j c hj=>by
       obtain⟨u,hu,hd⟩:=h9 i x j c hxi hj
       simpa[Array.getD_eq_getD_getElem?,hu] using hd)
      hag hsz (fun l us hm hc=>LZ hc fun x hx=>hone x (hm x hx)) (fun x u hx=>.d _ _ hx) he
     obtain⟨r,hr,h3⟩:=this
     exact⟨r,by simpa[Instr.loadAt,Instr.sureAddr] using hr,h3⟩
   ·exact he.elim
  ·exact he.elim
 |dptr cs off =>
  simp only at he
  cases hp with|dptr _ _ b base vs hb hne h1 hc hv =>
  obtain⟨r,hr,h3⟩:=Dv (R:=Aw w (c.bar β s.V)) h (cs:=cs) (b:=b) (base:=base) (off:=off) (vs:=vs) hc hv hag hsz
   (fun l us hm hc=>LZ hc fun x hx=>h1 x (hm x hx)) (fun x u hx=>.d _ _ hx) he
  exact⟨r,by simpa[Instr.loadAt,Instr.sureAddr] using hr,h3⟩
 |d x =>
  cases x with
  |ptr cs =>
   simp only at he
   cases hp with|d _ _ hp=>cases hp with|ptr _ b base vs hb hne h1 hc hv =>
   obtain⟨r,hr,h3⟩:=Dv (R:=Aw w (c.bar β s.V)) h (cs:=cs) (b:=b) (base:=base) (off:=0) (vs:=vs) hc hv hag hsz
    (fun l us hm hc=>LZ hc fun x hx=>h1 x (hm x hx)) (fun x u hx=>.d _ _ hx) he
   exact⟨r,by simpa[Instr.loadAt,Instr.sureAddr] using hr,h3⟩
  |_=>simp at he
 |mref k o g =>
  cases k with
  |xp i =>
   simp only at he
   split at he
   ·rename_i e1 e2 nl ix rows hg
    split at he
    ·rename_i j hij
     have hob:=AN.get_some hg
     obtain⟨v,hv⟩:∃v,β o g=v:=⟨_,rfl⟩
     cases hp with|mref _ _ _ u hlt hm hu1 =>
     have ho:=(h.objs _ _ _ hob).2
     rw[hv] at ho
     cases ho with|mat _ _ _ _ _ _ ho =>
     obtain⟨v0,vs,hvv,hlen,h0,hr,hsep⟩:=ho
     have hv':=hv
     rw[hvv] at hv'
     rw[hv'] at hm
     rcases h0 with⟨_,h01,_⟩|⟨_,b,off,cap,cur,h2,h3,h4,h5,h6,h7⟩
     ·rw[h01] at hij;simp at hij
     ·obtain⟨uj,huj,hcj⟩:=h7 i j hij
      subst h2
      simp only[D_,Ba,List.getElem?_cons_zero,Option.bind_some,Qx,Option.some.injEq] at hm
      subst hm
      obtain⟨x,hx⟩:∃x,rows[j]?=some x:=⟨_,List.getElem?_eq_getElem (by have:=(List.getElem?_eq_some_iff.1 huj).1;omega)⟩
      have:=Dv (R:=AY w (c.bar β s.V) β s.V.cn) h (cs:=[.mref (.row j) o g]) (b:=b) (base:=off+i) (off:=0) (vs:=fun _=>uj) (fun q y hq=>by
        cases q with
        |zero=>rw[Bj h3];simpa using hcj
        |succ q=>simp at hq)
       (fun q y hq=>by
        cases q with
        |zero=>simp at hq;subst hq;exact .mref _ _ _ _ hlt (by rw[hv'];simp[D_,huj]) (hr j x uj hx huj).one
        |succ q=>simp at hq)
       hag hsz (fun l us hm hc=>M4 hc fun x hx=>by
        have:=hm x hx;simp at this;subst this;rfl) (fun x u hx=>hx) he
      obtain⟨r,hr,h3⟩:=this
      exact⟨r,by simpa[Instr.loadAt,Instr.sureAddr] using hr,h3⟩
    ·exact he.elim
   ·exact he.elim
  |mp j k =>
   simp only at he
   split at he
   ·rename_i e1 e2 nl ix rows hg
    split at he
    ·rename_i x hx
     split at he
     ·rename_i y hy
      have hob:=AN.get_some hg
      obtain⟨v,hv⟩:∃v,β o g=v:=⟨_,rfl⟩
      cases hp with|mref _ _ _ u hlt hm hu1 =>
      have ho:=(h.objs _ _ _ hob).2
      rw[hv] at ho
      cases ho with|mat _ _ _ _ _ _ ho =>
      obtain⟨v0,vs,hvv,hlen,h0,hr,hsep⟩:=ho
      have hv':=hv
      rw[hvv] at hv'
      rw[hv'] at hm
      obtain⟨uj,huj⟩:∃u,vs[j]?=some u:=⟨_,List.getElem?_eq_getElem (by have:=(List.getElem?_eq_some_iff.1 hx).1;omega)⟩
      rcases hr j x uj hx huj with⟨_,h01,_⟩|⟨_,b,off,cap,cur,h2,h3,h4,h5,h6,h7,h8,h10,h9⟩
      ·rw[h01] at hy;simp at hy
      ·subst h2
       simp only[D_,Ba,List.getElem?_cons_succ,huj,Option.bind_some,Qx,Option.some.injEq] at hm
       subst hm
       have hone:∀c,c∈y.cells->c.one=true:=fun c hc=>h10 y c (List.mem_of_getElem? hy) hc
       have:=Dv (R:=Aw w (c.bar β s.V)) h (cs:=y.cells) (b:=b) (base:=off+k) (off:=0) (vs:=fun q=>cur.getD (off+k+q) undef) (fun q cc hq=>by
         obtain⟨u,hu,_⟩:=h9 k y q cc hy hq
         rw[Nat.mul_one] at hu
         rw[Bj h3,hu];simp[Array.getD_eq_getD_getElem?,hu])
        (fun q cc hq=>by
         obtain⟨u,hu,hd⟩:=h9 k y q cc hy hq
         rw[Nat.mul_one] at hu
         simpa[Array.getD_eq_getD_getElem?,hu] using hd)
        hag hsz (fun l us hm hc=>LZ hc fun x hx=>hone x (hm x hx)) (fun x u hx=>.d _ _ hx) he
       obtain⟨r,hr,h3⟩:=this
       exact⟨r,by simpa[Instr.loadAt,Instr.sureAddr] using hr,h3⟩
     ·exact he.elim
    ·exact he.elim
   ·exact he.elim
  |_=>simp at he
 |ablk sl cs off =>
  cases sl with
  |true=>simp at he
  |false =>
   simp only at he
   cases hp with|ablk _ _ _ b base vs u hb hne h1 hc hv hu =>
   subst hu
   obtain⟨r,hr,h3⟩:=Dv (R:=AY w (c.bar β s.V) β s.V.cn) h (cs:=cs) (b:=b) (base:=base) (off:=off) (vs:=vs) hc hv hag hsz
    (fun l us hm hc=>M4 hc fun x hx=>h1 x (hm x hx)) (fun x u hx=>hx) he
   exact⟨r,by simpa[Instr.loadAt,Instr.sureAddr,mr] using hr,h3⟩
 |_=>simp at he
end
end Go.Pw
end
section
namespace Go.Pw
open Go.RowKit
section
variable {E:CB}{c:C4}{β:Nat->Nat->Value}{s:A1}{tm:Array Value}{w:World}{K:AV->BQ->Prop}
theorem Xn {dst:Option Nat}{x y z:AV}{u v t:Value}(hx:AY w (c.bar β s.V) β s.V.cn x u) (hy:AY w (c.bar β s.V) β s.V.cn y v)
  (hz:AY w (c.bar β s.V) β s.V.cn z t) (he:ev E dst s.V .pick [x,y,z] K) :
  ∃b,u=.bool b/\∃r,K r .none/\AY w (c.bar β s.V) β s.V.cn r (if b then v else t):=by
 unfold ev at he
 simp only at he
 split at he
 ·rename_i b y' z' heq
  simp only[List.cons.injEq,and_true] at heq
  obtain⟨rfl,rfl,rfl⟩:=heq
  obtain rfl:=IC hx
  refine⟨b,rfl,?_⟩
  cases b
  ·exact⟨_,he.2 rfl,by simpa using hz⟩
  ·exact⟨_,he.1 rfl,by simpa using hy⟩
 ·exact he.elim
theorem Vd {t:TypeId}{f:Nat}{fs:Array Field}{fd:Field}{n:Nat}(ht:E.P.underlying t=some (.struct fs)) (hf:fs[f]?=some fd) (hn:EY E.P fd.type=some n) (hpos:0<n)
  {dst:Option Nat}{p:AV}{u:Value}(hp:AY w (c.bar β s.V) β s.V.cn p u) (he:ev E dst s.V (.faddr fd.offset) [p] K) :
  ∃r,(Instr.fieldAt t u f).run E.P w=.ok r w/\∃v,K v .none/\AY w (c.bar β s.V) β s.V.cn v r:=by
 have key:∀b off,(Instr.fieldAt t (.pointer (some ⟨b,off,none⟩)) f).run E.P w=.ok (.pointer (some ⟨b,off+fd.offset,none⟩)) w:=by
  intro b off
  have:n≠0:=by omega
  simp[Instr.fieldAt,run_underlying ht,hf,Instr.sureAddr,fieldPlace,BS hn,this,Addr.add_lit]
 unfold ev at he
 simp only at he
 split at he
 ·rename_i o g a heq
  simp only[List.cons.injEq,and_true] at heq;subst heq
  cases hp with|ptr _ _ _ b hlt hβ=>exact⟨_,key _ _,_,he,.ptr _ _ _ b hlt hβ⟩
 ·rename_i o g es i a heq
  simp only[List.cons.injEq,and_true] at heq;subst heq
  cases hp with|rptr _ _ _ _ _ b b0 n cap hlt hβ=>exact⟨_,key _ _,_,he,by rw[Nat.add_assoc];exact .rptr _ _ _ _ _ b b0 n cap hlt hβ⟩
 ·rename_i cs a heq
  simp only[List.cons.injEq,and_true] at heq;subst heq
  cases hp with|dptr _ _ b base vs hb hne h1 hc hv=>exact⟨_,key _ _,_,he,by rw[Nat.add_assoc];exact .dptr _ _ b base vs hb hne h1 hc hv⟩
 ·rename_i cs heq
  simp only[List.cons.injEq,and_true] at heq;subst heq
  cases hp with|d _ _ hp=>cases hp with|ptr _ b base vs hb hne h1 hc hv=>exact⟨_,key _ _,_,he,.dptr _ _ b base vs hb hne h1 hc hv⟩
 ·rename_i cs a heq
  simp only[List.cons.injEq,and_true] at heq;subst heq
  cases hp with|ablk _ _ _ b base vs u hb hne h1 hc hv hu =>
  subst hu
  exact⟨_,key _ _,_,he,.ablk false _ _ b base vs _ hb hne h1 hc hv (by simp[mr,Nat.add_assoc])⟩
 ·exact he.elim
theorem Wn {fb β' cn} {nil:Bool}{l:List D}{a:Addr}{len cap:Nat}(h:Aw w fb (.list nil l) (.slice (some a) len cap)) {i es:Nat}{x:D}(hx:l[i]?=some x) (hes:x.cells.length=es) :
  len=l.length/\AY w fb β' cn (.dptr x.cells 0) (.pointer (some (a.add (i*es)))):=by
 cases h with
 |empty=>simp at hx
 |list _ es' b off _ vs hcap hm hb hpos hs h1 hc hv =>
  have hm':=List.mem_of_getElem? hx
  have:es=es':=hes.symm.trans (hs x hm')
  subst this
  refine⟨rfl,?_⟩
  rw[Addr.add_lit]
  exact .dptr x.cells 0 b (off+i*es) (vs i) hb (fun h0=>by rw[h0] at hes;simp at hes;omega) (fun c hc=>h1 x c hm' hc) (fun j c hj=>hc i x j c hx hj) (fun j c hj=>hv i x j c hx hj)
theorem Zp {off n cap:Nat}{v u:Value}(h:D_ (.bs off n cap) v=some u):∃b,v=.pointer (some ⟨b,0,none⟩)/\u=.slice (some ⟨b,off,none⟩) n cap/\n<=4096:=by
 unfold D_ at h
 split at h<;>first|(rename_i he;cases he;done)|skip
 ·rename_i b he
  cases he
  split at h
  ·simp only[Option.some.injEq] at h
   exact⟨_,rfl,h.symm,by assumption⟩
  ·cases h
 ·cases h
theorem T2 {t e:TypeId}{es:Nat}(ht:E.P.underlying t=some (.slice e)) (hsz:EY E.P e=some es) (h:BI E c β s tm w)
  {dst:Option Nat}{p q:AV}{u v:Value}(hp:AY w (c.bar β s.V) β s.V.cn p u) (hq:AY w (c.bar β s.V) β s.V.cn q v) (he:ev E dst s.V (.iaddrS es) [p,q] K) :
  ∃r,(Instr.indexAt t u v).run E.P w=.ok r w/\∃x,K x .none/\AY w (c.bar β s.V) β s.V.cn x r:=by
 have hel:E.P.elem t=e:=by simp[Program.elem,ht]
 have key:∀(a:Addr) (len cap:Nat) (k:IntKind) (i:Int),0<=i->i<len->(Instr.indexAt t (.slice (some a) len cap) (.int k i)).run E.P w=.ok (.pointer (some (a.add (i.toNat * es)))) w:=by
  intro a len cap k i h0 h1
  rw[run_indexAt_slice w t a len cap k i (by rw[hel];exact ht),if_pos ⟨h0,h1⟩,hel,BS hsz]
  rfl
 unfold ev at he
 simp only at he
 split at he
 ·rename_i o g k i heq
  simp only[List.cons.injEq,and_true] at heq;obtain⟨rfl,rfl⟩:=heq
  split at he
  ·rename_i ety es' nl l hg
   obtain⟨rfl,h0,h1,hK⟩:=he
   obtain⟨rfl,_⟩:=A7 hq
   have hob:=AN.get_some hg
   obtain⟨hlt,ho⟩:=h.objs _ _ _ hob
   cases ho with|row _ _ _ _ _ ho =>
   cases hp with|own _ _ _ _ =>
   rcases ho with⟨_,h2,h3⟩|⟨_,b,off,cap,cur,h2,_⟩
   ·subst h2;simp at h1;omega
   ·rw[h2]
    refine⟨_,key _ _ _ _ _ h0 h1,_,hK,?_⟩
    rw[Addr.add_lit]
    exact .rptr _ _ _ _ 0 _ _ _ _ hlt h2
  ·exact he.elim
 ·rename_i nl l k i heq
  simp only[List.cons.injEq,and_true] at heq;obtain⟨rfl,rfl⟩:=heq
  obtain⟨h0,h1,he⟩:=he
  split at he
  ·rename_i x hx
   obtain⟨hes,hK⟩:=he
   obtain⟨rfl,_⟩:=A7 hq
   cases hp with|d _ _ hp =>
   have hl:∃a cap,u=.slice (some a) l.length cap:=by cases hp<;>first|exact⟨_,_,rfl⟩|simp at hx
   obtain⟨a,cap,rfl⟩:=hl
   exact⟨_,key _ _ _ _ _ h0 h1,_,hK,(Wn hp hx hes).2⟩
  ·exact he.elim
 ·rename_i l k i heq
  simp only[List.cons.injEq,and_true] at heq;obtain⟨rfl,rfl⟩:=heq
  obtain⟨h0,h1,he⟩:=he
  split at he
  ·rename_i x hx
   obtain⟨hes,hK⟩:=he
   obtain⟨rfl,_⟩:=A7 hq
   cases hp with|ex _ a hp =>
   exact⟨_,key _ _ _ _ _ h0 h1,_,hK,(Wn hp hx hes).2⟩
  ·exact he.elim
 ·rename_i o g k i heq
  simp only[List.cons.injEq,and_true] at heq;obtain⟨rfl,rfl⟩:=heq
  split at he
  ·rename_i e1 e2 nl ix rows hg
   obtain⟨rfl,h0,h1,hK⟩:=he
   obtain⟨rfl,_⟩:=A7 hq
   have hob:=AN.get_some hg
   obtain⟨hlt,ho⟩:=h.objs _ _ _ hob
   obtain⟨v,hv⟩:∃v,β o g=v:=⟨_,rfl⟩
   cases hp with|mref _ _ _ u hlt hm hu1 =>
   rw[hv] at ho
   cases ho with|mat _ _ _ _ _ _ ho =>
   obtain⟨v0,vs,hvv,hlen,hc,hr,hsep⟩:=ho
   have hv':=hv
   rw[hvv] at hv'
   rw[hv'] at hm
   simp only[D_,Ba,List.getElem?_cons_zero,Option.some.injEq] at hm
   subst hm
   rcases hc with⟨_,h01,_⟩|⟨_,b,off,cap,cur,h2,_⟩
   ·subst h01;simp at h1;omega
   ·subst h2
    refine⟨_,key _ _ _ _ _ h0 h1,_,hK,?_⟩
    rw[Addr.add_lit]
    exact .mref _ _ _ _ hlt (by rw[hv'];simp[D_,Qx]) rfl
  ·exact he.elim
 ·rename_i j o g k i heq
  simp only[List.cons.injEq,and_true] at heq;obtain⟨rfl,rfl⟩:=heq
  split at he
  ·rename_i e1 e2 nl ix rows hg
   split at he
   ·rename_i x hx
    obtain⟨rfl,h0,h1,hK⟩:=he
    obtain⟨rfl,_⟩:=A7 hq
    have hob:=AN.get_some hg
    obtain⟨hlt,ho⟩:=h.objs _ _ _ hob
    obtain⟨v,hv⟩:∃v,β o g=v:=⟨_,rfl⟩
    cases hp with|mref _ _ _ u hlt hm hu1 =>
    rw[hv] at ho
    cases ho with|mat _ _ _ _ _ _ ho =>
    obtain⟨v0,vs,hvv,hlen,hc,hr,hsep⟩:=ho
    have hv':=hv
    rw[hvv] at hv'
    rw[hv'] at hm
    simp only[D_,Ba,List.getElem?_cons_succ] at hm
    rcases hr j x u hx hm with⟨_,h01,_⟩|⟨_,b,off,cap,cur,h2,_⟩
    ·rw[h01] at h1;simp at h1;omega
    ·subst h2
     refine⟨_,key _ _ _ _ _ h0 h1,_,hK,?_⟩
     rw[Addr.add_lit]
     exact .mref _ _ _ _ hlt (by rw[hv'];simp[D_,hm,Qx]) rfl
   ·exact he.elim
  ·exact he.elim
 ·rename_i off n cap o g k i heq
  simp only[List.cons.injEq,and_true] at heq;obtain⟨rfl,rfl⟩:=heq
  obtain⟨rfl,h0,h1,hK⟩:=he
  obtain⟨rfl,_⟩:=A7 hq
  cases hp with|mref _ _ _ u hlt hm hu1 =>
  obtain⟨b,hb,hu,_⟩:=Zp hm
  subst hu
  refine⟨_,key _ _ _ _ _ h0 h1,_,hK,?_⟩
  rw[Addr.add_lit,Nat.mul_one]
  exact .ptr _ _ _ b hlt hb
 ·exact he.elim
theorem T3 {t e:TypeId}{n es:Nat}(ht:E.P.underlying t=some (.array n e)) (hsz:EY E.P e=some es)
  {dst:Option Nat}{p q:AV}{u v:Value}(hp:AY w (c.bar β s.V) β s.V.cn p u) (hq:AY w (c.bar β s.V) β s.V.cn q v) (he:ev E dst s.V (.iaddrA n es) [p,q] K) :
  ∃r,(Instr.indexAt t u v).run E.P w=.ok r w/\∃x,K x .none/\AY w (c.bar β s.V) β s.V.cn x r:=by
 have hel:E.P.elem t=e:=by simp[Program.elem,ht]
 have hlen:E.P.arrayLen t=n:=by simp[Program.arrayLen,ht]
 have key:∀(b off:Nat) (k:IntKind) (i:Int),0<=i->i<n->(Instr.indexAt t (.pointer (some ⟨b,off,none⟩)) (.int k i)).run E.P w=.ok (.pointer (some ⟨b,off+i.toNat * es,none⟩)) w:=by
  intro b off k i h0 h1
  rw[run_indexAt_array w t _ k i (by rw[hel,hlen];exact ht),if_pos ⟨h0,by rw[hlen];exact h1⟩,hel,BS hsz]
  simp[Addr.add_lit]
 unfold ev at he
 simp only at he
 split at he
 ·rename_i o g off k i heq
  simp only[List.cons.injEq,and_true] at heq;obtain⟨rfl,rfl⟩:=heq
  obtain⟨h0,h1,hK⟩:=he
  obtain⟨rfl,_⟩:=A7 hq
  cases hp with|ptr _ _ _ b hlt hβ=>exact⟨_,key _ _ _ _ h0 h1,_,hK,.ptr _ _ _ b hlt hβ⟩
 ·rename_i o g es' j off k i heq
  simp only[List.cons.injEq,and_true] at heq;obtain⟨rfl,rfl⟩:=heq
  obtain⟨h0,h1,hK⟩:=he
  obtain⟨rfl,_⟩:=A7 hq
  cases hp with|rptr _ _ _ _ _ b b0 n cap hlt hβ=>exact⟨_,key _ _ _ _ h0 h1,_,hK,by rw[Nat.add_assoc];exact .rptr _ _ _ _ _ b b0 n cap hlt hβ⟩
 ·rename_i cs off k i heq
  simp only[List.cons.injEq,and_true] at heq;obtain⟨rfl,rfl⟩:=heq
  obtain⟨h0,h1,hK⟩:=he
  obtain⟨rfl,_⟩:=A7 hq
  cases hp with|dptr _ _ b base vs hb hne h2 hc hv=>exact⟨_,key _ _ _ _ h0 h1,_,hK,by rw[Nat.add_assoc];exact .dptr _ _ b base vs hb hne h2 hc hv⟩
 ·rename_i cs k i heq
  simp only[List.cons.injEq,and_true] at heq;obtain⟨rfl,rfl⟩:=heq
  obtain⟨h0,h1,hK⟩:=he
  obtain⟨rfl,_⟩:=A7 hq
  cases hp with|d _ _ hp=>cases hp with|ptr _ b base vs hb hne h2 hc hv=>exact⟨_,key _ _ _ _ h0 h1,_,hK,.dptr _ _ b base vs hb hne h2 hc hv⟩
 ·exact he.elim
theorem Vb {t e:TypeId}{n es:Nat}{ag:Bool}(h:BI E c β s tm w) (ht:E.P.underlying t=some (.array n e)) (hag:Gy E.P e=some ag) (hsz:EY E.P e=some es)
  {dst:Option Nat}{p q:AV}{u v:Value}(hp:AY w (c.bar β s.V) β s.V.cn p u) (hq:AY w (c.bar β s.V) β s.V.cn q v) (he:ev E dst s.V (.index n es ag) [p,q] K) :
  ∃r,(Instr.index t u v).run E.P w=.ok r w/\∃x,K x .none/\AY w (c.bar β s.V) β s.V.cn x r:=by
 unfold ev at he
 simp only at he
 split at he
 ·rename_i cs k i heq
  simp only[List.cons.injEq,and_true] at heq;obtain⟨rfl,rfl⟩:=heq
  obtain⟨h0,h1,hK⟩:=he
  obtain⟨rfl,_⟩:=A7 hq
  obtain⟨vs,rfl,hc,h2⟩:=N9 hp
  obtain⟨r,hr,h3⟩:=I' (mk:=.agg) (one:=id) h hc hag hsz (fun l us hm hl=>M4 hl fun x hx=>h2 x (hm x hx)) (fun x u hx=>hx) hK
  exact⟨r,by simp[Instr.index,asIntOf,run_underlying ht,h0,h1,BS hsz,hr],h3⟩
 ·rename_i cs k i heq
  simp only[List.cons.injEq,and_true] at heq;obtain⟨rfl,rfl⟩:=heq
  obtain⟨h0,h1,hK⟩:=he
  obtain⟨rfl,_⟩:=A7 hq
  obtain⟨vs,rfl,hc,h2⟩:=R3 hp
  obtain⟨r,hr,h3⟩:=I' (mk:=fun cs=>.d (.agg cs)) (one:=.d) h hc hag hsz (fun l us hm hl=>LZ hl fun x hx=>h2 x (hm x hx)) (fun x u hx=>.d _ _ hx) hK
  exact⟨r,by simp[Instr.index,asIntOf,run_underlying ht,h0,h1,BS hsz,hr],h3⟩
 ·exact he.elim
theorem Vc {t:TypeId}{f:Nat}{fs:Array Field}{fd:Field}{n:Nat}{ag:Bool}(h:BI E c β s tm w) (ht:E.P.underlying t=some (.struct fs)) (hf:fs[f]?=some fd)
  (hag:Gy E.P fd.type=some ag) (hsz:EY E.P fd.type=some n)
  {dst:Option Nat}{p:AV}{u:Value}(hp:AY w (c.bar β s.V) β s.V.cn p u) (he:ev E dst s.V (.field ag fd.offset n) [p] K) :
  ∃r,(Instr.field t u f).run E.P w=.ok r w/\∃x,K x .none/\AY w (c.bar β s.V) β s.V.cn x r:=by
 unfold ev at he
 simp only at he
 split at he
 ·rename_i cs heq
  simp only[List.cons.injEq,and_true] at heq;subst heq
  obtain⟨vs,rfl,hc,h2⟩:=N9 hp
  obtain⟨r,hr,h3⟩:=I' (mk:=.agg) (one:=id) h hc hag hsz (fun l us hm hl=>M4 hl fun x hx=>h2 x (hm x hx)) (fun x u hx=>hx) he
  exact⟨r,by simp[Instr.field,run_underlying ht,hf,asAgg,hr],h3⟩
 ·rename_i cs heq
  simp only[List.cons.injEq,and_true] at heq;subst heq
  obtain⟨vs,rfl,hc,h2⟩:=R3 hp
  obtain⟨r,hr,h3⟩:=I' (mk:=fun cs=>.d (.agg cs)) (one:=.d) h hc hag hsz (fun l us hm hl=>LZ hl fun x hx=>h2 x (hm x hx)) (fun x u hx=>.d _ _ hx) he
  exact⟨r,by simp[Instr.field,run_underlying ht,hf,asAgg,hr],h3⟩
 ·exact he.elim
end
end Go.Pw
end
section
namespace Go.Pw
open Go.RowKit
section
variable {E:CB}{c:C4}{β:Nat->Nat->Value}{s:A1}{tm:Array Value}{w:World}{K:AV->BQ->Prop}
theorem ND {w:World} {fb} {nil:Bool}{l:List D}{a:Option Addr}{len cap:Nat}(h:Aw w fb (.list nil l) (.slice a len cap)) {es x y:Nat}(hes:0<es) (hu:CJ es l) (hxy:x<=y) (hy:y<=l.length) :
  len=l.length/\len<=cap/\Aw w fb (.list nil ((l.drop x).take (y-x))) (sliced a x y cap es):=by
 cases h with
 |nil =>
  simp at hy;subst hy;simp at hxy;subst hxy
  exact⟨rfl,by omega,by simp[sliced];exact .nil⟩
 |empty a _ hm =>
  simp at hy;subst hy;simp at hxy;subst hxy
  exact⟨rfl,by omega,by simp[sliced];split<;>exact .empty _ _ hm⟩
 |list _ es' b off _ vs hcap hm hb hpos hs h1 hc hv =>
  refine⟨rfl,hcap,?_⟩
  have hlen:((l.drop x).take (y-x)).length=y-x:=by simp;omega
  unfold sliced
  by_cases hcx:cap=x
  ·rw[if_pos hcx]
   have:y=x:=by omega
   subst this
   simp
   exact .empty _ _ (by omega)
  ·rw[if_neg hcx]
   by_cases hxy':x=y
   ·subst hxy';simp;exact .empty _ _ (by omega)
   have hes':es=es':=by
    cases l with
    |nil=>simp at hy;omega
    |cons z zs=>exact(hu z (by simp)).symm.trans (hs z (by simp))
   subst hes'
   simp only[Option.map_some,Addr.add_lit]
   rw[show y-x=((l.drop x).take (y-x)).length by omega]
   have hm':∀z,z∈((l.drop x).take (y-x))->z∈l:=fun z hz=>List.mem_of_mem_drop (List.mem_of_mem_take hz)
   have hget:∀(i:Nat) (z:D),((l.drop x).take (y-x))[i]?=some z->l[x+i]?=some z:=by
    intro i z hz
    rw[List.getElem?_take] at hz
    split at hz
    ·rwa [List.getElem?_drop] at hz
    ·cases hz
   rw[hlen]
   have hgoal:=Aw.list (w:=w) (fb:=fb) ((l.drop x).take (y-x)) es b (off+x*es) (cap-x) (fun i j=>vs (x+i) j) (by omega) (by omega) hb hpos
    (fun z hz=>hs z (hm' z hz)) (fun z c hz hc=>h1 z c (hm' z hz) hc)
    (fun i z j c hz hj=>by rw[show off+x*es+i*es+j=off+(x+i)*es+j by rw[Nat.add_mul];omega];exact hc _ z j c (hget i z hz) hj)
    (fun i z j c hz hj=>hv _ z j c (hget i z hz) hj)
   rwa [hlen] at hgoal
theorem Mb {fb} {nil:Bool}{l:List D}{u:Value}(h:Aw w fb (.list nil l) u):∃a cap,u=.slice a l.length cap:=by
 cases h<;>exact⟨_,_,rfl⟩
theorem JB {t e:TypeId}{es:Nat}(ht:E.P.underlying t=some (.slice e)) (hsz:EY E.P e=some es) {a:Option Addr}{len cap:Nat}(hlc:len<=cap) {lo hi:Bool}{rest:List AV}{lov hiv:Option Value}
  (hlo:lov.isSome=lo) (hhi:hiv.isSome=hi) {fb β' cn}
  (hrest:∃vs:List Value,vs=lov.toList++hiv.toList/\vs.length=rest.length/\∀(i:Nat) (x:AV) (v:Value),rest[i]?=some x->vs[i]?=some v->AY w fb β' cn x v)
  {C:Nat->Nat->Prop}(he:MV lo hi len rest C) :
  ∃x y,x<=y/\y<=len/\C x y/\(hi=false->y=len)/\(Instr.sliceAt t (.slice a len cap) lov hiv none).run E.P w=.ok (sliced a x y cap es) w:=by
 have hel:E.P.elem t=e:=by simp[Program.elem,ht]
 have ht':E.P.underlying t=some (.slice (E.P.elem t)):=by rw[hel];exact ht
 obtain⟨vs,hvs,hl,hr⟩:=hrest
 subst hvs
 rcases lov with _|lv<;>rcases hiv with _|hv<;>simp only[Option.isSome_some,Option.isSome_none] at hlo hhi<;>subst hlo hhi<;>simp only[MV,if_true,if_false,Bool.false_eq_true] at he
 ·cases rest with
  |nil=>exact⟨0,len,by omega,by omega,he,fun _=>rfl,by rw[run_sliceAt_slice w t _ _ _ _ ht',run_slice_all w t a len cap ht',hel,BS hsz];rfl⟩
  |cons=>exact he.elim
 ·split at he
  ·rename_i k l
   obtain⟨rfl,_⟩:=A7 (hr 0 _ hv rfl rfl)
   obtain⟨h0,h1,h2⟩:=he
   exact⟨0,l.toNat,by omega,by omega,h2,by simp,by rw[run_sliceAt_slice w t _ _ _ _ ht',run_slice_h w t a len cap ht' k l h0 (by omega),hel,BS hsz];rfl⟩
  ·exact he.elim
 ·split at he
  ·rename_i k l
   obtain⟨rfl,_⟩:=A7 (hr 0 _ lv rfl rfl)
   obtain⟨h0,h1,h2⟩:=he
   exact⟨l.toNat,len,by omega,by omega,h2,fun _=>rfl,by rw[run_sliceAt_slice w t _ _ _ _ ht',run_slice_l w t a len cap ht' k l h0 h1,hel,BS hsz];rfl⟩
  ·exact he.elim
 ·split at he
  ·rename_i k1 l k2 h
   obtain⟨rfl,_⟩:=A7 (hr 0 _ lv rfl rfl)
   obtain⟨rfl,_⟩:=A7 (hr 1 _ hv rfl rfl)
   obtain⟨h0,h1,h2,h3⟩:=he
   exact⟨l.toNat,h.toNat,by omega,by omega,h3,by simp,by rw[run_sliceAt_slice w t _ _ _ _ ht',run_slice_lh w t a len cap ht' k1 k2 l h h0 h1 (by omega),hel,BS hsz];rfl⟩
  ·exact he.elim
end
end Go.Pw
end
section
namespace Go.Pw
open Go.RowKit
section
variable {E:CB}{c:C4}{β:Nat->Nat->Value}{s:A1}{tm:Array Value}{w:World}{K:AV->BQ->Prop}
def M5 (E:CB) (c:C4) (s:A1) (tm:Array Value) (K:AV->BQ->Prop) (r:Result Value):Prop :=
 ∃u w' v ch β',r=.ok u w'/\K v ch/\BI E c β' ⟨s.sl,s.V.app ch⟩ tm w'/\AY w' (c.bar β' (s.V.app ch)) β' (s.V.app ch).cn v u
theorem CY (h:BI E c β s tm w) {v:AV}{u:Value}{r:Result Value}(hK:K v .none) (hr:r=.ok u w) (hv:AY w (c.bar β s.V) β s.V.cn v u):M5 E c s tm K r :=
 ⟨u,w,v,.none,β,hr,hK,h,hv⟩
theorem Iv.refl (v:Value) (w:World):Iv v w w:=⟨rfl,rfl,rfl,Nat.le_refl _,fun _ _ _=>rfl⟩
theorem VZ (h:BI E c β s tm w) {t e:TypeId}{es:Nat}(ht:E.P.underlying t=some (.slice e)) (hsz:EY E.P e=some es) (hes:0<es)
  {x:AV}{u:Value}{rest:List AV}{lov hiv:Option Value}{dst:Option Nat}
  (hx:AY w (c.bar β s.V) β s.V.cn x u)
  (hrest:∃vs:List Value,vs=lov.toList++hiv.toList/\vs.length=rest.length/\∀(i:Nat) (x:AV) (v:Value),rest[i]?=some x->vs[i]?=some v->AY w (c.bar β s.V) β s.V.cn x v)
  (he:ev E dst s.V (.slice es lov.isSome hiv.isSome false) (x::rest) K):M5 E c s tm K ((Instr.sliceAt t u lov hiv none).run E.P w):=by
 unfold ev at he
 simp only[Bool.false_eq_true,if_false] at he
 split at he
 ·rename_i nl l rest' heq
  simp only[List.cons.injEq] at heq;obtain⟨rfl,rfl⟩:=heq
  obtain⟨hu,he⟩:=he
  cases hx with|d _ _ hx =>
  obtain⟨a,cap,rfl⟩:=Mb hx
  have hlc:l.length<=cap:=(ND hx hes hu (Nat.le_refl 0) (Nat.zero_le _)).2.1
  obtain⟨p,q,h1,h2,hK,_,hr⟩:=JB ht hsz (a:=a) (cap:=cap) hlc rfl rfl hrest he
  exact CY h hK hr (.d _ _ (ND hx hes hu h1 h2).2.2)
 ·rename_i l rest' heq
  simp only[List.cons.injEq] at heq;obtain⟨rfl,rfl⟩:=heq
  obtain⟨hu,he⟩:=he
  cases hx with|ex _ a hx =>
  obtain⟨p,q,h1,h2,hK,_,hr⟩:=JB ht hsz (a:=some a) (cap:=l.length) (Nat.le_refl _) rfl rfl hrest he
  exact CY h hK hr (.d _ _ (ND hx hes hu h1 h2).2.2)
 ·rename_i o g rest' heq
  simp only[List.cons.injEq] at heq;obtain⟨rfl,rfl⟩:=heq
  split at he
  ·rename_i ety es' nl l hg
   obtain⟨hol,rfl,he⟩:=he
   have hob:=AN.get_some hg
   obtain⟨hlt,ho⟩:=h.objs _ _ _ hob
   cases ho with|row _ _ _ _ _ ho =>
   cases hx with|own _ _ _ _ =>
   rcases ho with⟨h1,h2,h3⟩|⟨h1,b,off,cap,cur,h2,h3,h4,h5,h6,h7,h8,h10,h9⟩
   ·subst h2
    rw[h3]
    obtain⟨p,q,hp,hq,hK,hqf,hr⟩:=JB ht hsz (a:=none) (cap:=0) (len:=0) (Nat.le_refl _) rfl rfl hrest he
    have:p=0:=by omega
    subst this
    have:q=0:=by omega
    subst this
    have hv:sliced none 0 0 0 es=.slice none 0 0:=by simp[sliced]
    rw[hv] at hr
    refine⟨_,w,_,_,_,hr,hK,h.fresh (vo:=.slice none 0 0) hol (.refl _ _) (fun b hb=>by simp[Cm,Ay] at hb) (fun β' fb' _ _ _=>.row _ _ _ _ _ (.inl ⟨h1,by split<;>simp,rfl⟩)),?_⟩
    exact AY.own_new rfl (Io _ _ _)
   ·rw[h2]
    obtain⟨p,q,hp,hq,hK,hqf,hr⟩:=JB ht hsz (a:=some ⟨b,off,none⟩) (cap:=cap) (len:=l.length) h4 rfl rfl hrest he
    have hl':(if hiv.isSome=true then (l.drop p).take (q-p) else l.drop p)=(l.drop p).take (q-p):=by
     split
     ·rfl
     ·rename_i hh
      have hq':q=l.length:=hqf (by simpa using hh)
      rw[List.take_of_length_le (by simp;omega)]
    rw[hl'] at hK
    have hll:((l.drop p).take (q-p)).length=q-p:=by simp;omega
    obtain⟨off',cap',hv,hcap,hofs,hsz'⟩:∃off' cap',sliced (some ⟨b,off,none⟩) p q cap es=.slice (some ⟨b,off',none⟩) (q-p) cap'/\cap'=cap-p/\(p<q->off'=off+p*es)/\off'+cap'*es<=cur.size:=by
     unfold sliced
     by_cases hc:cap=p
     ·rw[if_pos hc];refine⟨off,cap-p,rfl,rfl,fun h=>by omega,?_⟩
      have:cap-p=0:=by omega
      rw[this];have:=Nat.zero_le (cap*es);omega
     ·rw[if_neg hc]
      simp only[Option.map_some,Addr.add_lit]
      refine⟨_,_,rfl,rfl,fun _=>rfl,?_⟩
      have:cap*es=p*es+(cap-p)*es:=by rw[←Nat.add_mul];congr 1;omega
      omega
    rw[hv] at hr
    have hblk:Cm (β o g) b:=by rw[h2];exact rfl
    have hlb:b<w.heap.size:=(Array.getElem?_eq_some_iff.1 h3).1
    refine⟨_,w,_,_,_,hr,hK,h.fresh (vo:=.slice (some ⟨b,off',none⟩) (q-p) cap') hol (.refl _ _) (fun b' hb=>by
      simp[Cm,Ay] at hb;subst hb;exact⟨hlb,.inr ⟨g,_,hob,hblk⟩⟩) (fun β' fb' _ _ hf=>.row _ _ _ _ _ (.inr ⟨h1,b,off',cap',cur,by rw[hll],h3,by rw[hll];omega,by omega,hsz',h7,
       fun z hz=>h8 z (List.mem_of_mem_drop (List.mem_of_mem_take hz)),fun z c hz hc=>h10 z c (List.mem_of_mem_drop (List.mem_of_mem_take hz)) hc,fun i z j c hi hj=>?_⟩)),?_⟩
    ·have hiq:i<q-p:=by have:=(List.getElem?_eq_some_iff.1 hi).1;omega
     rw[List.getElem?_take_of_lt hiq,List.getElem?_drop] at hi
     have hlt':p+i<l.length:=(List.getElem?_eq_some_iff.1 hi).1
     obtain⟨u,hu,hd⟩:=h9 (p+i) z j c hi hj
     refine⟨u,?_,hd.mono (Am.refl _ _) hf⟩
     rw[hofs (by omega),show off+p*es+i*es+j=off+(p+i)*es+j by rw[Nat.add_mul];omega]
     exact hu
    ·exact AY.own_new rfl (Io _ _ _)
  ·exact he.elim
 ·exact he.elim
theorem T0 (h:BI E c β s tm w) {t e:TypeId}{es:Nat}(ht:E.P.underlying t=some (.slice e)) (hsz:EY E.P e=some es) (hes:0<es)
  {x:AV}{u:Value}{rest:List AV}{lov hiv:Option Value}{mv:Value}{dst:Option Nat}
  (hx:AY w (c.bar β s.V) β s.V.cn x u)
  (hrest:∃vs:List Value,vs=lov.toList++hiv.toList++[mv]/\vs.length=rest.length/\∀(i:Nat) (x:AV) (v:Value),rest[i]?=some x->vs[i]?=some v->AY w (c.bar β s.V) β s.V.cn x v)
  (he:ev E dst s.V (.slice es lov.isSome hiv.isSome true) (x::rest) K):M5 E c s tm K ((Instr.sliceAt t u lov hiv (some mv)).run E.P w):=by
 have hel:E.P.elem t=e:=by simp[Program.elem,ht]
 have ht':E.P.underlying t=some (.slice (E.P.elem t)):=by rw[hel];exact ht
 unfold ev at he
 simp only[if_true] at he
 obtain⟨vs,hvs,hl,hr⟩:=hrest
 subst hvs
 split at he
 ·rename_i l k1 hh k2 m hlo hhi heq
  simp only[List.cons.injEq] at heq;obtain⟨rfl,rfl⟩:=heq
  obtain⟨hu,rfl,h0,h1,hK⟩:=he
  cases lov with
  |some _=>simp at hlo
  |none =>
  cases hiv with
  |none=>simp at hhi
  |some hv =>
  obtain⟨rfl,_⟩:=A7 (hr 0 _ hv rfl rfl)
  obtain⟨rfl,_⟩:=A7 (hr 1 _ mv rfl rfl)
  cases hx with|d _ _ hx =>
  obtain⟨a,cap,rfl⟩:=Mb hx
  obtain⟨_,hlc,hsub⟩:=ND hx hes hu (Nat.zero_le hh.toNat) (show hh.toNat<=l.length by omega)
  refine CY h hK (u:=sliced a 0 hh.toNat hh.toNat es) (by rw[run_sliceAt_slice w t _ _ _ _ ht',run_slice_hm w t a l.length cap ht' k1 k2 hh hh h0 (Int.le_refl _) (by omega),hel,BS hsz];rfl) ?_
  have hne:∃ad,a=some ad:=by cases hx<;>exact⟨_,rfl⟩
  obtain⟨ad,rfl⟩:=hne
  have hlen:(l.take hh.toNat).length=hh.toNat:=by simp;omega
  have hval:∃ad',sliced (some ad) 0 hh.toNat hh.toNat es=.slice (some ad') (l.take hh.toNat).length (l.take hh.toNat).length:=by
   rw[hlen];unfold sliced
   split
   ·rename_i h0;exact⟨ad,by simp[h0]⟩
   ·exact⟨ad.add (0*es),by simp⟩
  obtain⟨ad',hval⟩:=hval
  rw[hval]
  refine .ex _ _ ?_
  have hsub':Aw w (c.bar β s.V) (.list false (l.take hh.toNat)) (sliced (some ad) 0 hh.toNat cap es):=by simpa using hsub
  have hvals:sliced (some ad) 0 hh.toNat cap es=.slice (some ad) hh.toNat cap:=by
   unfold sliced;split
   ·rename_i h0;simp
   ·simp[Addr.add]
  have had:(l.take hh.toNat).length≠0->ad'=ad:=by
   intro hne
   rw[hlen] at hne
   unfold sliced at hval
   rw[if_neg hne] at hval
   simp[Addr.add] at hval
   exact hval.1.symm
  rw[hvals] at hsub'
  cases hll:l.take hh.toNat with
  |nil=>exact .empty _ _ (by simp[maxLen])
  |cons z zs =>
   rw[hll] at had hsub' hlen
   rw[had (by simp)]
   rw[←hlen] at hsub'
   cases hsub' with
   |list _ es' b off _ vs hcap hm hb hpos hs h1' hc hv=>exact .list _ es' b off _ vs (Nat.le_refl _) (by omega) hb hpos hs h1' hc hv
 ·rename_i k1 hh k2 m hlo hhi heq
  simp only[List.cons.injEq] at heq;obtain⟨rfl,rfl⟩:=heq
  obtain⟨rfl,rfl,hK⟩:=he
  cases lov with
  |some _=>simp at hlo
  |none =>
  cases hiv with
  |none=>simp at hhi
  |some hv =>
  obtain⟨rfl,_⟩:=A7 (hr 0 _ hv rfl rfl)
  obtain⟨rfl,_⟩:=A7 (hr 1 _ mv rfl rfl)
  cases hx with|d _ _ hx =>
  cases hx with|nil =>
  refine CY h hK (u:=.slice none 0 0) (by rw[run_sliceAt_slice w t _ _ _ _ ht',run_slice_hm w t none 0 0 ht' k1 k2 0 0 (Int.le_refl _) (Int.le_refl _) (by omega),hel,BS hsz];rfl) (.d _ _ .nil)
 ·rename_i o g off k1 hh k2 m hlo hhi heq
  exfalso
  have h3:=congrArg List.length heq
  cases lov with
  |none=>simp at hlo
  |some _=>cases hiv with
   |none=>simp at hhi
   |some _=>simp at hl h3;omega
 ·rename_i cs k1 hh k2 m hlo hhi heq
  exfalso
  have h3:=congrArg List.length heq
  cases lov with
  |none=>simp at hlo
  |some _=>cases hiv with
   |none=>simp at hhi
   |some _=>simp at hl h3;omega
 ·rename_i cs off k1 hh k2 m hlo hhi heq
  exfalso
  have h3:=congrArg List.length heq
  cases lov with
  |none=>simp at hlo
  |some _=>cases hiv with
   |none=>simp at hhi
   |some _=>simp at hl h3;omega
 ·rename_i l k0 aa k1 hh k2 m hlo hhi heq
  simp only[List.cons.injEq] at heq;obtain⟨rfl,rfl⟩:=heq
  obtain⟨hu,rfl,h0,h1,h2,hK⟩:=he
  cases lov with
  |none=>simp at hlo
  |some lv =>
  cases hiv with
  |none=>simp at hhi
  |some hv =>
  obtain⟨rfl,_⟩:=A7 (hr 0 _ lv rfl rfl)
  obtain⟨rfl,_⟩:=A7 (hr 1 _ hv rfl rfl)
  obtain⟨rfl,_⟩:=A7 (hr 2 _ mv rfl rfl)
  cases hx with|d _ _ hx =>
  obtain⟨a,cap,rfl⟩:=Mb hx
  obtain⟨_,hlc,hsub⟩:=ND hx hes hu (show aa.toNat<=hh.toNat by omega) (show hh.toNat<=l.length by omega)
  refine CY h hK (u:=sliced a aa.toNat hh.toNat hh.toNat es) (by rw[run_sliceAt_slice w t _ _ _ _ ht',run_slice_lhm w t a l.length cap ht' k0 k1 k2 aa hh hh h0 (by omega) (Int.le_refl _) (by omega),hel,BS hsz];rfl) ?_
  have hne:∃ad,a=some ad:=by cases hx<;>exact⟨_,rfl⟩
  obtain⟨ad,rfl⟩:=hne
  have hlen:((l.drop aa.toNat).take (hh.toNat-aa.toNat)).length=hh.toNat-aa.toNat:=by simp;omega
  have e1:sliced (some ad) aa.toNat hh.toNat hh.toNat es=.slice (some (ad.add (aa.toNat * es))) (hh.toNat-aa.toNat) (hh.toNat-aa.toNat):=by
   unfold sliced;rw[if_neg (by omega)];rfl
  have e2:sliced (some ad) aa.toNat hh.toNat cap es=.slice (some (ad.add (aa.toNat * es))) (hh.toNat-aa.toNat) (cap-aa.toNat):=by
   unfold sliced;rw[if_neg (by omega)];rfl
  rw[e1]
  rw[e2] at hsub
  generalize (l.drop aa.toNat).take (hh.toNat-aa.toNat)=zs at hsub hlen ⊢
  rw[←hlen] at hsub ⊢
  generalize ad.add (aa.toNat * es)=ad' at hsub ⊢
  refine .ex _ _ ?_
  cases zs with
  |nil=>simp at hlen;omega
  |cons z zs =>
   cases hsub with
   |list _ es' b off _ vs hcap hm hb hpos hs h1' hc hv=>exact .list _ es' b off _ vs (Nat.le_refl _) (by omega) hb hpos hs h1' hc hv
 ·exact he.elim
theorem Tz (h:BI E c β s tm w) {t e:TypeId}{n:Nat}(ht:E.P.underlying t=some (.array n e)) (hsz:EY E.P e=some 1) (hn:n<=4096)
  {x:AV}{u:Value}{y z:AV}{hv:Value}{hiv:Option Value}{dst:Option Nat}(hhi:hiv=some hv\/hiv=none/\hv=.int .i64 n)
  (hx:AY w (c.bar β s.V) β s.V.cn x u) (hy:AY w (c.bar β s.V) β s.V.cn y hv) (hz:AY w (c.bar β s.V) β s.V.cn z (.int .i64 n))
  (he:ev E dst s.V (.slice 1 true true true) [x,y,z] K):M5 E c s tm K ((Instr.sliceAt t u none hiv none).run E.P w):=by
 have hel:E.P.elem t=e:=by simp[Program.elem,ht]
 have hlen:E.P.arrayLen t=n:=by simp[Program.arrayLen,ht]
 have ht':E.P.underlying t=some (.array (E.P.arrayLen t) (E.P.elem t)):=by rw[hel,hlen];exact ht
 have key:∀(b off:Nat) (k:IntKind) (i:Int),0<=i->i<=n->hv=.int k i->(Instr.sliceAt t (.pointer (some ⟨b,off,none⟩)) none hiv none).run E.P w=.ok (.slice (some ⟨b,off,none⟩) i.toNat n) w:=by
  intro b off k i h0 h1 hvv
  have ha:(Addr.add ⟨b,off,none⟩ (0*1))=⟨b,off,none⟩:=by simp[Addr.add_lit]
  rcases hhi with hh|⟨hh,hw⟩
  ·rw[hh,hvv,run_sliceAt_array_h w t _ ht' k i h0 (by rw[hlen];exact h1),hel,BS hsz,hlen]
   show Result.ok (slicedAt _ _ _ _ _) w=_
   simp only[slicedAt,ha,ite_self,Nat.sub_zero]
  ·rw[hvv] at hw
   injection hw with hw1 hw2
   subst hw2
   rw[hh,run_sliceAt_array_all w t _ ht',hel,BS hsz,hlen]
   show Result.ok (slicedAt _ _ _ _ _) w=_
   simp only[slicedAt,ha,ite_self,Nat.sub_zero,Int.toNat_natCast]
 unfold ev at he
 simp only[if_true] at he
 split at he
 ·rename_i h1 h2 h3;cases h1
 ·rename_i h1 h2 h3;cases h1
 ·rename_i o g off k1 hh k2 m hlo _ heq
  simp only[List.cons.injEq,and_true] at heq;obtain⟨rfl,rfl,rfl⟩:=heq
  obtain⟨h0,h1,hK⟩:=he
  obtain⟨hvv,_⟩:=A7 hy
  obtain⟨hm,_⟩:=A7 hz
  injection hm with _ hm
  subst hm
  cases hx with|ptr _ _ _ b hlt hβ =>
  exact CY h hK (key _ _ _ _ h0 h1 hvv) (.mref _ _ _ _ hlt (by rw[hβ];simp only[D_];rw[if_pos (by omega)];rfl) rfl)
 ·rename_i cs k1 hh k2 m hlo _ heq
  simp only[List.cons.injEq,and_true] at heq;obtain⟨rfl,rfl,rfl⟩:=heq
  obtain⟨h0,h1,h2,hK⟩:=he
  obtain⟨hvv,_⟩:=A7 hy
  obtain⟨hm,_⟩:=A7 hz
  injection hm with _ hm
  subst hm
  cases hx with|d _ _ hx =>
  cases hx with|ptr _ b off vs hb hne h1' hc hv' =>
  refine CY h hK (key _ _ _ _ h0 h1 hvv) (.d _ _ ?_)
  have hl:(cs.take hh.toNat).length=hh.toNat:=by rw[List.length_take];omega
  have hg:∀(i:Nat) (x:D),(cs.take hh.toNat)[i]?=some x->cs[i]?=some x:=fun i x hi=>by
   rw[List.getElem?_take] at hi
   split at hi
   ·exact hi
   ·cases hi
  have hcell:∀(i:Nat) (x:D) (j:Nat) (c:D),(cs.take hh.toNat)[i]?=some x->x.cells[j]?=some c->cs[i]?=some c/\j=0:=fun i x j c hi hj=>by
   have h3:=hg i x hi
   have h4:=h1' x (List.mem_of_getElem? h3)
   have h5:x.cells=[x]:=by cases x<;>first|rfl|simp[D.one] at h4
   rw[h5] at hj
   cases j with
   |zero=>simp at hj;subst hj;exact⟨h3,rfl⟩
   |succ j=>simp at hj
  conv=>arg 4;rw[←hl]
  refine .list _ 1 b off n (fun i _=>vs i) (by omega) (by unfold maxLen;omega) hb (by omega) (fun x hx=>?_) (fun x c hx hc'=>?_) (fun i x j c hi hj=>?_) (fun i x j c hi hj=>?_)
  ·have h4:=h1' x (List.mem_of_mem_take hx)
   cases x<;>first|rfl|simp[D.one] at h4
  ·have h4:=h1' x (List.mem_of_mem_take hx)
   have h5:x.cells=[x]:=by cases x<;>first|rfl|simp[D.one] at h4
   rw[h5] at hc';simp at hc';subst hc';exact h4
  ·obtain⟨h6,rfl⟩:=hcell i x j c hi hj
   rw[Nat.mul_one,Nat.add_zero];exact hc i c h6
  ·obtain⟨h6,_⟩:=hcell i x j c hi hj
   exact hv' i c h6
 ·rename_i cs off0 k1 hh k2 m hlo _ heq
  simp only[List.cons.injEq,and_true] at heq;obtain⟨rfl,rfl,rfl⟩:=heq
  obtain⟨h0,h1,h2,hK⟩:=he
  obtain⟨hvv,_⟩:=A7 hy
  obtain⟨hm,_⟩:=A7 hz
  injection hm with _ hm
  subst hm
  cases hx with|dptr _ _ b base vs hb hne h1' hc hv' =>
  refine CY h hK (key _ _ _ _ h0 h1 hvv) (.d _ _ ?_)
  have hl:((cs.drop off0).take hh.toNat).length=hh.toNat:=by rw[List.length_take,List.length_drop];omega
  have hg:∀(i:Nat) (x:D),((cs.drop off0).take hh.toNat)[i]?=some x->cs[off0+i]?=some x:=fun i x hi=>by
   rw[List.getElem?_take] at hi
   split at hi
   ·rw[List.getElem?_drop] at hi;exact hi
   ·cases hi
  have hcell:∀(i:Nat) (x:D) (j:Nat) (c:D),((cs.drop off0).take hh.toNat)[i]?=some x->x.cells[j]?=some c->cs[off0+i]?=some c/\j=0:=fun i x j c hi hj=>by
   have h3:=hg i x hi
   have h4:=h1' x (List.mem_of_getElem? h3)
   have h5:x.cells=[x]:=by cases x<;>first|rfl|simp[D.one] at h4
   rw[h5] at hj
   cases j with
   |zero=>simp at hj;subst hj;exact⟨h3,rfl⟩
   |succ j=>simp at hj
  conv=>arg 4;rw[←hl]
  refine .list _ 1 b (base+off0) n (fun i _=>vs (off0+i)) (by omega) (by unfold maxLen;omega) hb (by omega) (fun x hx=>?_) (fun x c hx hc'=>?_) (fun i x j c hi hj=>?_) (fun i x j c hi hj=>?_)
  ·have h4:=h1' x (List.mem_of_mem_drop (List.mem_of_mem_take hx))
   cases x<;>first|rfl|simp[D.one] at h4
  ·have h4:=h1' x (List.mem_of_mem_drop (List.mem_of_mem_take hx))
   have h5:x.cells=[x]:=by cases x<;>first|rfl|simp[D.one] at h4
   rw[h5] at hc';simp at hc';subst hc';exact h4
  ·obtain⟨h6,rfl⟩:=hcell i x j c hi hj
   rw[Nat.mul_one,Nat.add_zero,Nat.add_assoc];exact hc _ c h6
  ·obtain⟨h6,_⟩:=hcell i x j c hi hj
   exact hv' _ c h6
 ·rename_i heq
  simp at heq
 ·exact he.elim
end
end Go.Pw
end
section
namespace Go.Pw
open Go.RowKit
section
variable {P:Program}{w:World}
theorem Aj {α γ:Type}{f:α->Option γ}:∀{l:List α}{r:List γ},Ax f l=some r->r.length=l.length
 |[],r,h=>by simp[Ax] at h;subst h;rfl
 |x::xs,r,h=>by
  simp only[Ax] at h
  split at h
  ·cases h
  ·split at h
   ·cases h
   ·rename_i y hy ys hys
    simp at h;subst h
    simp[Aj hys]
theorem B9 {α γ:Type}{f:α->Option γ}:∀{l:List α}{r:List γ}{i:Nat}{x:α},Ax f l=some r->l[i]?=some x->∃y,r[i]?=some y/\f x=some y
 |[],r,i,x,h,hx=>by simp at hx
 |z::zs,r,i,x,h,hx=>by
  simp only[Ax] at h
  split at h
  ·cases h
  ·split at h
   ·cases h
   ·rename_i y hy _ ys hys
    simp at h;subst h
    cases i with
    |zero=>simp at hx;subst hx;exact⟨y,by simp,hy⟩
    |succ i=>simp at hx ⊢;exact B9 hys hx
end
end Go.Pw
end
section
namespace Go.Pw
open Go.RowKit
section
variable {E:CB}{c:C4}{β:Nat->Nat->Value}{s:A1}{tm:Array Value}{w:World}{K:AV->BQ->Prop}
theorem NB {fb β' cn} {x:AV}{u:Value}{d:D}(h:AY w fb β' cn x u) (hd:x.toD0=some d):Aw w fb d u/\(x.one=true->d.one=true):=by
 unfold AV.toD0 at hd
 split at hd
 ·cases hd
 ·cases hd
 ·simp at hd;subst hd
  cases h with|d _ _ h=>exact⟨h,fun h=>h⟩
 ·simp at hd;subst hd
  cases h with|ex _ a h=>exact⟨h,fun _=>rfl⟩
 ·split at hd
  ·cases hd
  ·simp at hd;subst hd
   cases h with|dptr _ _ b base vs hb hne h1 hc hv=>exact⟨.ptr _ b base vs hb hne h1 hc hv,fun _=>rfl⟩
 ·cases hd
theorem DD {α γ:Type}{f:α->Option γ}{l:List α}{r:List γ}{y:γ}(h:Ax f l=some r) (hy:y∈r):∃x,x∈l/\f x=some y:=by
 obtain⟨i,hi⟩:=List.getElem?_of_mem hy
 have hlt:i<l.length:=by rw[←Aj h];exact(List.getElem?_eq_some_iff.1 hi).1
 obtain⟨y',h1,h2⟩:=B9 h (List.getElem?_eq_getElem hlt)
 rw[hi] at h1
 simp at h1;subst h1
 exact⟨_,List.getElem_mem hlt,h2⟩
theorem A3 {α γ:Type}{f:α->Option γ}{l:List α}{r:List γ}{i:Nat}{y:γ}(h:Ax f l=some r) (hy:r[i]?=some y):∃x,l[i]?=some x/\f x=some y:=by
 have hlt:i<l.length:=by rw[←Aj h];exact(List.getElem?_eq_some_iff.1 hy).1
 obtain⟨y',h1,h2⟩:=B9 h (List.getElem?_eq_getElem hlt)
 rw[hy] at h1;simp at h1;subst h1
 exact⟨_,List.getElem?_eq_getElem hlt,h2⟩
theorem DA {fb β' cn} {x:AV}{u:Value}{d:D}(h:AY w fb β' cn x u) (hd:x.toD1=some d):Aw w fb d u/\(x.one=true->d.one=true):=by
 unfold AV.toD1 at hd
 split at hd
 ·rename_i cs
  split at hd
  ·rename_i l hl
   simp at hd;subst hd
   obtain⟨vs,rfl,hc,h1⟩:=N9 h
   refine⟨.agg l vs (by rw[Aj hl];exact hc.1) (fun y hy=>?_) (fun i y v hy hv=>?_),fun h=>by simp[AV.one] at h⟩
   ·obtain⟨x,hx,hxy⟩:=DD hl hy
    obtain⟨i,hi⟩:=List.getElem?_of_mem hx
    obtain⟨v,hv⟩:∃v,vs[i]?=some v:=⟨_,Array.getElem?_eq_getElem (by have:=hc.1;have:=(List.getElem?_eq_some_iff.1 hi).1;omega)⟩
    exact(NB (hc.2 i x v hi hv) hxy).2 (h1 x hx)
   ·obtain⟨x,hx,hxy⟩:=A3 hl hy
    exact(NB (hc.2 i x v hx hv) hxy).1
  ·cases hd
 ·rename_i f cs
  split at hd
  ·rename_i l hl
   simp at hd;subst hd
   cases h with|fn _ _ vs hlen hr =>
   exact⟨.fn f l vs (by rw[Aj hl];exact hlen) (fun i y v hy hv=>by
    obtain⟨x,hx,hxy⟩:=A3 hl hy
    exact(NB (hr i x v hx hv) hxy).1),fun _=>rfl⟩
  ·cases hd
 ·exact NB h hd
theorem Oo {c:C4}{β:Nat->Nat->Value}{V:AN}{b:Nat}(h:c.fb b):c.bar β V b:=.inl h
theorem EZ {x:AV}{xs:List AV}{o:Nat}(hx:x∈xs) (ho:o∈x.sites):o∈AV.sites.sitesL xs:=by
 induction xs with
 |nil=>cases hx
 |cons y ys ih =>
  simp only[AV.sites.sitesL,List.mem_append]
  cases hx with
  |head=>exact .inl ho
  |tail _ h=>exact .inr (ih h)
theorem Bx {w':World}{fb:Nat->Prop}{ety es:Nat}{nl:Bool}{l:List D}{v:Value}(h:CR w' fb ety es nl l v) (hb:∀b,Cm v b->¬fb b):Aw w' fb (.list nl l) v:=by
 rcases h with⟨h1,h2,h3⟩|⟨h1,b,off,cap,cur,h2,h3,h4,h5,h6,h7,h8,h10,h9⟩
 ·subst h1 h2;rw[h3];exact .nil
 ·subst h1;subst h2
  refine .list l es b off cap (fun i j=>cur.getD (off+i*es+j) undef) h4 h5 (hb b rfl) h7 h8 h10 (fun i x j c hi hj=>?_) (fun i x j c hi hj=>?_)
  ·obtain⟨u,hu,_⟩:=h9 i x j c hi hj
   rw[Bj h3,hu];simp[Array.getD_eq_getD_getElem?,hu]
  ·obtain⟨u,hu,hd⟩:=h9 i x j c hi hj
   simpa[Array.getD_eq_getD_getElem?,hu] using hd
theorem Gm (h:BI E c β s tm w) {fb':Nat->Prop}(hfb:∀b,fb' b->c.bar β s.V b) {x:AV}{u:Value}{d:D}(hx:AY w (c.bar β s.V) β s.V.cn x u) (hd:x.snap0 s.V=some d) (hs:∀o g y b,o∈x.sites->s.V.ob o=some (g,y)->Cm (β o g) b->¬fb' b):Aw w fb' d u/\(x.one=true->d.one=true):=by
 have weak:∀{d:D}{u:Value},Aw w (c.bar β s.V) d u->Aw w fb' d u:=fun h=>h.mono (Am.refl _ _) fun b _ hb=>hfb b hb
 unfold AV.snap0 at hd
 split at hd
 ·rename_i o g
  split at hd
  ·rename_i ety es nl l hg
   simp at hd;subst hd
   have hob:=AN.get_some hg
   obtain⟨hlt,ho⟩:=h.objs _ _ _ hob
   cases ho with|row _ _ _ _ _ ho =>
   cases hx with|own _ _ _ _ =>
   refine⟨?_,fun _=>rfl⟩
   rcases ho with⟨h1,h2,h3⟩|⟨h1,b,off,cap,cur,h2,h3,h4,h5,h6,h7,h8,h10,h9⟩
   ·subst h1 h2;rw[h3];exact .nil
   ·subst h1;rw[h2]
    refine .list l es b off cap (fun i j=>cur.getD (off+i*es+j) undef) h4 h5 ?_ h7 h8 h10 (fun i x j c hi hj=>?_) (fun i x j c hi hj=>?_)
    ·exact hs o g _ b (by simp[AV.sites]) hob (by rw[h2];exact rfl)
    ·obtain⟨u,hu,_⟩:=h9 i x j c hi hj
     rw[Bj h3,hu];simp[Array.getD_eq_getD_getElem?,hu]
    ·obtain⟨u,hu,hd⟩:=h9 i x j c hi hj
     simp only[Array.getD_eq_getD_getElem?,hu,Option.getD_some];exact weak hd
  ·cases hd
 ·rename_i o g
  split at hd
  ·rename_i xs hg
   split at hd
   ·rename_i c0 l hl
    simp at hd;subst hd
    have hob:=AN.get_some hg
    obtain⟨hlt,ho⟩:=h.objs _ _ _ hob
    cases hx with|ptr _ _ _ b hlt hβ =>
    rw[hβ] at ho
    cases ho with|cells _ _ cur e hb hlen h1 hr =>
    refine⟨.ptr (c0::l) b 0 (fun j=>cur.getD j undef) (hs o g _ b (by simp[AV.sites]) hob (by rw[hβ];exact rfl)) (by simp) (fun y hy=>?_) (fun j y hj=>?_) (fun j y hj=>?_),fun _=>rfl⟩
    ·obtain⟨x,hx,hxy⟩:=DD hl hy
     obtain⟨i,hi⟩:=List.getElem?_of_mem hx
     obtain⟨v,hv⟩:∃v,cur[i]?=some v:=⟨_,Array.getElem?_eq_getElem (by have:=(List.getElem?_eq_some_iff.1 hi).1;omega)⟩
     exact(DA (hr i x v hi hv) hxy).2 (h1 x hx)
    ·obtain⟨x,hx,hxy⟩:=A3 hl hj
     have hlt:j<cur.size:=by have:=(List.getElem?_eq_some_iff.1 hx).1;omega
     rw[Nat.zero_add,Bj hb,Array.getElem?_eq_getElem hlt];simp[Array.getD_eq_getD_getElem?,hlt]
    ·obtain⟨x,hx,hxy⟩:=A3 hl hj
     have hlt:j<cur.size:=by have:=(List.getElem?_eq_some_iff.1 hx).1;omega
     have:=(DA (hr j x _ hx (Array.getElem?_eq_getElem hlt)) hxy).1
     simp only[Array.getD_eq_getD_getElem?,Array.getElem?_eq_getElem hlt,Option.getD_some];exact weak this
   ·cases hd
  ·cases hd
 ·obtain⟨h1,h2⟩:=DA hx hd
  exact⟨weak h1,h2⟩
theorem S9 (h:BI E c β s tm w) {fb':Nat->Prop}(hfb:∀b,fb' b->c.bar β s.V b) {x:AV}{u:Value}{d:D}(hx:AY w (c.bar β s.V) β s.V.cn x u) (hd:x.snap s.V=some d) (hs:∀o g y b,o∈x.sites->s.V.ob o=some (g,y)->Cm (β o g) b->¬fb' b):Aw w fb' d u:=by
 unfold AV.snap at hd
 split at hd
 ·rename_i cs
  split at hd
  ·rename_i l hl
   simp at hd;subst hd
   obtain⟨vs,rfl,hc,h1⟩:=N9 hx
   refine .agg l vs (by rw[Aj hl];exact hc.1) (fun y hy=>?_) (fun i y v hy hv=>?_)
   ·obtain⟨x,hx,hxy⟩:=DD hl hy
    obtain⟨i,hi⟩:=List.getElem?_of_mem hx
    obtain⟨v,hv⟩:∃v,vs[i]?=some v:=⟨_,Array.getElem?_eq_getElem (by have:=hc.1;have:=(List.getElem?_eq_some_iff.1 hi).1;omega)⟩
    exact(Gm h hfb (hc.2 i x v hi hv) hxy fun o g y b ho=>hs o g y b (by simp only[AV.sites];exact EZ hx ho)).2 (h1 x hx)
   ·obtain⟨x,hx,hxy⟩:=A3 hl hy
    exact(Gm h hfb (hc.2 i x v hx hv) hxy fun o g y b ho=>hs o g y b (by simp only[AV.sites];exact EZ (List.mem_of_getElem? hx) ho)).1
  ·cases hd
 ·rename_i f cs
  split at hd
  ·rename_i l hl
   simp at hd;subst hd
   cases hx with|fn _ _ vs hlen hr =>
   exact .fn f l vs (by rw[Aj hl];exact hlen) (fun i y v hy hv=>by
    obtain⟨x,hx,hxy⟩:=A3 hl hy
    exact(Gm h hfb (hr i x v hx hv) hxy fun o g y b ho=>hs o g y b (by simp only[AV.sites];exact EZ (List.mem_of_getElem? hx) ho)).1)
  ·cases hd
 ·exact(Gm h hfb hx hd hs).1
theorem S' (h:BI E c β s tm w) {x:AV}{u:Value}{d:D}(hx:AY w (c.bar β s.V) β s.V.cn x u) (hd:x.snap0 s.V=some d):Aw w c.fb d u/\(x.one=true->d.one=true) :=
 Gm h (fun b hb=>Oo hb) hx hd fun o g y b _ ho hb=>(h.home o g y b ho hb).2.2
theorem Qz (h:BI E c β s tm w) {x:AV}{u:Value}{d:D}(hx:AY w (c.bar β s.V) β s.V.cn x u) (hd:x.snap s.V=some d):Aw w c.fb d u :=
 S9 h (fun b hb=>Oo hb) hx hd fun o g y b _ ho hb=>(h.home o g y b ho hb).2.2
theorem S_ (h:BI E c β s tm w) {x:AV}{u:Value}{d:D}(hx:AY w (c.bar β s.V) β s.V.cn x u) (hd:x.snapC s.V=some d):Aw w c.fb d u/\(x.one=true->d.one=true):=by
 unfold AV.snapC at hd
 split at hd
 ·rename_i o g
  exact S' h hx (by unfold AV.snap0;exact hd)
 ·obtain⟨h1,h2⟩:=DA hx hd
  exact⟨h1.mono (Am.refl _ _) fun b _ hb=>Oo hb,h2⟩
theorem ae (h:BI E c β s tm w) {x:AV}{u:Value}{d:D}(hx:AY w (c.bar β s.V) β s.V.cn x u) (hd:x.snapN s.V=some d):Aw w c.fb d u:=by
 unfold AV.snapN at hd
 split at hd
 ·rename_i o g
  split at hd
  ·rename_i xs hg
   split at hd
   ·rename_i c0 l hl
    simp at hd;subst hd
    have hob:=AN.get_some hg
    obtain⟨hlt,ho⟩:=h.objs _ _ _ hob
    cases hx with|ptr _ _ _ b hlt hβ =>
    rw[hβ] at ho
    cases ho with|cells _ _ cur e hb hlen h1 hr =>
    refine .ptr (c0::l) b 0 (fun j=>cur.getD j undef) ((h.home o g _ b hob (by rw[hβ];exact rfl)).2.2) (by simp) (fun y hy=>?_) (fun j y hj=>?_) (fun j y hj=>?_)
    ·obtain⟨x,hx,hxy⟩:=DD hl hy
     obtain⟨i,hi⟩:=List.getElem?_of_mem hx
     obtain⟨v,hv⟩:∃v,cur[i]?=some v:=⟨_,Array.getElem?_eq_getElem (by have:=(List.getElem?_eq_some_iff.1 hi).1;omega)⟩
     exact(S_ h (hr i x v hi hv) hxy).2 (h1 x hx)
    ·obtain⟨x,hx,hxy⟩:=A3 hl hj
     have hlt:j<cur.size:=by have:=(List.getElem?_eq_some_iff.1 hx).1;omega
     rw[Nat.zero_add,Bj hb,Array.getElem?_eq_getElem hlt];simp[Array.getD_eq_getD_getElem?,hlt]
    ·obtain⟨x,hx,hxy⟩:=A3 hl hj
     have hlt:j<cur.size:=by have:=(List.getElem?_eq_some_iff.1 hx).1;omega
     have:=(S_ h (hr j x _ hx (Array.getElem?_eq_getElem hlt)) hxy).1
     simp only[Array.getD_eq_getD_getElem?,Array.getElem?_eq_getElem hlt,Option.getD_some];exact this
   ·cases hd
  ·cases hd
 ·exact Qz h hx hd
theorem WC (h:BI E c β s tm w) {fb':Nat->Prop}(hfb:∀b,fb' b->c.bar β s.V b) {e1 e2:Nat}{nl0:Bool}{ix:List Nat}{rows:List (Bool×List D)}{o g j:Nat}{x:Bool×List D}{u:Value}
  (hg:s.V.get o g=some (.mat e1 e2 nl0 ix rows)) (hx:rows[j]?=some x) (hp:AY w (c.bar β s.V) β s.V.cn (.mref (.row j) o g) u) (hs:∀b,Cm (β o g) b->¬fb' b):Aw w fb' (.list x.1 x.2) u:=by
 have hob:=AN.get_some hg
 obtain⟨hlt,ho⟩:=h.objs _ _ _ hob
 obtain⟨v,hv⟩:∃v,β o g=v:=⟨_,rfl⟩
 cases hp with|mref _ _ _ u hlt hm hu1 =>
 rw[hv] at ho
 cases ho with|mat _ _ _ _ _ _ ho =>
 obtain⟨v0,vs,hvv,hlen,hc,hr,hsep⟩:=ho
 have hv':=hv
 rw[hvv] at hv'
 rw[hv'] at hm hs
 simp only[D_,Ba,List.getElem?_cons_succ] at hm
 have hrow:=hr j x u hx hm
 refine Bx (hrow.mono (Am.refl _ _) (fun b _ hb=>hfb b hb) fun _ _ _=>rfl) fun b hb=>hs b ⟨j+1,u,by simpa using hm,hrow.blk hb⟩
theorem Zs (h:BI E c β s tm w) {fb':Nat->Prop}(hfb:∀b,fb' b->c.bar β s.V b) {e1 e2:Nat}{nl:Bool}{ix:List Nat}{rows:List (Bool×List D)}{o g:Nat}{u:Value}
  (hg:s.V.get o g=some (.mat e1 e2 nl ix rows)) (hp:AY w (c.bar β s.V) β s.V.cn (.mref .out o g) u) (hs:∀b,Cm (β o g) b->¬fb' b):Aw w fb' (.list nl (Gw ix rows)) u:=by
 have hob:=AN.get_some hg
 obtain⟨hlt,ho⟩:=h.objs _ _ _ hob
 obtain⟨v,hv⟩:∃v,β o g=v:=⟨_,rfl⟩
 have hp':=hp
 cases hp with|mref _ _ _ u hlt hm hu1 =>
 rw[hv] at ho
 cases ho with|mat _ _ _ _ _ _ ho =>
 obtain⟨v0,vs,hvv,hlen,hc,hr,hsep⟩:=ho
 have hv':=hv
 rw[hvv] at hv'
 rw[hv'] at hm
 simp only[D_,Ba,List.getElem?_cons_zero,Option.some.injEq] at hm
 subst hm
 rcases hc with⟨h01,h02,h03⟩|⟨h01,b,off,cap,cur,h2,h3,h4,h5,h6,h7⟩
 ·subst h01 h02 h03;exact .nil
 ·subst h01 h2
  have hb:¬fb' b:=hs b (by rw[hv'];exact⟨0,_,by rw[Ba];rfl,rfl⟩)
  have hlm:(Gw ix rows).length=ix.length:=by simp[Gw]
  rw[←hlm]
  refine Aw.list (w:=w) (fb:=fb') (Gw ix rows) 1 b off cap (fun i _=>cur.getD (off+i) undef) (by omega) h5 hb Nat.one_pos (fun x hx=>by
    simp only[Gw,List.mem_map] at hx;obtain⟨j,_,rfl⟩:=hx;rfl) (fun x cc hx hcc=>by
    simp only[Gw,List.mem_map] at hx;obtain⟨j,_,rfl⟩:=hx;simp[D.cells] at hcc;subst hcc;rfl) (fun i x q cc hi hq=>?_) (fun i x q cc hi hq=>?_)
  all_goals
   simp only[Gw,List.getElem?_map,Option.map_eq_some_iff] at hi
   obtain⟨j,hj,rfl⟩:=hi
   obtain⟨uj,huj,hcj⟩:=h7 i j hj
   obtain⟨x,hx⟩:∃x,rows[j]?=some x:=⟨_,List.getElem?_eq_getElem (by have:=(List.getElem?_eq_some_iff.1 huj).1;omega)⟩
   cases q with
   |succ q=>simp[D.cells] at hq
   |zero =>
    simp[D.cells] at hq;subst hq
    first
    |rw[Bj h3];simp[Array.getD_eq_getD_getElem?,hcj]
    |simp only[Array.getD_eq_getD_getElem?,hcj,Option.getD_some,hx]
     exact WC h hfb hg hx (.mref _ _ _ _ hlt (by rw[hv'];simp[D_,huj]) (hr j x uj hx huj).one) hs
theorem SH (h:BI E c β s tm w) {x:AV}{u:Value}{nl:Bool}{l:List D}(hx:AY w (c.bar β s.V) β s.V.cn x u) (hl:x.asList s.V=some (nl,l)):Aw w c.fb (.list nl l) u:=by
 have weak:∀{d:D}{u:Value},Aw w (c.bar β s.V) d u->Aw w c.fb d u:=fun h=>h.mono (Am.refl _ _) fun b _ hb=>Oo hb
 unfold AV.asList at hl
 split at hl
 ·simp at hl;obtain⟨rfl,rfl⟩:=hl
  cases hx with|d _ _ hx=>exact weak hx
 ·simp at hl;obtain⟨rfl,rfl⟩:=hl
  cases hx with|ex _ a hx=>exact weak hx
 ·rename_i o g
  split at hl
  ·rename_i ety es nl l hg
   simp at hl;obtain⟨rfl,rfl⟩:=hl
   exact(S' h hx (by simp[AV.snap0,hg])).1
  ·cases hl
 ·rename_i o g
  split at hl
  ·rename_i e1 e2 nl ix rows hg
   simp at hl;obtain⟨rfl,rfl⟩:=hl
   exact Zs h (fun b hb=>Oo hb) hg hx fun b hb=>(h.home _ _ _ b (AN.get_some hg) hb).2.2
  ·cases hl
 ·rename_i j o g
  split at hl
  ·rename_i e1 e2 nl0 ix rows hg
   exact WC h (fun b hb=>Oo hb) hg hl hx fun b hb=>(h.home _ _ _ b (AN.get_some hg) hb).2.2
  ·cases hl
 ·cases hl
end
end Go.Pw
end
section
namespace Go.Pw
open Go.RowKit
section
variable {P:Program}{w:World}
def s9 (w:World) (fb:Nat->Prop) (tys:qQ) (kvs:List (D×D)) (es:List MapEntry):Prop :=
 es.length=kvs.length/\∀(i:Nat) (kv:D×D) (e:MapEntry),kvs[i]?=some kv->es[i]?=some e->sF tys kv.1=true/\Aw w fb kv.1 e.key/\Aw w fb kv.2 e.val
def ri (k:D) (kvs:List (D×D)) (es:List MapEntry) (i:Nat):Option (Nat×Value):=(qz k kvs).bind fun j=>(es[j]?).map fun e=>(i+j,e.val)
end
section
variable {E:CB}{c:C4}{β:Nat->Nat->Value}{s:A1}{tm:Array Value}{w:World}{K:AV->BQ->Prop}
end
end Go.Pw
end
section
namespace Go.Pw
open Go.RowKit
section
variable {E:CB}{c:C4}{β:Nat->Nat->Value}{s:A1}{tm:Array Value}{w:World}{K:AV->BQ->Prop}
def rV (E:CB) (c:C4) (s:A1) (tm:Array Value) (K:AV->BQ->Prop) (r:Result Unit):Prop :=
 ∃w' ch β',r=.ok () w'/\K .undef ch/\BI E c β' ⟨s.sl,s.V.app ch⟩ tm w'
def World.setObjAt (w:World) (r:Nat) (o:Obj):World:={ w with heap:=w.heap.setIfInBounds r o }
end
end Go.Pw
end
section
namespace Go.Pw
open Go.RowKit
section
variable {E:CB}{c:C4}{β:Nat->Nat->Value}{s:A1}{tm:Array Value}{w:World}{K:AV->BQ->Prop}
theorem CI (w:World) (o:Obj):Below w.heap.size w (w.alloc o):=(Below.refl _ _).alloc (Nat.le_refl _) o
theorem ZD (w:World):Below w.heap.size w w.drew:=(Below.refl _ _).drew
theorem Iq (w:World) (o:Obj):Below w.heap.size w (w.drew.alloc o):=((Below.refl _ _).drew).alloc (Nat.le_refl _) o
theorem Fn {v:Value}(h:v.oneCell'=true):v.cells=#[v]:=by cases v<;>first|rfl|simp[Value.oneCell'] at h
theorem M0 {fb β' cn} {x:AV}{u:Value}{cs:List AV}(h:AY w fb β' cn x u) (hc:x.cells?=some cs):BW (AY w fb β' cn) cs u.cells/\∀y,y∈cs->y.one=true:=by
 have one:∀{y:AV},AY w fb β' cn y u->y.one=true->BW (AY w fb β' cn) [y] u.cells/\∀z,z∈[y]->z.one=true:=by
  intro y hy h1
  rw[Fn (hy.oneCell h1)]
  refine⟨⟨rfl,fun i c v hc hv=>?_⟩,by simpa using h1⟩
  match i with
  |0=>simp at hc hv;subst hc hv;exact hy
  |i+1=>simp at hc
 have dcase:∀ds:List D,x=.d (.agg ds)->BW (AY w fb β' cn) (ds.map .d) u.cells/\∀y,y∈ds.map AV.d->y.one=true:=by
  intro ds hx
  subst hx
  obtain⟨vs,rfl,h2,h3⟩:=R3 h
  refine⟨⟨by simpa[Value.cells] using h2.1,fun i c v hc hv=>?_⟩,by simpa[AV.one] using h3⟩
  rw[List.getElem?_map] at hc
  cases hd:ds[i]? with
  |none=>simp[hd] at hc
  |some d=>simp[hd] at hc;subst hc;exact .d _ _ (h2.2 i d v hd hv)
 cases x with
 |agg cs' =>
  simp[AV.cells?] at hc;subst hc
  obtain⟨vs,rfl,h2,h3⟩:=N9 h
  exact⟨h2,h3⟩
 |d y =>
  cases y<;>simp[AV.cells?] at hc<;>subst hc<;>first|exact dcase _ rfl|exact one h rfl
 |tup=>simp[AV.cells?] at hc
 |undef=>simp[AV.cells?] at hc
 |_=>simp[AV.cells?] at hc;subst hc;exact one h rfl
theorem Pb (h:BI E c β s tm w) {t:Nat}(hlim:t<D7) {cs:List AV}{cur:Array Value}{e:TypeId}(hR:BW (AY w (c.bar β s.V) β s.V.cn) cs cur) (h1:∀y,y∈cs->y.one=true) :
  ∃β',BI E c β' ⟨s.sl,s.V.app (.fresh t (.cells cs))⟩ tm (w.alloc (.cells cur e)) /\
   AY (w.alloc (.cells cur e)) (c.bar β' (s.V.app (.fresh t (.cells cs)))) β' (s.V.app (.fresh t (.cells cs))).cn (.ptr t (s.V.cn t) 0) (.pointer (some ⟨w.heap.size,0,none⟩)):=by
 refine⟨Ey β t (s.V.cn t) (.pointer (some ⟨w.heap.size,0,none⟩)),h.fresh hlim (.of_below _ (CI w _)) (fun b hb=>?_) (fun β' fb' hβ' hfe hf=>?_),.ptr _ _ _ w.heap.size (Io _ _ _) (BJ _ _ _ _)⟩
 ·simp[Cm,Ay] at hb;subst hb;exact⟨by simp,.inl (Nat.le_refl _)⟩
 ·refine .cells cs w.heap.size cur e (heap_alloc_new w _) hR.1 h1 fun i x u hx hu=>?_
  refine(hR.2 i x u hx hu).mono (.of_below (CI w _)) hf (fun o g hg=>?_) (fun k=>?_)
  ·rw[hβ'];exact Dm o g hg
  ·simp only[AN.app,Bs];split<;>simp_all
theorem aX (h:BI E c β s tm w) {t:Nat}{x:AV}{u:Value}{e:TypeId}(hx:AY w (c.bar β s.V) β s.V.cn x u) (he:ev E (some t) s.V .box [x] K) :
  M5 E c s tm K ((Instr.box e u).run E.P w):=by
 unfold ev at he
 simp only at he
 split at he
 ·rename_i cs hc
  obtain⟨h3,h4⟩:=M0 hx hc
  obtain⟨β',h5,h6⟩:=Pb h (t:=t) he.1 (e:=e) h3 h4
  exact⟨_,_,_,_,β',by simp[Instr.box,newVar,newRow],he.2,h5,h6⟩
 ·exact he.elim
theorem XY {t:TypeId}{z:List D}(h:I5 E.P t=some z):∃v,(zeroValue t).run E.P w=.ok v w/\∀fb,BW (Aw w fb) z v.cells/\∀y,y∈z->y.one=true:=by
 unfold I5 at h
 cases hi:E.P.info? t with
 |none=>simp[hi] at h
 |some i =>
  simp only[hi,Option.bind_some] at h
  split at h
  ·rename_i v hz
   refine⟨v,by simp[zeroValue,typeInfo,hi,hz],fun fb=>⟨⟨by rw[Aj h];simp,fun i y u hy hu=>?_⟩,fun y hy=>?_⟩⟩
   ·obtain⟨x,hx,hxy⟩:=A3 h hy
    have:x=u:=by simpa[Array.getElem?_toList,hu] using hx.symm
    subst this
    exact Kv hxy
   ·obtain⟨x,_,hx⟩:=DD h hy
    unfold P' at hx
    split at hx<;>(try split at hx)<;>simp at hx<;>subst hx<;>rfl
  ·cases h
theorem R_ {fb β' cn} {l:List D}{vs:Array Value}(h:BW (Aw w fb) l vs):BW (AY w fb β' cn) (l.map .d) vs:=by
 refine⟨by simpa using h.1,fun i c v hc hv=>?_⟩
 rw[List.getElem?_map] at hc
 cases hd:l[i]? with
 |none=>simp[hd] at hc
 |some d=>simp[hd] at hc;subst hc;exact .d _ _ (h.2 i d v hd hv)
theorem Xm (h:BI E c β s tm w) {t:Nat}{e:TypeId}{z:List D}(hz:I5 E.P e=some z) (he:ev E (some t) s.V (.zero z) [] K) :
  M5 E c s tm K ((Instr.alloc e true (.tuple #[])).run E.P w):=by
 unfold ev at he
 simp only at he
 obtain⟨v,hv,hr⟩:=XY (w:=w) hz
 obtain⟨hr,h1⟩:=hr (c.bar β s.V)
 obtain⟨β',h5,h6⟩:=Pb h (t:=t) he.1 (e:=e) (R_ hr) (by simpa[AV.one] using h1)
 exact⟨_,_,_,_,β',by simp[Instr.alloc,hv,newVar,newRow],he.2,h5,h6⟩
theorem Ep (h:BI E c β s tm w) {t:Nat}(hlim:t<D7) {ety es:Nat}{nl:Bool}{l:List D}{vo:Value}{w':World}(hw:Below w.heap.size w w') (h1:vo.oneCell'=true)
  (hb:∀b,Cm vo b->w.heap.size<=b/\b<w'.heap.size) (hr:∀fb',(∀b,b<w.heap.size->fb' b->c.bar β s.V b)->CR w' fb' ety es nl l vo) :
  ∃β',BI E c β' ⟨s.sl,s.V.app (.fresh t (.row ety es nl l))⟩ tm w'/\AY w' (c.bar β' (s.V.app (.fresh t (.row ety es nl l)))) β' (s.V.app (.fresh t (.row ety es nl l))).cn (.own t (s.V.cn t)) vo :=
 ⟨Ey β t (s.V.cn t) vo,h.fresh hlim (.of_below _ hw) (fun b hbb=>⟨(hb b hbb).2,.inl (hb b hbb).1⟩) (fun β' fb' hβ' hfe hf=>.row _ _ _ _ _ (hr fb' hf)),AY.own_new h1 (Io _ _ _)⟩
def BD (l:List D):List D:=l.flatMap D.cells
theorem Gj {es:Nat}:∀{l:List D},CJ es l->∀{i j:Nat}{x c:D},l[i]?=some x->x.cells[j]?=some c->(BD l)[i*es+j]?=some c
 |[],_,i,j,x,c,hi,_=>by simp at hi
 |y::l,hu,0,j,x,c,hi,hj=>by
  simp at hi;subst hi
  simp only[BD,List.flatMap_cons,Nat.zero_mul,Nat.zero_add]
  rw[List.getElem?_append_left (List.getElem?_eq_some_iff.1 hj).1];exact hj
 |y::l,hu,i+1,j,x,c,hi,hj=>by
  simp at hi
  have:=Gj (l:=l) (fun z hz=>hu z (by simp[hz])) hi hj
  have hy:=hu y (by simp)
  simp only[BD,List.flatMap_cons] at this ⊢
  rw[List.getElem?_append_right (by rw[hy,Nat.add_mul];omega),hy,show (i+1)*es+j-es=i*es+j by rw[Nat.add_mul];omega]
  exact this
theorem BE {es:Nat}:∀{l:List D},CJ es l->(BD l).length=l.length*es
 |[],_=>by simp[BD]
 |y::l,hu=>by
  have:=BE (l:=l) (fun z hz=>hu z (by simp[hz]))
  have hy:=hu y (by simp)
  simp only[BD,List.flatMap_cons,List.length_append,List.length_cons] at this ⊢
  rw[this,hy,Nat.add_mul];omega
theorem OZ {w':World}{fb:Nat->Prop}{ety es:Nat}{l:List D}{b:Nat}{cap:Nat}{cur:Array Value}(hb:w'.heap[b]?=some (.cells cur ety (0,0))) (hlc:l.length<=cap) (hm:cap<=maxLen) (hsz:cap*es<=cur.size) (hes:0<es)
  (hu:CJ es l) (h1:∀x c,x∈l->c∈x.cells->c.one=true) (hR:∀(q:Nat) (x:D),(BD l)[q]?=some x->∃u,cur[q]?=some u/\Aw w' fb x u) :
  CR w' fb ety es false l (.slice (some ⟨b,0,none⟩) l.length cap) :=
 .inr ⟨rfl,b,0,cap,cur,rfl,hb,hlc,hm,by omega,hes,hu,h1,fun i x j cc hi hj=>by rw[Nat.zero_add];exact hR _ _ (Gj hu hi hj)⟩
theorem L7 {z:Array Value}{n es i j:Nat}(hz:z.size=es) (hi:i<n) (hj:j<es):(madeCells z (n*es))[i*es+j]?=z[j]?:=by
 have hlt:i*es+j<n*es:=by
  have:(i+1)*es<=n*es:=Nat.mul_le_mul_right _ hi
  rw[Nat.add_mul] at this;omega
 have hm:(i*es+j)%z.size=j:=by rw[hz,Nat.mul_comm,Nat.mul_add_mod,Nat.mod_eq_of_lt hj]
 simp only[madeCells,Array.getElem?_map,Array.getElem?_range,hlt,if_true,Option.map_some,hm]
 rw[getElem!_pos z j (by omega),Array.getElem?_eq_getElem (by omega)]
theorem LL {e:TypeId}{z:D}(h:JT E.P e=some z):∃i v,E.P.info? e=some i/\i.zero=some v/\(∀w fb,Aw w fb z v)/\(∀x,x∈z.cells->x.one=true)/\v.cells.size=z.cells.length /\
  (∀w fb (j:Nat) (x:D),z.cells[j]?=some x->∃u,v.cells[j]?=some u/\Aw w fb x u):=by
 have dec1:∀{v:Value}{d:D},P' v=some d->d.one=true:=by
  intro v d hx
  unfold P' at hx
  split at hx<;>(try split at hx)<;>simp at hx<;>subst hx<;>rfl
 unfold JT at h
 cases hi:E.P.info? e with
 |none=>simp[hi] at h
 |some i =>
  simp only[hi,Option.bind_some] at h
  split at h
  ·rename_i cs hz
   cases hl:Ax P' cs.toList with
   |none=>simp[hl] at h
   |some l =>
    simp[hl] at h;subst h
    have hr:∀w fb (j:Nat) (x:D),l[j]?=some x->∃u,cs[j]?=some u/\Aw w fb x u:=by
     intro w fb j x hj
     obtain⟨u,hu,hd⟩:=A3 hl hj
     exact⟨u,by rwa [Array.getElem?_toList] at hu,Kv hd⟩
    have h1:∀x,x∈l->x.one=true:=fun x hx=>by
     obtain⟨u,_,hd⟩:=DD hl hx
     exact dec1 hd
    refine⟨i,.agg cs,rfl,hz,fun w fb=>.agg l cs (by rw[Aj hl];simp) h1 (fun j x u hj hu=>?_),h1,by simp[Value.cells,D.cells,Aj hl],hr⟩
    obtain⟨u',hu',hd⟩:=hr w fb j x hj
    rw[hu] at hu';simp at hu';subst hu';exact hd
  ·rename_i v hnv hz
   have h1:=dec1 h
   have hrep:∀w fb,Aw w fb z v:=fun w fb=>Kv h
   have hv1:=(hrep default (fun _=>False)).oneCell h1
   have hc:z.cells=[z]:=by cases z<;>first|rfl|simp[D.one] at h1
   refine⟨i,v,rfl,hz,hrep,by rw[hc];simpa using h1,by rw[hc,Fn hv1];rfl,fun w fb j x hj=>?_⟩
   rw[hc] at hj
   match j with
   |0=>simp at hj;subst hj;exact⟨v,by rw[Fn hv1];rfl,hrep w fb⟩
   |j+1=>simp at hj
  ·cases h
theorem GJ {z:D}{n q:Nat}{x:D}{es:Nat}(hz:z.cells.length=es) (hes:0<es) (h:(BD (List.replicate n z))[q]?=some x):q/es<n/\z.cells[q%es]?=some x:=by
 have hu:CJ es (List.replicate n z):=fun y hy=>by rw[List.eq_of_mem_replicate hy];exact hz
 have hlt:q<n*es:=by
  have:=(List.getElem?_eq_some_iff.1 h).1
  rw[BE hu] at this;simpa using this
 have hi:q/es<n:=Nat.div_lt_of_lt_mul (by rw[Nat.mul_comm];exact hlt)
 have hj:q%es<es:=Nat.mod_lt _ hes
 obtain⟨c,hc⟩:∃c,z.cells[q%es]?=some c:=⟨_,List.getElem?_eq_getElem (by omega)⟩
 have:=Gj hu (i:=q/es) (j:=q%es) (x:=z) (c:=c) (by simp[hi]) hc
 rw[Nat.mul_comm,Nat.div_add_mod] at this
 rw[h] at this;simp at this;subst this
 exact⟨hi,hc⟩
theorem H3 (h:BI E c β s tm w) {b:Nat}(hb:c.bar β s.V b):b<w.heap.size:=by
 rcases hb with hb|⟨o,g,x,h1,h2⟩
 ·exact Nat.lt_of_lt_of_le (h.low b hb).1 h.keep.size
 ·exact(h.home o g x b h1 h2).1
theorem Xo (h:BI E c β s tm w) {t:Nat}{ty e:TypeId}{i:TypeInfo}{z:D}{own:Bool}(ht:E.P.underlying ty=some (.slice e)) (hi:E.P.info? e=some i) (hz:JT E.P e=some z)
  (hpos:0<i.size) (hby:i.bytes<=131072) (hzl:z.cells.length=i.size)
  {x y:AV}{u v:Value}(hx:AY w (c.bar β s.V) β s.V.cn x u) (hy:AY w (c.bar β s.V) β s.V.cn y v) (he:ev E (some t) s.V (.mksl e i.size z own) [x,y] K) :
  M5 E c s tm K ((Instr.makeSlice ty u v).run E.P w):=by
 unfold ev at he
 simp only at he
 split at he
 ·rename_i t' n m h1 h2
  simp only[Option.some.injEq,List.cons.injEq,and_true] at h1 h2
  obtain rfl:=h1
  obtain⟨rfl,rfl⟩:=h2
  obtain⟨rfl,h0,hn,he⟩:=he
  obtain⟨rfl,_⟩:=A7 hx
  obtain⟨rfl,_⟩:=A7 hy
  obtain⟨i',zv,hi',hzv,hzr,hz1,hzs,hzc⟩:=LL hz
  rw[hi] at hi';simp at hi';subst hi'
  have hbd:n<=1073741824:=hn
  have hrun:=run_make (P:=E.P) w ty e i zv ht hi hzv .i64 .i64 n n h0 (Int.le_refl _) (by
   have h1:(i.bytes:Int)*n<=131072*1073741824:=Int.mul_le_mul (by omega) hbd h0 (by omega)
   omega) (by omega)
  have hlen:(List.replicate n.toNat z).length=n.toNat:=by simp
  have hrow:∀fb',(∀b,b<w.heap.size->fb' b->c.bar β s.V b)->CR (w.alloc (.cells (madeCells zv.cells (n.toNat * i.size)) e)) fb' e i.size false (List.replicate n.toNat z) (.slice (some ⟨w.heap.size,0,none⟩) n.toNat n.toNat):=by
   intro fb' _
   have:=OZ (w':=w.alloc (.cells (madeCells zv.cells (n.toNat * i.size)) e)) (fb:=fb') (ety:=e) (es:=i.size) (l:=List.replicate n.toNat z) (b:=w.heap.size) (cap:=n.toNat) (heap_alloc_new w _) (by simp) (by unfold maxLen;omega) (by rw[size_madeCells];omega) hpos
    (fun y hy=>by rw[List.eq_of_mem_replicate hy];exact hzl) (fun y cc hy hc=>by rw[List.eq_of_mem_replicate hy] at hc;exact hz1 _ hc) (fun q y hq=>by
     obtain⟨a1,a2⟩:=GJ hzl hpos hq
     obtain⟨u,hu,hd⟩:=hzc (w.alloc (.cells (madeCells zv.cells (n.toNat * i.size)) e)) fb' _ _ a2
     refine⟨u,?_,hd⟩
     have:=L7 (z:=zv.cells) (n:=n.toNat) (es:=i.size) (by omega) a1 (Nat.mod_lt q hpos)
     rw[Nat.mul_comm (q/i.size),Nat.div_add_mod] at this
     rw[this];exact hu)
   rwa [hlen] at this
  cases own with
  |true =>
   simp only[if_true] at he
   obtain⟨β',h5,h6⟩:=Ep h (t:=t) he.1 (CI w _) (vo:=.slice (some ⟨w.heap.size,0,none⟩) n.toNat n.toNat) rfl (fun b hb=>by simp[Cm,Ay] at hb;subst hb;exact⟨Nat.le_refl _,by simp⟩) hrow
   exact⟨_,_,_,_,β',hrun,he.2,h5,h6⟩
  |false =>
   simp only[Bool.false_eq_true,if_false] at he
   have hrel:=h.grow (CI w (.cells (madeCells zv.cells (n.toNat * i.size)) e))
   refine⟨_,_,_,.none,β,hrun,he,hrel,.d _ _ (Bx (hrow _ fun b _ hb=>hb) fun b hb hbar=>?_)⟩
   simp[Cm,Ay] at hb;subst hb
   have:=H3 h hbar;omega
 ·exact he.elim
end
end Go.Pw
end
