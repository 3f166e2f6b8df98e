/- A part of the proof. -/
import Derived.WalkKit
set_option linter.all false
section
namespace Go.Pw
def K4 (k:IntKind) (n:Int):Prop:=k.min<=n/\n<=k.max
inductive D where
 |int (k:IntKind) (n:Int)
 |bool (b:Bool)
 |list (nil:Bool) (xs:List D)
 |agg (cs:List D)
 |ptr (cs:List D)
 |fn (f:FuncId) (cs:List D)
 |tup (xs:List D)
 |nilptr|nilmap|nilfn
 |junk
 |map (tys:Bool×List (Option IntKind)) (kvs:List (D×D))
 |bnd (f:FuncId) (cs:List D)
 deriving Inhabited
def D.cells:D->List D
 |.agg cs=>cs
 |d=>[d]
def D.one:D->Bool
 |.agg _|.tup _|.junk=>false
 |_=>true
abbrev HS:=Bool×List (Option IntKind)
def D4:List (Option IntKind)->List D->Bool
 |[],[]=>true
 |some k::ts,.int k' _::cs=>decide (k=k') && D4 ts cs
 |none::ts,.bool _::cs=>D4 ts cs
 |_,_=>false
def D.isAgg:D->Bool|.agg _=>true|_=>false
def Gt (t:HS) (d:D):Bool:=d.isAgg == t.1 && D4 t.2 d.cells
def GO (es:Array MapEntry) (cl:Nat):Prop:=(∀(i:Nat) e,es[i]?=some e->e.born<cl)/\∀(i j:Nat) e e',es[i]?=some e->es[j]?=some e'->i<j->e.born<e'.born
inductive Az (w:World) (fb:Nat->Prop):D->Value->Prop
 |int (k n) (h:K4 k n):Az w fb (.int k n) (.int k n)
 |bool (b):Az w fb (.bool b) (.bool b)
 |nil:Az w fb (.list true []) (.slice none 0 0)
 |empty (a cap) (hm:cap<=maxLen):Az w fb (.list false []) (.slice (some a) 0 cap)
 |list (xs:List D) (es b off cap:Nat) (vs:Nat->Nat->Value) (hcap:xs.length<=cap) (hm:cap<=maxLen) (hb:¬fb b) (hes:0<es)
  (hs:∀x,x∈xs->x.cells.length=es) (h1:∀x c,x∈xs->c∈x.cells->c.one=true)
  (hc:∀(i:Nat) (x:D) (j:Nat) (c:D),xs[i]?=some x->x.cells[j]?=some c->w.cell? ⟨b,off+i*es+j,none⟩=some (vs i j))
  (hv:∀(i:Nat) (x:D) (j:Nat) (c:D),xs[i]?=some x->x.cells[j]?=some c->Az w fb c (vs i j)) :
  Az w fb (.list false xs) (.slice (some ⟨b,off,none⟩) xs.length cap)
 |agg (cs:List D) (vs:Array Value) (hl:vs.size=cs.length) (h1:∀c,c∈cs->c.one=true) (h:∀(i:Nat) (c:D) (v:Value),cs[i]?=some c->vs[i]?=some v->Az w fb c v) :
  Az w fb (.agg cs) (.agg vs)
 |ptr (cs:List D) (b off:Nat) (vs:Nat->Value) (hb:¬fb b) (hne:cs≠[]) (h1:∀c,c∈cs->c.one=true)
  (hc:∀(j:Nat) (c:D),cs[j]?=some c->w.cell? ⟨b,off+j,none⟩=some (vs j))
  (hv:∀(j:Nat) (c:D),cs[j]?=some c->Az w fb c (vs j)) :
  Az w fb (.ptr cs) (.pointer (some ⟨b,off,none⟩))
 |fn (f:FuncId) (cs:List D) (vs:Array Value) (hl:vs.size=cs.length) (h:∀(i:Nat) (c:D) (v:Value),cs[i]?=some c->vs[i]?=some v->Az w fb c v) :
  Az w fb (.fn f cs) (.func (.func f) #[] vs)
 |tup (cs:List D) (vs:Array Value) (hl:vs.size=cs.length) (h:∀(i:Nat) (c:D) (v:Value),cs[i]?=some c->vs[i]?=some v->Az w fb c v) :
  Az w fb (.tup cs) (.tuple vs)
 |nilptr:Az w fb .nilptr (.pointer none)
 |nilmap:Az w fb .nilmap (.map none)
 |nilfn:Az w fb .nilfn .nilFunc
 |junk (v):Az w fb .junk v
 |map (tys:HS) (kvs:List (D×D)) (b:Nat) (es:Array MapEntry) (cl:Nat) (hb:¬fb b) (hh:w.heap[b]?=some (.map es cl)) (hl:es.size=kvs.length) (hr:GO es cl)
  (ht:∀kv,kv∈kvs->Gt tys kv.1=true)
  (hk:∀(i:Nat) (kv:D×D) (e:MapEntry),kvs[i]?=some kv->es[i]?=some e->Az w fb kv.1 e.key)
  (hv:∀(i:Nat) (kv:D×D) (e:MapEntry),kvs[i]?=some kv->es[i]?=some e->Az w fb kv.2 e.val):Az w fb (.map tys kvs) (.map (some b))
 |bnd (f:FuncId) (cs:List D) (vs:Array Value) (hl:vs.size=cs.length) (h:∀(i:Nat) (c:D) (v:Value),cs[i]?=some c->vs[i]?=some v->Az w fb c v) :
  Az w fb (.bnd f cs) (.func (.func f) vs #[])
def Ah (fb:Nat->Prop) (w w':World):Prop:=∀b,¬fb b->b<w.heap.size->w'.heap[b]?=w.heap[b]?
theorem Ah.refl (fb:Nat->Prop) (w:World):Ah fb w w:=fun _ _ _=>rfl
theorem Ah.cell {fb:Nat->Prop}{w w':World}(h:Ah fb w w') {a:Addr}{v:Value}(hb:¬fb a.block) (hc:w.cell? a=some v):w'.cell? a=some v:=by
 rw[World.cell?_of_block (w:=w) (h a.block hb (World.block_lt_of_cell? w a hc))];exact hc
theorem CK {w:World}{b o:Nat}{v:Value}(hc:w.cell? ⟨b,o,none⟩=some v):b<w.heap.size:=World.block_lt_of_cell? w ⟨b,o,none⟩ hc
theorem Az.mono {w w':World}{fb fb':Nat->Prop}(hw:Ah fb w w') (hf:∀b,b<w.heap.size->fb' b->fb b)
  {d:D}{v:Value}(h:Az w fb d v):Az w' fb' d v:=by
 induction h with
 |int k n h=>exact .int k n h
 |bool b=>exact .bool b
 |nil=>exact .nil
 |empty a cap hm=>exact .empty a cap hm
 |list xs es b off cap vs hcap hm hb hes hs h1 hc hv ih =>
  cases xs with
  |nil=>exact .empty _ _ hm
  |cons x xs =>
   have hlt:b<w.heap.size:=by
    have hx:=hs x (by simp)
    have hex:∃c,x.cells[0]?=some c:=⟨_,List.getElem?_eq_getElem (by omega)⟩
    obtain⟨c,hcc⟩:=hex
    exact CK (hc 0 x 0 c (by simp) hcc)
   exact .list _ es b off cap vs hcap hm (fun hh=>hb (hf b hlt hh)) hes hs h1 (fun i x j c h1 h2=>hw.cell hb (hc i x j c h1 h2)) ih
 |agg cs vs hl h1 h ih=>exact .agg cs vs hl h1 ih
 |ptr cs b off vs hb hne h1 hc hv ih =>
  cases cs with
  |nil=>exact absurd rfl hne
  |cons x xs =>
   have hlt:b<w.heap.size:=CK (hc 0 x (by simp))
   exact .ptr _ b off vs (fun hh=>hb (hf b hlt hh)) hne h1 (fun j c h1=>hw.cell hb (hc j c h1)) ih
 |fn f cs vs hl h ih=>exact .fn f cs vs hl ih
 |tup cs vs hl h ih=>exact .tup cs vs hl ih
 |nilptr=>exact .nilptr
 |nilmap=>exact .nilmap
 |nilfn=>exact .nilfn
 |junk v=>exact .junk v
 |map tys kvs b es cl hb hh hl hr ht hk hv ih1 ih2 =>
  have hlt:b<w.heap.size:=(Array.getElem?_eq_some_iff.1 hh).1
  exact .map tys kvs b es cl (fun h=>hb (hf b hlt h)) ((hw b hb hlt).trans hh) hl hr ht ih1 ih2
 |bnd f cs vs hl h ih=>exact .bnd f cs vs hl ih
def D.prim:D->Bool
 |.int ..|.bool _|.nilptr|.nilmap|.nilfn|.junk=>true
 |_=>false
def D.flat1:D->Bool
 |.list true []=>true
 |.agg cs=>cs.all D.prim
 |d=>d.prim
def D.flat:D->Bool
 |.tup cs=>cs.all D.flat1
 |d=>d.flat1
theorem RQ {α:Type}{cs:List α}{p:α->Bool}(h:cs.all p=true) {i:Nat}{c:α}(hc:cs[i]?=some c):p c=true:=by
 rw[List.all_eq_true] at h
 exact h c (List.mem_of_getElem? hc)
theorem Az.of_prim {w w':World}{fb fb':Nat->Prop}{c:D}{v:Value}(hc:c.prim=true) (h:Az w fb c v):Az w' fb' c v:=by
 cases h<;>simp[D.prim] at hc
 ·exact .int _ _ (by assumption)
 ·exact .bool _
 ·exact .nilptr
 ·exact .nilmap
 ·exact .nilfn
 ·exact .junk _
theorem Az.of_flat1 {w w':World}{fb fb':Nat->Prop}{c:D}{v:Value}(hc:c.flat1=true) (h:Az w fb c v):Az w' fb' c v:=by
 cases h with
 |nil=>exact .nil
 |agg cs vs hl h1 h=>exact .agg cs vs hl h1 fun i c v h1 h2=>(h i c v h1 h2).of_prim (RQ (p:=D.prim) hc h1)
 |int k n h=>exact .int k n h
 |bool b=>exact .bool b
 |nilptr=>exact .nilptr
 |nilmap=>exact .nilmap
 |nilfn=>exact .nilfn
 |junk v=>exact .junk v
 |_=>simp[D.flat1,D.prim] at hc
theorem Az.of_flat {w w':World}{fb fb':Nat->Prop}{d:D}{v:Value}(hd:d.flat=true) (h:Az w fb d v):Az w' fb' d v:=by
 cases h with
 |tup cs vs hl h=>exact .tup cs vs hl fun i c v h1 h2=>(h i c v h1 h2).of_flat1 (RQ (p:=D.flat1) hd h1)
 |nil=>exact .nil
 |agg cs vs hl h1 h=>exact Az.of_flat1 (fb:=fb) (w:=w) hd (.agg cs vs hl h1 h)
 |int k n h=>exact .int k n h
 |bool b=>exact .bool b
 |nilptr=>exact .nilptr
 |nilmap=>exact .nilmap
 |nilfn=>exact .nilfn
 |junk v=>exact .junk v
 |_=>simp[D.flat,D.flat1,D.prim] at hd
def D.WF:D->Prop
 |.int k n=>K4 k n
 |.bool _|.nilptr|.nilmap|.nilfn|.junk=>True
 |.list _ xs=>xs.length<=maxLen/\∀x,x∈xs->WF x
 |.map _ _|.bnd _ _=>True
 |.agg cs|.ptr cs|.fn _ cs|.tup cs=>∀c,c∈cs->WF c
theorem D.wf_of_cells {x:D}(h:∀c,c∈x.cells->c.WF):x.WF:=by
 cases x with
 |agg cs=>simpa[D.WF,D.cells] using h
 |_=>exact h _ (by simp[D.cells])
theorem Az.wf {w:World}{fb:Nat->Prop}{d:D}{v:Value}(h:Az w fb d v):d.WF:=by
 have hex:∀{cs:List D}{vs:Array Value}{i:Nat}{c:D},vs.size=cs.length->cs[i]?=some c->∃v,vs[i]?=some v:=by
  intro cs vs i c hl hc
  have:i<cs.length:=(List.getElem?_eq_some_iff.1 hc).1
  exact⟨_,Array.getElem?_eq_getElem (by omega)⟩
 induction h with
 |int k n h=>simpa[D.WF] using h
 |list xs es b off cap vs hcap hm hb hes hs h1 hc hv ih =>
  rw[D.WF]
  refine⟨by omega,fun x hx=>D.wf_of_cells fun c hcm=>?_⟩
  obtain⟨i,hi⟩:=List.getElem?_of_mem hx
  obtain⟨j,hj⟩:=List.getElem?_of_mem hcm
  exact ih i x j c hi hj
 |agg cs vs hl h1 h ih =>
  rw[D.WF];intro c hc
  obtain⟨i,hi⟩:=List.getElem?_of_mem hc
  obtain⟨v,hv⟩:=hex hl hi
  exact ih i c v hi hv
 |ptr cs b off vs hb hne h1 hc hv ih =>
  rw[D.WF];intro c hc
  obtain⟨i,hi⟩:=List.getElem?_of_mem hc
  exact ih i c hi
 |fn f cs vs hl h ih =>
  rw[D.WF];intro c hc
  obtain⟨i,hi⟩:=List.getElem?_of_mem hc
  obtain⟨v,hv⟩:=hex hl hi
  exact ih i c v hi hv
 |tup cs vs hl h ih =>
  rw[D.WF];intro c hc
  obtain⟨i,hi⟩:=List.getElem?_of_mem hc
  obtain⟨v,hv⟩:=hex hl hi
  exact ih i c v hi hv
 |_=>simp[D.WF,maxLen]
end Go.Pw
end
section
namespace Go.Pw
inductive MK where
 |out
 |row (j:Nat)
 |xp (i:Nat)
 |mp (j k:Nat)
 |bs (off n cap:Nat)
 |rs (a es:Nat)
 |rp (n:Nat)
 deriving Inhabited
inductive AV where
 |d (x:D)
 |ex (xs:List D)
 |agg (cs:List AV)
 |ptr (o g off:Nat)
 |rptr (o g es i off:Nat)
 |dptr (cs:List D) (off:Nat)
 |own (o g:Nat)
 |map (o g:Nat)
 |fn (f:FuncId) (cs:List AV)
 |tup (vs:List AV)
 |undef
 |bnd (f:FuncId) (cs:List AV)
 |mref (k:MK) (o g:Nat)
 |ablk (sl:Bool) (cs:List AV) (off:Nat)
 deriving Inhabited
structure RD where
 nx:Nat->List D->Nat->Prop
 fin:Nat->Prop
def RD.ofL (els:List (List D)):RD:=⟨fun n x m=>els[n]?=some x/\m=n+1,fun n=>n=els.length⟩
instance:Coe (List (List D)) RD:=⟨RD.ofL⟩
inductive AW where
 |cells (xs:List AV)
 |row (ety es:Nat) (nil:Bool) (xs:List D)
 |rowP (ety es:Nat) (P:Bool->List D->Prop)
 |rowH (ety:Nat) (xs:List D) (i q p:Nat)
 |map (tys:HS) (kvs:List (D×D))
 |mat (e1 e2:Nat) (nil:Bool) (ix:List Nat) (rows:List (Bool×List D))
 |mapB (tys:HS) (es:List (Nat×D×D)) (cl:Nat)
 |mitO (o g n:Nat) (seen:List Nat)
 |mitD (tys:HS) (kvs:List (D×D)) (seen:List Nat)
 |hist (els:RD) (n:Nat) (st:Bool)
def AW.ents:AW->Option (List (Nat×D×D)×Nat)
 |.map _ kvs=>some (kvs.zipIdx.map fun p=>(p.2,p.1),kvs.length)
 |.mapB _ es cl=>some (es,cl)
 |_=>none
def AW.isHist:AW->Bool
 |.hist ..=>true
 |_=>false
def CO {α:Type}(f:Nat->α) (i:Nat) (x:α):Nat->α:=fun j=>if j=i then x else f j
inductive B3 where
 |none
 |keep (o g:Nat) (x:AW)
 |fresh (o:Nat) (x:AW)
 |seq (a b:B3)
structure AL where
 ob:Nat->Option (Nat×AW)
 cn:Nat->Nat
def AL.get (V:AL) (o g:Nat):Option AW :=
 match V.ob o with
 |some (g',x)=>if g=g' then some x else Option.none
 |Option.none=>Option.none
def AL.app (V:AL):B3->AL
 |.none=>V
 |.keep o g x=>{ V with ob:=CO V.ob o (some (g,x)) }
 |.fresh o x=>{ ob:=CO V.ob o (some (V.cn o,x)),cn:=CO V.cn o (V.cn o+1) }
 |.seq a b=>(V.app a).app b
def C_:Nat:=900000
def S0 (t:Nat):List Nat:=[t,t+10000,t+20000,t+30000]
inductive Hd where
 |t (n:Nat)
 |k (v:AV)
def HP (c:Bool) (A B:Prop):Prop:=(c=true->A)/\(c=false->B)
@[simp] theorem Nb (A B:Prop):HP true A B=A:=by simp[HP]
@[simp] theorem Lo (A B:Prop):HP false A B=B:=by simp[HP]
def AV.cells?:AV->Option (List AV)
 |.agg cs=>some cs
 |.d (.agg cs)=>some (cs.map .d)
 |.d (.tup _)|.d .junk|.tup _|.undef=>none
 |v=>some [v]
def AV.toD0:AV->Option D
 |.d (.tup _)|.d .junk=>none
 |.d x=>some x
 |.ex xs=>some (.list false xs)
 |.dptr cs 0=>if cs=[] then none else some (.ptr cs)
 |_=>none
def BV {α β:Type}(f:α->Option β):List α->Option (List β)
 |[]=>some []
 |x::xs=>match f x with
  |none=>none
  |some y=>match BV f xs with
   |none=>none
   |some ys=>some (y::ys)
def AV.toD1:AV->Option D
 |.agg cs=>match BV AV.toD0 cs with|some l=>some (.agg l)|none=>none
 |.fn f cs=>match BV AV.toD0 cs with|some l=>some (.fn f l)|none=>none
 |.bnd f cs=>match BV AV.toD0 cs with|some l=>some (.bnd f l)|none=>none
 |v=>v.toD0
def AV.snap0 (V:AL):AV->Option D
 |.own o g=>match V.get o g with
  |some (.row _ _ nil xs)=>some (.list nil xs)
  |_=>none
 |.ptr o g 0=>match V.get o g with
  |some (.cells xs)=>match BV AV.toD1 xs with|some (c::l)=>some (.ptr (c::l))|_=>none
  |_=>none
 |.mref (.bs off n cap) o g=>match V.get o g with
  |some (.cells xs)=>if n<=cap/\cap<=4096/\off+n<=xs.length then (match BV AV.toD1 ((xs.drop off).take n) with|some l=>some (.list false l)|none=>none) else none
  |_=>none
 |.map o g=>match V.get o g with
  |some (.map tys kvs)=>some (.map tys kvs)
  |some (.mapB tys es _)=>some (.map tys (es.map (·.2)))
  |_=>none
 |v=>v.toD1
def AV.snap (V:AL):AV->Option D
 |.agg cs=>match BV (AV.snap0 V) cs with|some l=>some (.agg l)|none=>none
 |.fn f cs=>match BV (AV.snap0 V) cs with|some l=>some (.fn f l)|none=>none
 |.bnd f cs=>match BV (AV.snap0 V) cs with|some l=>some (.bnd f l)|none=>none
 |v=>v.snap0 V
def AV.snapC (V:AL):AV->Option D
 |.own o g=>match V.get o g with
  |some (.row _ _ nil xs)=>some (.list nil xs)
  |_=>none
 |.map o g=>match V.get o g with
  |some (.map tys kvs)=>some (.map tys kvs)
  |some (.mapB tys es _)=>some (.map tys (es.map (·.2)))
  |_=>none
 |v=>v.toD1
def AV.snapN (V:AL):AV->Option D
 |.ptr o g 0=>match V.get o g with
  |some (.cells xs)=>match BV (AV.snapC V) xs with|some (c::l)=>some (.ptr (c::l))|_=>none
  |_=>none
 |v=>v.snap V
def Fe:D->D->Bool
 |.int k a,.int k' b=>decide (k=k') && decide (a=b)
 |.bool a,.bool b=>a == b
 |_,_=>false
def E3:List D->List D->Bool
 |[],[]=>true
 |a::asq,b::bs=>Fe a b && E3 asq bs
 |_,_=>false
def Dl (a b:D):Bool:=E3 a.cells b.cells
def CG (k:D):List (D×D)->Option D
 |[]=>none
 |e::es=>if Dl k e.1 then some e.2 else CG k es
def D6 (k:D):List (D×D)->Option Nat
 |[]=>none
 |e::es=>if Dl k e.1 then some 0 else (D6 k es).map (·+1)
def Qo (k v:D):List (D×D)->List (D×D)
 |[]=>[(k,v)]
 |e::es=>if Dl k e.1 then (e.1,v)::es else e::Qo k v es
inductive Bw where
 |sub (es:Nat)
 |clr (zs:List D)
 |pre
 |cpy
 |mov|pick
 |bin (b:BinOp)
 |beq (neg:Bool)
 |eqv (neg:Bool) (tys:HS)
 |eqnil (neg:Bool)
 |un (u:UnOp)
 |conv (k:IntKind)
 |load (ag:Bool) (n:Nat)
 |store (n:Nat)
 |nilck
 |field (ag:Bool) (off n:Nat)
 |faddr (off:Nat)
 |iaddrS (es:Nat)
 |iaddrA (len es:Nat)
 |index (len es:Nat) (ag:Bool)
 |build (zero:List D) (places:List (Nat×Nat))
 |mkrow (es:Nat) (zero:D) (len:Nat) (at_:List Nat)
 |mkrowO (ety es:Nat) (zero:D) (len:Nat) (at_:List Nat)
 |mkfn (f:FuncId)
 |mkbnd (f:FuncId)
 |yld
 |box
 |zero (cs:List D)
 |mkmap (tys:HS)
 |mksl (ety es:Nat) (zero:D) (own:Bool)
 |slice (es:Nat) (lo hi max:Bool)
 |len (isMap:Bool)
 |cap
 |minmax (isMax:Bool)
 |extract (i:Nat)
 |lookup (ok:Bool) (tys:HS) (zero:D)
 |mapupd (tys:HS)
 |mapent (tys:HS) (zero:D)
 |entst
 |app (ety es:Nat) (zero:Option D) (own:Bool)
 |call (f:FuncId)
 |callv
 |delete (tys:HS)
 |mkmapB (tys:HS)
 |mrange
 |mentry
 |strx (s:ByteArray)
 deriving Inhabited
structure Ew where
 dst:Option Nat
 g:Option (Nat×Bool)
 op:Bw
 xs:List Hd
 deriving Inhabited
structure CW where
 P:Program
 G:Nat->Option (List D)
def db (E:CW) (w:World) (fb:Nat->Prop):Prop:=∀g cs,E.G g=some cs->Az w fb (.ptr cs) (.pointer (some ⟨g,0,none⟩))
open Go.RowKit in
def Cc (E:CW) (f:FuncId) (ds:List D) (r:D):Prop :=
 ∀(w:World) (fb:Nat->Prop) (vs:Array Value),(∀b,fb b->b<w.heap.size)->db E w fb->vs.size=ds.length ->
  (∀(i:Nat) (d:D) (v:Value),ds[i]?=some d->vs[i]?=some v->Az w fb d v) ->
  Calls E.P f vs w fun e w'=>∃v,e=.returned v/\Below w.heap.size w w'/\Az w' fb r v
def CM (w:World) (fb:Nat->Prop) (ety es:Nat) (nil:Bool) (xs:List D) (v:Value):Prop :=
 (nil=true/\xs=[]/\v=.slice none 0 0) \/
 (nil=false/\∃b off cap cur,v=.slice (some ⟨b,off,none⟩) xs.length cap/\w.heap[b]?=some (.cells cur ety (0,0)) /\
  xs.length<=cap/\cap<=maxLen/\off+cap*es<=cur.size/\0<es/\(∀x,x∈xs->x.cells.length=es)/\(∀x c,x∈xs->c∈x.cells->c.one=true) /\
  ∀(i:Nat) (x:D) (j:Nat) (c:D),xs[i]?=some x->x.cells[j]?=some c->∃u,cur[off+i*es+j]?=some u/\Az w fb c u)
def lQ (w:World) (fb:Nat->Prop) (β:Nat->Nat->Value) (cn:Nat->Nat) (ety:Nat) (xs:List D) (i q p:Nat) (v:Value):Prop :=
 ∃b off cap cur,v=.slice (some ⟨b,off,none⟩) xs.length cap/\w.heap[b]?=some (.cells cur ety (0,0)) /\
  xs.length<=cap/\cap<=maxLen/\off+cap*1<=cur.size/\(∀x,x∈xs->x.cells.length=1)/\(∀x c,x∈xs->c∈x.cells->c.one=true) /\
  (i<xs.length/\cur[off+i]?=some (β q p)/\p<cn q/\(β q p).oneCell'=true) /\
  ∀(j:Nat) (x:D) (c:D),j≠i->xs[j]?=some x->x.cells[0]?=some c->∃u,cur[off+j]?=some u/\Az w fb c u
def BX:Value->Option Nat
 |.slice (some a) _ _=>some a.block
 |.pointer (some a)=>some a.block
 |.map (some b)=>some b
 |_=>none
def C8:Value->Nat->Prop
 |.tuple vs,b=>∃(i:Nat) (u:Value),vs[i]?=some u/\BX u=some b
 |v,b=>BX v=some b
def KC (x:Bool×List D):Bool:=x.1 || !x.2.isEmpty
def MC (rows:List (Bool×List D)) (i:Nat):Prop:=∀x,((true,[])::rows)[i]?=some x->KC x=true
def ZG (ix:List Nat) (rows:List (Bool×List D)):Bool:=ix.all fun j=>KC (rows[j]?.getD (true,[]))
def VS (w:World) (fb:Nat->Prop) (e1 e2:Nat) (nil:Bool) (ix:List Nat) (rows:List (Bool×List D)) (v:Value):Prop :=
 ∃(v0:Value) (vs:List Value),v=.tuple (v0::vs).toArray/\vs.length=rows.length /\
  ((
   nil=true/\ix=[]/\v0=.slice none 0 0)\/(nil=false/\∃b off cap cur,v0=.slice (some ⟨b,off,none⟩) ix.length cap/\w.heap[b]?=some (.cells cur e1 (0,0)) /\
   ix.length<=cap/\cap<=maxLen/\off+cap<=cur.size/\∀(p j:Nat),ix[p]?=some j->∃u,vs[j]?=some u/\cur[off+p]?=some u)) /\
  (∀(j:Nat) (x:Bool×List D) (u:Value),rows[j]?=some x->vs[j]?=some u->u.oneCell'=true/\(KC x=true->CM w fb e2 1 x.1 x.2 u)) /\
  ∀(i j:Nat) (u u':Value) (b:Nat),(v0::vs)[i]?=some u->(v0::vs)[j]?=some u'->MC rows i->MC rows j->BX u=some b->BX u'=some b->i=j
def Rl (i:Nat):Value->Option Value
 |.slice (some ⟨b,b0,none⟩) _ _=>some (.pointer (some ⟨b,b0+i,none⟩))
 |_=>none
def EH:MK->Value->Option Value
 |.out,.tuple vs=>vs[0]?
 |.row j,.tuple vs=>vs[j+1]?
 |.xp i,.tuple vs=>vs[0]?.bind (Rl i)
 |.mp j k,.tuple vs=>vs[j+1]?.bind (Rl k)
 |.bs off n cap,.pointer (some ⟨b,0,none⟩)=>if n<=4096 then some (.slice (some ⟨b,off,none⟩) n cap) else none
 |.rp m,.slice (some ⟨b,off,none⟩) _ cap=>if m<=cap then some (.slice (some ⟨b,off,none⟩) m cap) else none
 |.rs a es,.slice (some ⟨b,off,none⟩) n cap=>if a<=n then some (.slice (some (if cap=a then ⟨b,off,none⟩ else ⟨b,off+a*es,none⟩)) (n-a) (cap-a)) else none
 |_,_=>none
def NN (ix:List Nat) (rows:List (Bool×List D)):List D:=ix.map fun j=>.list (rows[j]?.getD (false,[])).1 (rows[j]?.getD (false,[])).2
def gx (sl:Bool) (n off b base:Nat):Value:=if sl then .slice (some ⟨b,base,none⟩) n n else .pointer (some ⟨b,base+off,none⟩)
open Go.RowKit in
def ZH (E:CW) (f:FuncId) (ds:List D) (ety es:Nat) (P:Bool->List D->Prop):Prop :=
 ∀(w:World) (fb:Nat->Prop) (vs:Array Value),(∀b,fb b->b<w.heap.size)->db E w fb->vs.size=ds.length ->
  (∀(i:Nat) (d:D) (v:Value),ds[i]?=some d->vs[i]?=some v->Az w fb d v) ->
  Calls E.P f vs w fun e w'=>∃v,e=.returned v/\Below w.heap.size w w'/\(∀b,C8 v b->w.heap.size<=b) /\
   ∃nl l,P nl l/\CM w' (fun b=>fb b\/C8 v b) ety es nl l v
def iC (E:CW) (f:FuncId) (ds:List D) (ety es:Nat) (nil:Bool) (xs:List D):Prop:=ZH E f ds ety es fun a b=>a=nil/\b=xs
def qP (x:AW) (ety es:Nat) (P:Bool->List D->Prop):Prop:=x=.rowP ety es P\/∃nl l,x=.row ety es nl l/\∀a b,P a b->a=nl/\b=l
def KI (l:List D):Bool:=l.all fun x=>x.cells.all D.prim
def AV.one:AV->Bool
 |.agg _|.tup _|.undef=>false
 |.d x=>x.one
 |_=>true
inductive AM (w:World) (fb:Nat->Prop) (β:Nat->Nat->Value) (cn:Nat->Nat):AV->Value->Prop
 |d (x v) (h:Az w fb x v):AM w fb β cn (.d x) v
 |ex (xs:List D) (a:Addr) (h:Az w fb (.list false xs) (.slice (some a) xs.length xs.length)):AM w fb β cn (.ex xs) (.slice (some a) xs.length xs.length)
 |agg (cs:List AV) (vs:Array Value) (hl:vs.size=cs.length) (h1:∀c,c∈cs->c.one=true)
  (h:∀(i:Nat) (c:AV) (v:Value),cs[i]?=some c->vs[i]?=some v->AM w fb β cn c v):AM w fb β cn (.agg cs) (.agg vs)
 |ptr (o g off b:Nat) (hg:g<cn o) (h:β o g=.pointer (some ⟨b,0,none⟩)):AM w fb β cn (.ptr o g off) (.pointer (some ⟨b,off,none⟩))
 |rptr (o g es i off b b0 n cap:Nat) (hg:g<cn o) (h:β o g=.slice (some ⟨b,b0,none⟩) n cap) :
  AM w fb β cn (.rptr o g es i off) (.pointer (some ⟨b,b0+i*es+off,none⟩))
 |dptr (cs:List D) (off b base:Nat) (vs:Nat->Value) (hb:¬fb b) (hne:cs≠[]) (h1:∀c,c∈cs->c.one=true)
  (hc:∀(j:Nat) (c:D),cs[j]?=some c->w.cell? ⟨b,base+j,none⟩=some (vs j))
  (hv:∀(j:Nat) (c:D),cs[j]?=some c->Az w fb c (vs j)):AM w fb β cn (.dptr cs off) (.pointer (some ⟨b,base+off,none⟩))
 |own (o g:Nat) (hg:g<cn o) (h1:(β o g).oneCell'=true):AM w fb β cn (.own o g) (β o g)
 |map (o g:Nat) (hg:g<cn o) (h1:(β o g).oneCell'=true):AM w fb β cn (.map o g) (β o g)
 |fn (f:FuncId) (cs:List AV) (vs:Array Value) (hl:vs.size=cs.length)
  (h:∀(i:Nat) (c:AV) (v:Value),cs[i]?=some c->vs[i]?=some v->AM w fb β cn c v):AM w fb β cn (.fn f cs) (.func (.func f) #[] vs)
 |tup (cs:List AV) (vs:Array Value) (hl:vs.size=cs.length)
  (h:∀(i:Nat) (c:AV) (v:Value),cs[i]?=some c->vs[i]?=some v->AM w fb β cn c v):AM w fb β cn (.tup cs) (.tuple vs)
 |undef (v):AM w fb β cn .undef v
 |bnd (f:FuncId) (cs:List AV) (vs:Array Value) (hl:vs.size=cs.length)
  (h:∀(i:Nat) (c:AV) (v:Value),cs[i]?=some c->vs[i]?=some v->AM w fb β cn c v):AM w fb β cn (.bnd f cs) (.func (.func f) vs #[])
 |mref (k:MK) (o g:Nat) (u:Value) (hg:g<cn o) (h:EH k (β o g)=some u) (h1:u.oneCell'=true):AM w fb β cn (.mref k o g) u
 |ablk (sl:Bool) (cs:List AV) (off b base:Nat) (vs:Nat->Value) (u:Value) (hb:¬fb b) (hne:cs≠[]) (h1:∀c,c∈cs->c.one=true)
  (hc:∀(j:Nat) (c:AV),cs[j]?=some c->w.cell? ⟨b,base+j,none⟩=some (vs j))
  (hv:∀(j:Nat) (c:AV),cs[j]?=some c->AM w fb β cn c (vs j)) (hu:u=gx sl cs.length off b base):AM w fb β cn (.ablk sl cs off) u
inductive Dn (w:World) (fb:Nat->Prop) (β:Nat->Nat->Value) (cn:Nat->Nat):AW->Value->Prop
 |cells (xs:List AV) (b:Nat) (cur:Array Value) (e:TypeId) (hb:w.heap[b]?=some (.cells cur e (0,0))) (hl:cur.size=xs.length)
  (h1:∀x,x∈xs->x.one=true) (h:∀(i:Nat) (x:AV) (u:Value),xs[i]?=some x->cur[i]?=some u->AM w fb β cn x u) :
  Dn w fb β cn (.cells xs) (.pointer (some ⟨b,0,none⟩))
 |row (ety es nil xs v) (h:CM w fb ety es nil xs v):Dn w fb β cn (.row ety es nil xs) v
 |rowP (ety es P nl xs v) (hp:P nl xs) (h:CM w fb ety es nl xs v):Dn w fb β cn (.rowP ety es P) v
 |rowH (ety xs i q p v) (h:lQ w fb β cn ety xs i q p v):Dn w fb β cn (.rowH ety xs i q p) v
 |mat (e1 e2 nil ix rows v) (h:VS w fb e1 e2 nil ix rows v):Dn w fb β cn (.mat e1 e2 nil ix rows) v
 |map (tys:HS) (kvs:List (D×D)) (b:Nat) (es:Array MapEntry) (hb:w.heap[b]?=some (.map es kvs.length)) (hl:es.size=kvs.length)
  (h:∀(i:Nat) (kv:D×D) (e:MapEntry),kvs[i]?=some kv->es[i]?=some e->Gt tys kv.1=true/\Az w fb kv.1 e.key/\Az w fb kv.2 e.val/\e.born=i) :
  Dn w fb β cn (.map tys kvs) (.map (some b))
 |mapB (tys:HS) (ks:List (Nat×D×D)) (cl b:Nat) (es:Array MapEntry) (hb:w.heap[b]?=some (.map es cl)) (hl:es.size=ks.length) (hr:GO es cl)
  (h:∀(i:Nat) (k:Nat×D×D) (e:MapEntry),ks[i]?=some k->es[i]?=some e->Gt tys k.2.1=true/\Az w fb k.2.1 e.key/\Az w fb k.2.2 e.val/\e.born=k.1) :
  Dn w fb β cn (.mapB tys ks cl) (.map (some b))
 |mitO (o g n:Nat) (seen:List Nat) (b m:Nat) (hg:g<cn o) (hβ:β o g=.map (some m)) (hb:w.heap[b]?=some (.mapIter (some m) n seen.toArray n)) :
  Dn w fb β cn (.mitO o g n seen) (.pointer (some ⟨b,0,none⟩))
 |mitD (tys:HS) (kvs:List (D×D)) (seen:List Nat) (b m:Nat) (es:Array MapEntry) (cl:Nat) (sn:List Nat) (hm:¬fb m) (hh:w.heap[m]?=some (.map es cl)) (hl:es.size=kvs.length) (hr:GO es cl)
  (hb:w.heap[b]?=some (.mapIter (some m) cl sn.toArray cl)) (hs:sn.length=seen.length) (hsn:∀(q i:Nat),seen[q]?=some i->∃e,es[i]?=some e/\sn[q]?=some e.born)
  (h:∀(i:Nat) (kv:D×D) (e:MapEntry),kvs[i]?=some kv->es[i]?=some e->Az w fb kv.1 e.key/\Az w fb kv.2 e.val) :
  Dn w fb β cn (.mitD tys kvs seen) (.pointer (some ⟨b,0,none⟩))
 |hist (els n st l):Dn w fb β cn (.hist els n st) (.func (.yield l) #[] #[])
def FZ (β:Nat->Nat->Value) (V:List (Nat×Nat×AW)) (b:Nat):Prop:=∃o g x,(o,g,x)∈V/\C8 (β o g) b
structure At (w:World) (fb:Nat->Prop) (β:Nat->Nat->Value) (cn:Nat->Nat) (V:List (Nat×Nat×AW)):Prop where
 objs:∀o g x,(o,g,x)∈V->g<cn o/\Dn w (fun b=>fb b\/FZ β V b) β cn x (β o g)
 sep:∀o g x o' g' x' b,(o,g,x)∈V->(o',g',x')∈V->C8 (β o g) b->C8 (β o' g') b->o=o'/\g=g'
 home:∀o g x b,(o,g,x)∈V->C8 (β o g) b->b<w.heap.size/\¬fb b
open Go.RowKit in
def Ft (E:CW) (f:FuncId) (V0:List (Nat×Nat×AW)) (xs:List AV) (V1:List (Nat×Nat×AW)) (r:AV):Prop :=
 ∀(w:World) (fb:Nat->Prop) (β:Nat->Nat->Value) (vs:Array Value),(∀b,fb b->b<w.heap.size)->db E w (fun b=>fb b\/FZ β V0 b) ->
  At w fb β (fun _=>1) V0->vs.size=xs.length ->
  (∀(i:Nat) (x:AV) (v:Value),xs[i]?=some x->vs[i]?=some v->AM w (fun b=>fb b\/FZ β V0 b) β (fun _=>1) x v) ->
  Calls E.P f vs w fun e w'=>∃v β1 cn1,e=.returned v/\w'.os=w.os/\w'.tape=w.tape/\w'.output=w.output/\w.heap.size<=w'.heap.size /\
   (∀k,k<w.heap.size->¬FZ β V0 k->w'.heap[k]?=w.heap[k]?)/\At w' fb β1 cn1 V1 /\
   (∀o g x,(o,g,x)∈V0->C_<=o->(∃x',(o,g,x')∈V1)/\β1 o g=β o g) /\
   (∀o g x b,(o,g,x)∈V1->C8 (β1 o g) b->w.heap.size<=b\/FZ β V0 b) /\
   AM w' (fun b=>fb b\/FZ β1 V1 b) β1 cn1 r v
abbrev Ren:=List ((Nat×Nat)×(Nat×Nat))
def Ren.get:Ren->Nat->Nat->Option (Nat×Nat)
 |[],_,_=>none
 |(p,q)::l,o,g=>if o=p.1/\g=p.2 then some q else Ren.get l o g
def AV.ren (ρ:Ren):AV->Option AV
 |.ptr o g off=>match ρ.get o g with|some q=>some (.ptr q.1 q.2 off)|none=>none
 |.rptr o g es i off=>match ρ.get o g with|some q=>some (.rptr q.1 q.2 es i off)|none=>none
 |.own o g=>match ρ.get o g with|some q=>some (.own q.1 q.2)|none=>none
 |.map o g=>match ρ.get o g with|some q=>some (.map q.1 q.2)|none=>none
 |.agg cs=>match renL ρ cs with|some l=>some (.agg l)|none=>none
 |.fn f cs=>match renL ρ cs with|some l=>some (.fn f l)|none=>none
 |.tup cs=>match renL ρ cs with|some l=>some (.tup l)|none=>none
 |.bnd ..=>none
 |.mref k o g=>match ρ.get o g with|some q=>some (.mref k q.1 q.2)|none=>none
 |.ablk sl cs off=>match renL ρ cs with|some l=>some (.ablk sl l off)|none=>none
 |v=>some v
where
 renL (ρ:Ren):List AV->Option (List AV)
  |[]=>some []
  |x::xs=>match x.ren ρ with
   |none=>none
   |some y=>match renL ρ xs with
    |none=>none
    |some ys=>some (y::ys)
def AW.ren (ρ:Ren):AW->Option AW
 |.cells xs=>match AV.ren.renL ρ xs with|some l=>some (.cells l)|none=>none
 |.hist ..=>none
 |.rowP ..=>none
 |.rowH ..=>none
 |.mitO ..=>none
 |.mitD ..=>none
 |x=>some x
def AV.sites:AV->List Nat
 |.own o _|.map o _|.ptr o _ _|.rptr o _ _ _ _|.mref _ o _=>[o]
 |.ablk _ cs _=>sitesL cs
 |.agg cs=>sitesL cs
 |.fn _ cs=>sitesL cs
 |.bnd _ cs=>sitesL cs
 |.tup cs=>sitesL cs
 |_=>[]
where
 sitesL:List AV->List Nat
  |[]=>[]
  |x::xs=>x.sites++sitesL xs
def AL.osites (V:AL) (o:Nat):List Nat:=match V.ob o with
 |some (_,.cells xs)=>AV.sites.sitesL xs
 |some (_,.rowH _ _ _ q _)=>[q]
 |some (_,.mitO q _ _ _)=>[q]
 |_=>[]
def AL.reach (V:AL):Nat->List Nat->List Nat
 |0,l=>l
 |n+1,l=>l++V.reach n (l.flatMap V.osites)
def Dd (dst:Option Nat) (V:AL) (xs:List AV):List Nat:=(match dst with|some t=>S0 t|none=>[])++V.reach 3 (AV.sites.sitesL xs)
def qH (ρ:Ren):AV->AV->Prop
 |.d z,x=>x.toD1=some z
 |y,x=>y.ren ρ=some x
def Sf (ρ:Ren):List AV->List AV->Prop
 |[],[]=>True
 |y::ys,x::xs=>qH ρ y x/\Sf ρ ys xs
 |_,_=>False
def Handed (V:AL) (F:List Nat) (ρ:Ren):List (Nat×Nat×AW)->Prop
 |[]=>True
 |(o,g,x)::l=>(match ρ.get o g,x.ren ρ with
  |some q,some y=>V.get q.1 q.2=some y/\F.contains q.1=true
  |_,_=>False)/\Handed V F ρ l
def Ki (ρ ρ2:Ren):List (Nat×Nat×AW)->Option B3
 |[]=>some .none
 |(o,g,x)::l=>match ρ2.get o g,x.ren ρ2,Ki ρ ρ2 l with
  |some q,some y,some c=>some (.seq (match ρ.get o g with|some _=>.keep q.1 q.2 y|none=>.fresh q.1 y) c)
  |_,_,_=>none
def It (V:List (Nat×Nat×AW)) (o g:Nat):Bool:=V.any fun p=>p.1 == o && p.2.1 == g
def Dt:List Nat->Bool
 |[]=>true
 |x::l=>!l.contains x && Dt l
def VM (ρ2:Ren) (o:Nat):Bool:=ρ2.any fun e=>match ρ2.get e.1.1 e.1.2 with|some q=>q.1 == o|none=>false
def RI (ρ:Ren) (o:Nat):Bool:=ρ.any fun e=>decide (e.1.1<C_) && (match ρ.get e.1.1 e.1.2 with|some q=>q.1 == o|none=>false)
def Gp (cn:Nat->Nat) (dst:Option Nat) (V0 V1:List (Nat×Nat×AW)) (ρ ρ2:Ren):Bool :=
 (ρ.all fun e=>e.1.2 == 0 && It V0 e.1.1 e.1.2 && (match ρ2.get e.1.1 e.1.2 with
  |some q=>decide (C_<=e.1.1) && (q.1 == e.2.1 && q.2 == e.2.2)
  |none=>decide (e.1.1<C_) && VM ρ2 e.2.1)) &&
 (ρ2.all fun e=>It V1 e.1.1 e.1.2 && (match ρ.get e.1.1 e.1.2 with
  |some _=>true
  |none=>decide (e.2.1<C_) && e.2.2 == cn e.2.1 && ((match dst with|some t=>(S0 t).contains e.2.1|none=>false) || RI ρ e.2.1))) &&
 Dt (ρ.map fun e=>e.2.1) && Dt (ρ2.map fun e=>e.2.1) && Dt (V1.map (·.1))
def A0 (op:BinOp) (k:IntKind) (x y:Int):Int :=
 match op with
 |.and=>k.wrap ((BitVec.ofInt k.bits x &&& BitVec.ofInt k.bits y).toNat:Int)
 |.or=>k.wrap ((BitVec.ofInt k.bits x ||| BitVec.ofInt k.bits y).toNat:Int)
 |.xor=>k.wrap ((BitVec.ofInt k.bits x ^^^ BitVec.ofInt k.bits y).toNat:Int)
 |_=>k.wrap ((BitVec.ofInt k.bits x &&& ~~~(BitVec.ofInt k.bits y)).toNat:Int)
def D7 (op:BinOp) (k k':IntKind) (a b:Int) (K:AV->Prop):Prop :=
 match op with
 |.add=>k=k'/\K (.d (.int k (k.wrap (a+b))))
 |.sub=>k=k'/\K (.d (.int k (k.wrap (a-b))))
 |.mul=>k=k'/\K (.d (.int k (k.wrap (a*b))))
 |.quo=>k=k'/\b≠0/\K (.d (.int k (k.wrap (a.tdiv b))))
 |.rem=>k=k'/\b≠0/\K (.d (.int k (a.tmod b)))
 |.shl=>0<=b/\K (.d (.int k (k.wrap (a*2^(min b.toNat k.bits)))))
 |.shr=>0<=b/\K (.d (.int k (a.fdiv (2^(min b.toNat k.bits)))))
 |.and|.or|.xor|.andNot=>k=k'/\K (.d (.int k (A0 op k a b)))
 |.eql=>k=k'/\K (.d (.bool (decide (a=b))))
 |.neq=>k=k'/\K (.d (.bool (!decide (a=b))))
 |.lss=>k=k'/\K (.d (.bool (decide (a<b))))
 |.leq=>k=k'/\K (.d (.bool (decide (a<=b))))
 |.gtr=>k=k'/\K (.d (.bool (decide (b<a))))
 |.geq=>k=k'/\K (.d (.bool (decide (b<=a))))
def C0 (es:Nat) (l:List D):Prop:=∀x,x∈l->x.cells.length=es
def Cb {α:Type}(ag:Bool) (n:Nat) (cs:List α) (off:Nat) (mk:List α->AV) (one:α->AV) (K:AV->Prop):Prop :=
 if ag then off+n<=cs.length/\K (mk ((cs.drop off).take n))
 else match cs[off]? with
  |some v=>K (one v)
  |none=>False
def Bs {α:Type}(cs:List α) (off:Nat) (vs:List α):List α:=cs.take off++vs++cs.drop (off+vs.length)
def Mw:List AV->List ((Nat×Nat)×AV)->Option (List AV)
 |cs,[]=>some cs
 |cs,((off,size),v)::rest =>
  match v.cells? with
  |none=>none
  |some vs=>if vs.length=size/\off+size<=cs.length then Mw (Bs cs off vs) rest else none
def F_ (es:Nat):List D->List (Nat×AV)->Option (List D)
 |xs,[]=>some xs
 |xs,(i,v)::rest =>
  match v.toD1 with
  |none=>none
  |some x=>if x.cells.length=es/\i<xs.length then F_ es (xs.set i x) rest else none
def C1:Nat:=1073741824
def AV.asList (V:AL):AV->Option (Bool×List D)
 |.d (.list nil xs)=>some (nil,xs)
 |.ex xs=>some (false,xs)
 |.own o g=>match V.get o g with
  |some (.row _ _ nil xs)=>some (nil,xs)
  |_=>none
 |.mref .out o g=>match V.get o g with
  |some (.mat _ _ nil ix rows)=>if ZG ix rows then some (nil,NN ix rows) else none
  |_=>none
 |.mref (.row j) o g=>match V.get o g with
  |some (.mat _ _ _ _ rows)=>rows[j]?.filter KC
  |_=>none
 |_=>none
def AV.lenL (V:AL):AV->Option Nat
 |.mref (.bs _ n _) _ _=>some n
 |.mref .out o g=>match V.get o g with
  |some (.mat _ _ _ ix _)=>some ix.length
  |_=>none
 |x=>match x.asList V with
  |some (_,l)=>some l.length
  |none=>none
def EU (V:AL) (zero:Option D) (y:AV):Option (List D) :=
 match zero with
 |none=>match y with
  |.mref .out _ _=>none
  |_=>match y.asList V with|some (_,ys)=>some ys|none=>none
 |some z=>match y with
  |.d (.int .i64 n)=>if 0<=n/\n<=(C1:Int) then some (List.replicate n.toNat z) else none
  |_=>none
def MV (lo hi:Bool) (len:Nat) (rest:List AV) (C:Nat->Nat->Prop):Prop :=
 if lo then
  (if hi then (match rest with|[.d (.int _ l),.d (.int _ h)]=>0<=l/\l<=h/\h<=len/\C l.toNat h.toNat|_=>False)
  else (match rest with|[.d (.int _ l)]=>0<=l/\l<=len/\C l.toNat len|_=>False))
 else
  (if hi then (match rest with|[.d (.int _ h)]=>0<=h/\h<=len/\C 0 h.toNat|_=>False)
  else (match rest with|[]=>C 0 len|_=>False))
def jy (a b:Int):Int:=if b<a then b else a
def jz (a b:Int):Int:=if b>a then b else a
def GL (isMax:Bool) (k:IntKind) (a:Int):List AV->Option Int
 |[]=>some a
 |.d (.int k' b)::rest=>if k=k' then GL isMax k (if isMax then jz a b else jy a b) rest else none
 |_=>none
def Sg (V:AL) (xs:List AV):Option (List D):=BV (AV.snapN V) xs
def FB (xs:List AV):Option (List D):=BV AV.toD1 xs
def up:D->AV
 |.tup xs=>.tup (xs.map .d)
 |x=>.d x
def qG (o g:Nat) (nl:Bool) (l:List D):AV->Option D
 |.own o' g'=>if o'=o/\g'=g then some (.list nl l) else none
 |x=>x.toD1
def Dk (E:CW) (dst:Option Nat) (V:AL) (f:FuncId) (xs:List AV) (K:AV->B3->Prop):Prop :=
 (∃ds r,FB xs=some ds/\Cc E f ds r/\K (up r) .none) \/
 (∃ds r,Sg V xs=some ds/\Cc E f ds r/\r.flat=true/\K (up r) .none) \/
 (∃ds t ety es P x,dst=some t/\t<C_/\(FB xs=some ds\/(Sg V xs=some ds/\∀nl l,P nl l->KI l=true))/\ZH E f ds ety es P/\qP x ety es P/\K (.own t (V.cn t)) (.fresh t x)) \/
 (∃V0 cxs V1 r r' ch,∃ρ ρ2:Ren,Sf ρ cxs xs/\Ft E f V0 cxs V1 r/\Handed V (Dd dst V xs) ρ V0/\Gp V.cn dst V0 V1 ρ ρ2=true /\
  r.ren ρ2=some r'/\Ki ρ ρ2 V1=some ch/\K r' ch) \/
 (∃o g ety es nl l ds r,V.get o g=some (.row ety es nl l)/\o<C_/\(Dd dst V xs).contains o=true/\BV (qG o g nl l) xs=some ds/\Cc E f ds r/\K (up r) (.fresh o (.row ety es true [])))
def Bk (P:Program) (f:FuncId):Bool :=
 match P.funcs[f]? with
 |some fn=>fn.body.isSome && fn.name != "runtime.NumGoroutine"
 |none=>false
def ev (E:CW) (dst:Option Nat) (V:AL) (op:Bw) (xs:List AV) (K:AV->B3->Prop):Prop :=
 match op with
 |.sub es=>match xs with
  |[.own o g,.d (.int _ i)]=>match V.get o g with
   |some (.row _ es' nil l)=>nil=false/\es=es'/\0<=i/\i<=l.length/\K (.mref (.rs i.toNat es) o g) .none
   |_=>False
  |_=>False
 |.pre=>match xs with
  |[.own o g,.d (.int _ i)]=>match V.get o g with
   |some (.row _ _ nil l)=>nil=false/\0<=i/\i<=l.length/\K (.mref (.rp i.toNat) o g) .none
   |_=>False
  |_=>False
 |.cpy=>match xs with
  |[.own o g,y]=>match V.get o g,y.toD0 with
   |some (.row ety es nil l),some (.list _ ys)=>nil=false/\es=1/\C0 1 ys /\
    K (.d (.int .i64 ((min ys.length l.length:Nat):Int))) (.keep o g (.row ety 1 false (ys.take l.length++l.drop (min ys.length l.length))))
   |_,_=>False
  |[.mref (.rs a es) o g,.mref (.rp n) o' g']=>match V.get o g with
   |some (.row ety es' nil l)=>nil=false/\es=1/\es'=1/\o'=o/\g'=g/\n<=a/\a<=l.length /\
    K (.d (.int .i64 ((min n (l.length-a):Nat):Int))) (.keep o g (.row ety 1 false (l.take a++l.take (min n (l.length-a))++l.drop (a+min n (l.length-a)))))
   |_=>False
  |_=>False
 |.clr zs=>match xs with
  |[.mref (.rs a es) o g]=>match V.get o g with
   |some (.row ety es' nil l)=>es=es'/\zs.length=es/\a<=l.length/\K (.tup []) (.keep o g (.row ety es nil (l.take a++List.replicate (l.length-a) (.agg zs))))
   |_=>False
  |_=>False
 |.mov=>match xs with
  |[x]=>K x .none
  |_=>False
 |.pick=>match xs with
  |[.d (.bool c),a,b]=>HP c (K a .none) (K b .none)
  |_=>False
 |.bin b=>match xs with
  |[.d (.int k x),.d (.int k' y)]=>D7 b k k' x y (K · .none)
  |_=>False
 |.beq neg=>match xs with
  |[.d (.bool x),.d (.bool y)]=>K (.d (.bool (if neg then !(x == y) else (x == y)))) .none
  |_=>False
 |.eqv neg tys=>match xs with
  |[x,y]=>match x.toD1,y.toD1 with
   |some a,some b=>Gt tys a=true/\Gt tys b=true/\K (.d (.bool (if neg then !Dl a b else Dl a b))) .none
   |_,_=>False
  |_=>False
 |.eqnil neg=>match xs with
  |[x,.d (.list true [])]=>match x.asList V with
   |some (nil,_)=>K (.d (.bool (if neg then !nil else nil))) .none
   |none=>False
  |_=>False
 |.un u=>match u,xs with
  |.not,[.d (.bool b)]=>K (.d (.bool (!b))) .none
  |.neg,[.d (.int k n)]=>K (.d (.int k (k.wrap (0-n)))) .none
  |.xor,[.d (.int k n)]=>K (.d (.int k (A0 .xor k (if k.signed then -1 else k.max) n))) .none
  |_,_=>False
 |.conv k=>match xs with
  |[.d (.int _ n)]=>K (.d (.int k (k.wrap n))) .none
  |_=>False
 |.load ag n=>match xs with
  |[.ptr o g off]=>match V.get o g with
   |some (.cells cs)=>Cb ag n cs off .agg id (K · .none)
   |_=>False
  |[.rptr o g es i off]=>match V.get o g with
   |some (.row _ es' _ l)=>es=es'/\(match l[i]? with
    |some x=>Cb ag n x.cells off (fun cs=>.d (.agg cs)) .d (K · .none)
    |none=>False)
   |some (.rowH _ l k q p)=>es=1/\(i=k->Cb ag n [.own q p] off .agg id (K · .none))/\(i≠k->match l[i]? with
    |some x=>Cb ag n x.cells off (fun cs=>.d (.agg cs)) .d (K · .none)
    |none=>False)
   |_=>False
  |[.dptr cs off]=>Cb ag n cs off (fun cs=>.d (.agg cs)) .d (K · .none)
  |[.d (.ptr cs)]=>Cb ag n cs 0 (fun cs=>.d (.agg cs)) .d (K · .none)
  |[.mref (.xp i) o g]=>match V.get o g with
   |some (.mat _ _ _ ix _)=>(match ix[i]? with
    |some j=>Cb ag n [.mref (.row j) o g] 0 .agg id (K · .none)
    |none=>False)
   |_=>False
  |[.mref (.mp j k) o g]=>match V.get o g with
   |some (.mat _ _ _ _ rows)=>(match rows[j]? with
    |some x=>(match x.2[k]? with
      |some y=>Cb ag n y.cells 0 (fun cs=>.d (.agg cs)) .d (K · .none)
      |none=>False)
    |none=>False)
   |_=>False
  |[.ablk false cs off]=>Cb ag n cs off .agg id (K · .none)
  |_=>False
 |.store n=>match xs with
  |[.ptr o g off,v]=>match V.get o g,v.cells? with
   |some (.cells cs),some vs=>vs.length=n/\off+n<=cs.length/\K .undef (.keep o g (.cells (Bs cs off vs)))
   |_,_=>False
  |[.rptr o g es0 i off,.own q p]=>match V.get o g with
   |some (.row ety es nil l)=>es0=1/\es=1/\nil=false/\off=0/\n=1/\i<l.length/\K .undef (.keep o g (.rowH ety l i q p))
   |some (.rowH ety l k _ _)=>es0=1/\off=0/\n=1/\i=k/\K .undef (.keep o g (.rowH ety l k q p))
   |_=>False
  |[.rptr o g es0 i off,v]=>match V.get o g,v.toD1 with
   |some (.row ety es nil l),some y=>es0=es/\(match l[i]? with
    |some x=>y.cells.length=n/\off+n<=x.cells.length/\(n=es\/1<x.cells.length) /\
       K .undef (.keep o g (.row ety es nil (l.set i (if n=es then y else .agg (Bs x.cells off y.cells)))))
    |none=>False)
   |_,_=>False
  |[.mref (.xp i) o g,.mref (.row j) o' g']=>match V.get o g with
   |some (.mat e1 e2 nil ix rows)=>n=1/\o'=o/\g'=g/\i<ix.length/\j<rows.length/\K .undef (.keep o g (.mat e1 e2 nil (ix.set i j) rows))
   |_=>False
  |[.mref (.xp i) o g,.own q p]=>match V.get o g,V.get q p with
   |some (.mat e1 e2 nil ix rows),some (.row e2' es2 nl2 l2)=>n=1/\o<C_/\q<C_/\o≠q/\es2=1/\e2'=e2/\i<ix.length /\
      K .undef (.seq (.keep o g (.mat e1 e2 nil (ix.set i rows.length) (rows++[(nl2,l2)]))) (.fresh q (.row e2 1 true [])))
   |_,_=>False
  |[.mref (.mp j k) o g,v]=>match V.get o g,v.toD1 with
   |some (.mat e1 e2 nil ix rows),some y=>(match rows[j]? with
    |some x=>n=1/\y.cells.length=1/\k<x.2.length/\K .undef (.keep o g (.mat e1 e2 nil ix (rows.set j (x.1,x.2.set k y))))
    |none=>False)
   |_,_=>False
  |_=>False
 |.nilck=>match xs with
  |[.mref (.xp i) o g]=>K (.mref (.xp i) o g) .none
  |[.mref (.mp j k) o g]=>K (.mref (.mp j k) o g) .none
  |[.ablk false cs off]=>K (.ablk false cs off) .none
  |[.ptr o g off]=>K (.ptr o g off) .none
  |[.rptr o g es i off]=>K (.rptr o g es i off) .none
  |[.dptr cs off]=>K (.dptr cs off) .none
  |[.d (.ptr cs)]=>K (.d (.ptr cs)) .none
  |_=>False
 |.field ag off n=>match xs with
  |[.agg cs]=>Cb ag n cs off .agg id (K · .none)
  |[.d (.agg cs)]=>Cb ag n cs off (fun cs=>.d (.agg cs)) .d (K · .none)
  |_=>False
 |.faddr off=>match xs with
  |[.ptr o g a]=>K (.ptr o g (a+off)) .none
  |[.rptr o g es i a]=>K (.rptr o g es i (a+off)) .none
  |[.dptr cs a]=>K (.dptr cs (a+off)) .none
  |[.d (.ptr cs)]=>K (.dptr cs off) .none
  |[.ablk false cs a]=>K (.ablk false cs (a+off)) .none
  |_=>False
 |.iaddrS es=>match xs with
  |[.own o g,.d (.int _ i)]=>match V.get o g with
   |some (.row _ es' _ l)=>es=es'/\0<=i/\i<l.length/\K (.rptr o g es i.toNat 0) .none
   |some (.rowH _ l _ _ _)=>es=1/\0<=i/\i<l.length/\K (.rptr o g es i.toNat 0) .none
   |_=>False
  |[.d (.list _ l),.d (.int _ i)]=>0<=i/\i<l.length/\(match l[i.toNat]? with|some x=>x.cells.length=es/\K (.dptr x.cells 0) .none|none=>False)
  |[.ex l,.d (.int _ i)]=>0<=i/\i<l.length/\(match l[i.toNat]? with|some x=>x.cells.length=es/\K (.dptr x.cells 0) .none|none=>False)
  |[.mref .out o g,.d (.int _ i)]=>match V.get o g with
   |some (.mat _ _ _ ix _)=>es=1/\0<=i/\i<ix.length/\K (.mref (.xp i.toNat) o g) .none
   |_=>False
  |[.mref (.row j) o g,.d (.int _ i)]=>match V.get o g with
   |some (.mat _ _ _ _ rows)=>(match rows[j]? with
    |some x=>es=1/\0<=i/\i<x.2.length/\K (.mref (.mp j i.toNat) o g) .none
    |none=>False)
   |_=>False
  |[.mref (.bs off n _) o g,.d (.int _ i)]=>es=1/\0<=i/\i<n/\K (.ptr o g (off+i.toNat)) .none
  |_=>False
 |.iaddrA len es=>match xs with
  |[.ptr o g off,.d (.int _ i)]=>0<=i/\i<len/\K (.ptr o g (off+i.toNat * es)) .none
  |[.rptr o g es' j off,.d (.int _ i)]=>0<=i/\i<len/\K (.rptr o g es' j (off+i.toNat * es)) .none
  |[.dptr cs off,.d (.int _ i)]=>0<=i/\i<len/\K (.dptr cs (off+i.toNat * es)) .none
  |[.d (.ptr cs),.d (.int _ i)]=>0<=i/\i<len/\K (.dptr cs (i.toNat * es)) .none
  |_=>False
 |.index len es ag=>match xs with
  |[.agg cs,.d (.int _ i)]=>0<=i/\i<len/\Cb ag es cs (i.toNat * es) .agg id (K · .none)
  |[.d (.agg cs),.d (.int _ i)]=>0<=i/\i<len/\Cb ag es cs (i.toNat * es) (fun cs=>.d (.agg cs)) .d (K · .none)
  |_=>False
 |.strx s=>match xs with
  |[.d (.int _ i)]=>0<=i/\(match s[i.toNat]? with
   |some b=>K (.d (.int .u8 b.toNat)) .none
   |none=>False)
  |_=>False
 |.build zero places=>match Mw (zero.map .d) (places.zip xs) with
  |some cs=>places.length=xs.length/\K (.agg cs) .none
  |none=>False
 |.mkrow es zero len at_=>match xs with
  |[.own q p]=>es=1/\len=1/\at_=[0]/\K (.ablk true [.own q p] 0) .none
  |xs=>match F_ es (List.replicate len zero) (at_.zip xs) with
   |some l=>at_.length=xs.length/\K (.ex l) .none
   |none=>False
 |.mkrowO ety es zero len at_=>match dst,F_ es (List.replicate len zero) (at_.zip xs) with
  |some t,some l=>t<C_/\at_.length=xs.length/\K (.own t (V.cn t)) (.fresh t (.row ety es false l))
  |_,_=>False
 |.mkfn f=>K (.fn f xs) .none
 |.mkbnd f=>K (.bnd f xs) .none
 |.yld=>False
 |.box=>match dst,xs with
  |some t,[v]=>match v.cells? with
   |some cs=>t<C_/\K (.ptr t (V.cn t) 0) (.fresh t (.cells cs))
   |none=>False
  |_,_=>False
 |.zero cs=>match dst with
  |some t=>t<C_/\K (.ptr t (V.cn t) 0) (.fresh t (.cells (cs.map .d)))
  |none=>False
 |.mkmap tys=>match dst with
  |some t=>t<C_/\K (.map t (V.cn t)) (.fresh t (.map tys []))
  |none=>False
 |.mkmapB tys=>match dst with
  |some t=>t<C_/\K (.map t (V.cn t)) (.fresh t (.mapB tys [] 0))
  |none=>False
 |.mrange=>match dst,xs with
  |some t,[.map o g]=>match V.get o g with
   |some ob=>match ob.ents with
    |some (_,cl)=>t<C_/\K (.ptr t (V.cn t) 0) (.fresh t (.mitO o g cl []))
    |none=>False
   |none=>False
  |some t,[.d (.map tys kvs)]=>t<C_/\K (.ptr t (V.cn t) 0) (.fresh t (.mitD tys kvs []))
  |_,_=>False
 |.mentry=>match xs with
  |[.ptr o g 0]=>match V.get o g with
   |some (.mitO mo mg n seen)=>match V.get mo mg with
    |some ob=>match ob.ents with
      |some (es,cl)=>cl=n/\(match seen.getLast? with
       |some b=>match es.find? (fun e=>e.1 == b) with
         |some e=>K (.tup [.d e.2.1,.d e.2.2]) .none
         |none=>False
       |none=>False)
      |none=>False
    |none=>False
   |some (.mitD tys kvs seen)=>match seen.getLast? with
    |some i=>match kvs[i]? with
      |some kv=>K (.tup [.d kv.1,.d kv.2]) .none
      |none=>False
    |none=>False
   |_=>False
  |_=>False
 |.delete tys=>match xs with
  |[.map o g,key]=>(match V.get o g,key.toD1 with
   |some (.mapB tys' es cl),some k=>tys=tys'/\Gt tys k=true/\K (.tup []) (.keep o g (.mapB tys (match D6 k (es.map (·.2)) with|some i=>es.eraseIdx i|none=>es) cl))
   |_,_=>False)
  |_=>False
 |.mksl ety es zero own=>match dst,xs with
  |some t,[.d (.int .i64 n),.d (.int .i64 m)]=>n=m/\0<=n/\n<=(C1:Int) /\
    (
     if own then t<C_/\K (.own t (V.cn t)) (.fresh t (.row ety es false (List.replicate n.toNat zero)))
     else K (.d (.list false (List.replicate n.toNat zero))) .none)
  |_,_=>False
 |.slice es lo hi max =>
  if max then (match lo,hi,xs with
   |false,true,[.d (.list false l),.d (.int _ h),.d (.int _ m)]=>C0 es l/\h=m/\0<=h/\h<=l.length/\K (.ex (l.take h.toNat)) .none
   |false,true,[.d (.list true []),.d (.int _ h),.d (.int _ m)]=>h=0/\m=0/\K (.d (.list true [])) .none
   |true,true,[.ptr o g off,.d (.int _ h),.d (.int _ m)]=>0<=h/\h<=m/\K (.mref (.bs off h.toNat m.toNat) o g) .none
   |true,true,[.d (.ptr cs),.d (.int _ h),.d (.int _ m)]=>0<=h/\h<=m/\m<=cs.length/\K (.d (.list false (cs.take h.toNat))) .none
   |true,true,[.dptr cs off,.d (.int _ h),.d (.int _ m)]=>0<=h/\h<=m/\off+m.toNat<=cs.length/\K (.d (.list false ((cs.drop off).take h.toNat))) .none
   |true,true,[.d (.list false l),.d (.int _ a),.d (.int _ h),.d (.int _ m)]=>C0 es l/\h=m/\0<=a/\a<h/\h<=l.length/\K (.ex ((l.drop a.toNat).take (h.toNat-a.toNat))) .none
   |_,_,_=>False)
  else match xs with
  |.d (.list nil l)::rest=>C0 es l/\MV lo hi l.length rest fun a b=>K (.d (.list nil ((l.drop a).take (b-a)))) .none
  |.ex l::rest=>C0 es l/\MV lo hi l.length rest fun a b=>K (.d (.list false ((l.drop a).take (b-a)))) .none
  |.own o g::rest=>(match V.get o g with
   |some (.row ety es' nil l)=>o<C_/\es=es'/\MV lo hi l.length rest fun a b=>K (.own o (V.cn o)) (.fresh o (.row ety es nil (if hi then (l.drop a).take (b-a) else l.drop a)))
   |_=>False)
  |_=>False
 |.len isMap=>match xs with
  |[x]=>if isMap then (match x with
    |.map o g=>(match V.get o g with
      |some (.map _ kvs)=>kvs.length<=C1/\K (.d (.int .i64 kvs.length)) .none
      |some (.mapB _ es _)=>es.length<=C1/\K (.d (.int .i64 es.length)) .none
      |_=>False)
    |.d (.map _ kvs)=>kvs.length<=C1/\K (.d (.int .i64 kvs.length)) .none
    |_=>False)
   else (match x.lenL V with
    |some n=>K (.d (.int .i64 n)) .none
    |none=>False)
  |_=>False
 |.cap=>match xs with
  |[.d (.list true [])]=>K (.d (.int .i64 0)) .none
  |_=>False
 |.minmax isMax=>match xs with
  |.d (.int k a)::rest=>(match GL isMax k a rest with
   |some r=>K (.d (.int k r)) .none
   |none=>False)
  |_=>False
 |.extract i=>match xs with
  |[.tup vs]=>(match vs[i]? with
   |some v=>K v .none
   |none=>False)
  |_=>False
 |.lookup ok tys zero=>match xs with
  |[.map o g,key]=>(match V.get o g,key.toD1 with
   |some (.map tys' kvs),some k=>tys=tys'/\Gt tys k=true/\(match CG k kvs with
    |some v=>K (if ok then .tup [.d v,.d (.bool true)] else .d v) .none
    |none=>K (if ok then .tup [.d zero,.d (.bool false)] else .d zero) .none)
   |some (.mapB tys' es _),some k=>tys=tys'/\Gt tys k=true/\(match CG k (es.map (·.2)) with
    |some v=>K (if ok then .tup [.d v,.d (.bool true)] else .d v) .none
    |none=>K (if ok then .tup [.d zero,.d (.bool false)] else .d zero) .none)
   |_,_=>False)
  |[.d (.map tys' kvs),key]=>(match key.toD1 with
   |some k=>tys=tys'/\Gt tys k=true/\(match CG k kvs with
    |some v=>K (if ok then .tup [.d v,.d (.bool true)] else .d v) .none
    |none=>K (if ok then .tup [.d zero,.d (.bool false)] else .d zero) .none)
   |none=>False)
  |[.d .nilmap,key]=>(match key.toD1 with
   |some k=>Gt tys k=true/\K (if ok then .tup [.d zero,.d (.bool false)] else .d zero) .none
   |none=>False)
  |_=>False
 |.mapupd tys=>match xs with
  |[.map o g,key,val]=>(match V.get o g,key.toD1,val.toD1 with
   |some (.map tys' kvs),some k,some v=>tys=tys'/\Gt tys k=true/\K .undef (.keep o g (.map tys (Qo k v kvs)))
   |some (.mapB tys' es cl),some k,some v=>tys=tys'/\Gt tys k=true/\K .undef (.keep o g (match D6 k (es.map (·.2)) with
    |some i=>.mapB tys (match es[i]? with|some e=>es.set i (e.1,k,v)|none=>es) cl
    |none=>.mapB tys (es++[(cl,k,v)]) (cl+1)))
   |_,_,_=>False)
  |_=>False
 |.mapent tys zero=>match xs with
  |[.map o g,key]=>(match V.get o g,key.toD1 with
   |some (.map tys' kvs),some k=>tys=tys'/\Gt tys k=true/\kvs.length<=C1/\(match D6 k kvs with
    |some i=>K (.tup [.undef,.d (.int .i64 i)]) .none
    |none=>K (.tup [.undef,.d (.int .i64 kvs.length)]) (.keep o g (.map tys (kvs++[(k,zero)]))))
   |_,_=>False)
  |_=>False
 |.entst=>match xs with
  |[.map o g,.d (.int _ i),val]=>(match V.get o g,val.toD1 with
   |some (.map tys kvs),some v=>0<=i/\v.one=true/\(match kvs[i.toNat]? with
    |some e=>K .undef (.keep o g (.map tys (kvs.set i.toNat (e.1,v))))
    |none=>False)
   |_,_=>False)
  |_=>False
 |.app ety es zero own=>match xs with
  |[.mref k o g,y]=>(match k,V.get o g,y with
   |.out,some (.mat e1 e2 nil ix rows),.ablk true [.own q p] 0=>(match V.get q p with
    |some (.row e2' es2 nl2 l2)=>zero=none/\o<C_/\q<C_/\o≠q/\ety=e1/\es=1/\es2=1/\e2'=e2/\ix.length+1<=C1 /\
       K (.mref .out o (V.cn o)) (.seq (.fresh o (.mat e1 e2 false (ix++[rows.length]) (rows++[(nl2,l2)]))) (.fresh q (.row e2 1 true [])))
    |_=>False)
   |.row j,some (.mat e1 e2 nil ix rows),y=>(match rows[j]?,EU V zero y with
    |some x,some ys=>es=1/\o<C_/\ety=e2/\KC x=true/\ys≠[]/\C0 es ys/\x.2.length+ys.length<=C1 /\
       K (.mref (.row rows.length) o g) (.keep o g (.mat e1 e2 nil ix (rows.set j (false,[])++[(false,x.2++ys)])))
    |_,_=>False)
   |_,_,_=>False)
  |[x,y]=>(match EU V zero y with
   |none=>False
   |some ys=>(match x with
    |.own o g=>(match V.get o g with
      |some (.row ety' es' nil l)=>o<C_/\ety=ety'/\es=es'/\C0 es ys/\l.length+ys.length<=C1 /\
         K (.own o (V.cn o)) (.fresh o (.row ety es (nil && ys.isEmpty) (l++ys)))
      |_=>False)
    |.d (.list true [])=>C0 es ys/\ys.length<=C1 /\
       (if own then (match dst with
         |some t=>t<C_/\K (.own t (V.cn t)) (.fresh t (.row ety es ys.isEmpty ys))
         |none=>False)
        else K (.d (.list ys.isEmpty ys)) .none)
    |.ex l=>C0 es (l++ys)/\l.length+ys.length<=C1 /\
       (if own then (match dst with
         |some t=>(match ys with
          |[]=>K (.ex l) .none
          |_::_=>t<C_/\K (.own t (V.cn t)) (.fresh t (.row ety es false (l++ys))))
         |none=>False)
        else K (.d (.list false (l++ys))) .none)
    |_=>False))
  |_=>False
 |.call f=>Dk E dst V f xs K
 |.callv=>match xs with
  |.fn f cs::args=>Bk E.P f=true/\Dk E dst V f (args++cs) K
  |.d (.fn f cs)::args=>Bk E.P f=true/\Dk E dst V f (args++cs.map .d) K
  |.bnd f cs::args=>Bk E.P f=true/\Dk E dst V f (cs++args) K
  |.d (.bnd f cs)::args=>Bk E.P f=true/\Dk E dst V f (cs.map .d++args) K
  |_=>False
end Go.Pw
end
section
namespace Go.Pw
open Go.RowKit
theorem Az.oneCell {w:World}{fb:Nat->Prop}{d:D}{v:Value}(h:Az w fb d v) (h1:d.one=true):v.oneCell'=true:=by
 cases h<;>first|rfl|simp[D.one] at h1
theorem AM.mono {w w':World}{fb fb':Nat->Prop}{β β':Nat->Nat->Value}{cn cn':Nat->Nat}(hw:Ah fb w w')
  (hf:∀b,b<w.heap.size->fb' b->fb b) (hβ:∀o g,g<cn o->β' o g=β o g) (hcn:∀o,cn o<=cn' o)
  {a:AV}{v:Value}(h:AM w fb β cn a v):AM w' fb' β' cn' a v:=by
 induction h with
 |d x v h=>exact .d x v (h.mono hw hf)
 |ex xs a h=>exact .ex xs a (h.mono hw hf)
 |agg cs vs hl h1 h ih=>exact .agg cs vs hl h1 ih
 |ptr o g off b hg h=>exact .ptr o g off b (Nat.lt_of_lt_of_le hg (hcn o)) ((hβ o g hg).trans h)
 |rptr o g es i off b b0 n cap hg h=>exact .rptr o g es i off b b0 n cap (Nat.lt_of_lt_of_le hg (hcn o)) ((hβ o g hg).trans h)
 |dptr cs off b base vs hb hne h1 hc hv =>
  cases cs with
  |nil=>exact absurd rfl hne
  |cons x xs =>
   have hlt:b<w.heap.size:=CK (hc 0 x (by simp))
   exact .dptr _ off b base vs (fun hh=>hb (hf b hlt hh)) hne h1 (fun j c h1=>hw.cell hb (hc j c h1)) (fun j c h1=>(hv j c h1).mono hw hf)
 |own o g hg h1=>rw[←hβ o g hg] at h1 ⊢;exact .own o g (Nat.lt_of_lt_of_le hg (hcn o)) h1
 |map o g hg h1=>rw[←hβ o g hg] at h1 ⊢;exact .map o g (Nat.lt_of_lt_of_le hg (hcn o)) h1
 |fn f cs vs hl h ih=>exact .fn f cs vs hl ih
 |tup cs vs hl h ih=>exact .tup cs vs hl ih
 |undef v=>exact .undef v
 |bnd f cs vs hl h ih=>exact .bnd f cs vs hl ih
 |mref k o g u hg h h1=>exact .mref k o g u (Nat.lt_of_lt_of_le hg (hcn o)) (by rw[hβ o g hg];exact h) h1
 |ablk sl cs off b base vs u hb hne h1 hc hv hu ih =>
  cases cs with
  |nil=>exact absurd rfl hne
  |cons x xs =>
   have hlt:b<w.heap.size:=CK (hc 0 x (by simp))
   exact .ablk sl _ off b base vs u (fun hh=>hb (hf b hlt hh)) hne h1 (fun j c h1=>hw.cell hb (hc j c h1)) ih hu
def ol (β β':Nat->Nat->Value) (o g:Nat):Prop:=β' o g=β o g\/∃l us:List Value,β o g=.tuple l.toArray/\β' o g=.tuple (l++us).toArray
theorem fV {k:MK}{l us:List Value}{u:Value}(h:EH k (.tuple l.toArray)=some u):EH k (.tuple (l++us).toArray)=some u:=by
 have key:∀{i:Nat}{x:Value},l[i]?=some x->(l++us)[i]?=some x:=fun {i x} hx=>by
  rw[List.getElem?_append_left (List.getElem?_eq_some_iff.1 hx).1];exact hx
 cases k with
 |out=>simp only[EH,List.getElem?_toArray] at h ⊢;exact key h
 |row j=>simp only[EH,List.getElem?_toArray] at h ⊢;exact key h
 |xp i =>
  simp only[EH,List.getElem?_toArray] at h ⊢
  cases hx:l[0]? with
  |none=>rw[hx] at h;simp at h
  |some x=>rw[key hx];rw[hx] at h;exact h
 |mp j k =>
  simp only[EH,List.getElem?_toArray] at h ⊢
  cases hx:l[j+1]? with
  |none=>rw[hx] at h;simp at h
  |some x=>rw[key hx];rw[hx] at h;exact h
 |bs off n cap=>simp[EH] at h
 |rs a es=>simp[EH] at h
 |rp n=>simp[EH] at h
theorem AM.monoE {w w':World}{fb fb':Nat->Prop}{β β':Nat->Nat->Value}{cn cn':Nat->Nat}(hw:Ah fb w w')
  (hf:∀b,b<w.heap.size->fb' b->fb b) (hβ:∀o g,g<cn o->ol β β' o g) (hcn:∀o,cn o<=cn' o)
  {a:AV}{v:Value}(h:AM w fb β cn a v):AM w' fb' β' cn' a v:=by
 have one:∀{o g},g<cn o->(β o g).oneCell'=true->β' o g=β o g:=fun {o g} hg h1=>by
  rcases hβ o g hg with h|⟨l,us,h,_⟩
  ·exact h
  ·rw[h] at h1;cases h1
 induction h with
 |d x v h=>exact .d x v (h.mono hw hf)
 |ex xs a h=>exact .ex xs a (h.mono hw hf)
 |agg cs vs hl h1 h ih=>exact .agg cs vs hl h1 ih
 |ptr o g off b hg h=>exact .ptr o g off b (Nat.lt_of_lt_of_le hg (hcn o)) ((one hg (by rw[h];rfl)).trans h)
 |rptr o g es i off b b0 n cap hg h=>exact .rptr o g es i off b b0 n cap (Nat.lt_of_lt_of_le hg (hcn o)) ((one hg (by rw[h];rfl)).trans h)
 |dptr cs off b base vs hb hne h1 hc hv =>
  cases cs with
  |nil=>exact absurd rfl hne
  |cons x xs =>
   have hlt:b<w.heap.size:=CK (hc 0 x (by simp))
   exact .dptr _ off b base vs (fun hh=>hb (hf b hlt hh)) hne h1 (fun j c h1=>hw.cell hb (hc j c h1)) (fun j c h1=>(hv j c h1).mono hw hf)
 |own o g hg h1 =>
  have e:=one hg h1
  rw[←e] at h1 ⊢;exact .own o g (Nat.lt_of_lt_of_le hg (hcn o)) h1
 |map o g hg h1 =>
  have e:=one hg h1
  rw[←e] at h1 ⊢;exact .map o g (Nat.lt_of_lt_of_le hg (hcn o)) h1
 |fn f cs vs hl h ih=>exact .fn f cs vs hl ih
 |tup cs vs hl h ih=>exact .tup cs vs hl ih
 |undef v=>exact .undef v
 |bnd f cs vs hl h ih=>exact .bnd f cs vs hl ih
 |mref k o g u hg h h1 =>
  refine .mref k o g u (Nat.lt_of_lt_of_le hg (hcn o)) ?_ h1
  rcases hβ o g hg with e|⟨l,us,e,e'⟩
  ·rw[e];exact h
  ·rw[e'] ;rw[e] at h;exact fV h
 |ablk sl cs off b base vs u hb hne h1 hc hv hu ih =>
  cases cs with
  |nil=>exact absurd rfl hne
  |cons x xs =>
   have hlt:b<w.heap.size:=CK (hc 0 x (by simp))
   exact .ablk sl _ off b base vs u (fun hh=>hb (hf b hlt hh)) hne h1 (fun j c h1=>hw.cell hb (hc j c h1)) ih hu
structure D_ where
 w0:World
 fb:Nat->Prop
 mine:Nat->Prop
 b0:Nat->Value
 may:Nat->Prop:=fun _=>False
 els:RD:=.ofL []
 yl:Nat:=0
 hn:Nat:=0
 sb:Nat->Prop:=fun _=>False
 nr:Bool:=false
 J:Nat->Bool->World->(Nat->Prop)->(Nat->Prop)->Prop:=fun _ _ _ _ _=>False
def De (β:Nat->Nat->Value) (V:AL) (b:Nat):Prop:=∃o g x,V.ob o=some (g,x)/\C8 (β o g) b
def D_.bar (c:D_) (β:Nat->Nat->Value) (V:AL) (b:Nat):Prop:=c.fb b\/De β V b
structure Bg where
 sl:Nat->AV
 V:AL
structure XM (c:D_) (w:World):Prop where
 os:w.os=c.w0.os
 tape:w.tape=c.w0.tape
 output:w.output=c.w0.output
 size:c.w0.heap.size<=w.heap.size
 block:∀k,k<c.w0.heap.size->¬c.mine k->w.heap[k]?=c.w0.heap[k]?
structure Br (E:CW) (c:D_) (β:Nat->Nat->Value) (s:Bg) (tm:Array Value) (w:World):Prop where
 keep:XM c w
 low:∀b,c.fb b->b<c.w0.heap.size/\¬c.mine b
 glob:db E w (c.bar β s.V)
 slots:∀t,AM w (c.bar β s.V) β s.V.cn (s.sl t) (tm.getD t undef)
 objs:∀o g x,s.V.ob o=some (g,x)->g<s.V.cn o/\Dn w (c.bar β s.V) β s.V.cn x (β o g)
 sep:∀o o' g g' x x' b,s.V.ob o=some (g,x)->s.V.ob o'=some (g',x')->C8 (β o g) b->C8 (β o' g') b->o=o'
 home:∀o g x b,s.V.ob o=some (g,x)->C8 (β o g) b->b<w.heap.size/\(c.w0.heap.size<=b\/c.mine b)/\¬c.fb b
 pin:∀o g x,C_<=o->s.V.ob o=some (g,x)->β o g=c.b0 o
 hist:∀o g els n st,s.V.ob o=some (g,.hist els n st)->els=c.els/\β o g=.func (.yield c.yl) #[] #[]/\c.J n st c.w0 c.mine c.may/\o=c.hn
theorem Ah.of_below {fb:Nat->Prop}{w w':World}(h:Below w.heap.size w w'):Ah fb w w':=fun b _ hlt=>h.block b hlt
theorem CM.mono {w w':World}{fb fb':Nat->Prop} {ety es nil xs v} (hw:Ah fb w w') (hf:∀b,b<w.heap.size->fb' b->fb b)
  (hv:∀b,C8 v b->b<w.heap.size->w'.heap[b]?=w.heap[b]?) (h:CM w fb ety es nil xs v):CM w' fb' ety es nil xs v:=by
 rcases h with⟨h1,h2,h3⟩|⟨h1,b,off,cap,cur,h2,h3,h4,h5,h6,h7,h8,h10,h9⟩
 ·exact .inl ⟨h1,h2,h3⟩
 ·subst h2
  have hlt:b<w.heap.size:=(Array.getElem?_eq_some_iff.1 h3).1
  refine .inr ⟨h1,b,off,cap,cur,rfl,?_,h4,h5,h6,h7,h8,h10,fun i x j c hi hj=>?_⟩
  ·rw[hv b rfl hlt];exact h3
  ·obtain⟨u,hu,hd⟩:=h9 i x j c hi hj
   exact⟨u,hu,hd.mono hw hf⟩
theorem lQ.mono {w w':World}{fb fb':Nat->Prop}{β β':Nat->Nat->Value}{cn cn':Nat->Nat} {ety xs i q p v} (hw:Ah fb w w') (hf:∀b,b<w.heap.size->fb' b->fb b)
  (hβ:∀o g,g<cn o->β' o g=β o g) (hcn:∀o,cn o<=cn' o)
  (hv:∀b,C8 v b->b<w.heap.size->w'.heap[b]?=w.heap[b]?) (h:lQ w fb β cn ety xs i q p v):lQ w' fb' β' cn' ety xs i q p v:=by
 obtain⟨b,off,cap,cur,h2,h3,h4,h5,h6,h8,h10,⟨k1,k2,k3,k4⟩,h9⟩:=h
 subst h2
 have hlt:b<w.heap.size:=(Array.getElem?_eq_some_iff.1 h3).1
 refine⟨b,off,cap,cur,rfl,?_,h4,h5,h6,h8,h10,⟨k1,?_,Nat.lt_of_lt_of_le k3 (hcn q),?_⟩,fun j x c hj hx hc=>?_⟩
 ·rw[hv b rfl hlt];exact h3
 ·rw[hβ q p k3];exact k2
 ·rw[hβ q p k3];exact k4
 ·obtain⟨u,hu,hd⟩:=h9 j x c hj hx hc
  exact⟨u,hu,hd.mono hw hf⟩
theorem CM.blk {w:World}{fb:Nat->Prop} {ety es nil xs v} (h:CM w fb ety es nil xs v) {b:Nat}(hb:C8 v b):BX v=some b:=by
 rcases h with⟨h1,h2,h3⟩|⟨h1,b,off,cap,cur,h2,h3⟩
 ·subst h3;exact hb
 ·subst h2;exact hb
theorem CM.one {w:World}{fb:Nat->Prop} {ety es nil xs v} (h:CM w fb ety es nil xs v):v.oneCell'=true:=by
 rcases h with⟨h1,h2,h3⟩|⟨h1,b,off,cap,cur,h2,h3⟩
 ·subst h3;rfl
 ·subst h2;rfl
theorem B_ {v0:Value}{vs:List Value}(i:Nat):(v0::vs).toArray[i]?=(v0::vs)[i]?:=by simp
theorem Sk {rows:List (Bool×List D)}:MC rows 0:=fun x h=>by simp at h;subst h;rfl
theorem KB {rows:List (Bool×List D)}{j:Nat}{x:Bool×List D}(hx:rows[j]?=some x) (ha:KC x=true):MC rows (j+1):=fun y h=>by
 rw[List.getElem?_cons_succ,hx] at h;simp at h;subst h;exact ha
theorem MC.of {rows:List (Bool×List D)}{j:Nat}{x:Bool×List D}(h:MC rows (j+1)) (hx:rows[j]?=some x):KC x=true:=h x (by rw[List.getElem?_cons_succ];exact hx)
theorem MC.left {rows l:List (Bool×List D)}{i:Nat}(h:MC (rows++l) i):MC rows i:=fun x hx=>h x (by
 rw[←List.cons_append,List.getElem?_append_left (List.getElem?_eq_some_iff.1 hx).1];exact hx)
theorem Oz {x:Bool×List D}(h:0<x.2.length):KC x=true:=by
 obtain⟨b,l⟩:=x;cases l with
 |nil=>simp at h
 |cons a l=>simp[KC]
theorem MC.unset {rows:List (Bool×List D)}{j i:Nat}{x y:Bool×List D}(h:MC (rows.set j y) i) (hx:rows[j]?=some x) (he:KC y=true->KC x=true):MC rows i:=fun z hz=>by
 cases i with
 |zero=>simp at hz;subst hz;rfl
 |succ i =>
  rw[List.getElem?_cons_succ] at hz
  by_cases hij:i=j
  ·subst hij
   rw[hx] at hz;simp at hz;subst hz
   exact he (h.of (by rw[List.getElem?_set_self (List.getElem?_eq_some_iff.1 hx).1]))
  ·exact h.of (by rw[List.getElem?_set_ne (Ne.symm hij)];exact hz)
theorem VS.mono {w w':World}{fb fb':Nat->Prop} {e1 e2 nil ix rows v} (hw:Ah fb w w') (hf:∀b,b<w.heap.size->fb' b->fb b)
  (hv:∀b,C8 v b->b<w.heap.size->w'.heap[b]?=w.heap[b]?) (h:VS w fb e1 e2 nil ix rows v):VS w' fb' e1 e2 nil ix rows v:=by
 obtain⟨v0,vs,hv',hl,h0,hr,hs⟩:=h
 subst hv'
 refine⟨v0,vs,rfl,hl,?_,fun j x u hx hu=>⟨(hr j x u hx hu).1,fun ha=>((hr j x u hx hu).2 ha).mono hw hf fun b hb hlt=>hv b ⟨j+1,u,by simpa using hu,((hr j x u hx hu).2 ha).blk hb⟩ hlt⟩,hs⟩
 rcases h0 with h0|⟨h0,b,off,cap,cur,h2,h3,h4⟩
 ·exact .inl h0
 ·refine .inr ⟨h0,b,off,cap,cur,h2,?_,h4⟩
  rw[hv b ⟨0,v0,by simp,by rw[h2];rfl⟩ (Array.getElem?_eq_some_iff.1 h3).1];exact h3
theorem Dn.mono {w w':World}{fb fb':Nat->Prop}{β β':Nat->Nat->Value}{cn cn':Nat->Nat}(hw:Ah fb w w')
  (hf:∀b,b<w.heap.size->fb' b->fb b) (hβ:∀o g,g<cn o->β' o g=β o g) (hcn:∀o,cn o<=cn' o)
  {x:AW}{v:Value}(hv:∀b,C8 v b->b<w.heap.size->w'.heap[b]?=w.heap[b]?) (h:Dn w fb β cn x v):Dn w' fb' β' cn' x v:=by
 cases h with
 |cells xs b cur e hb hl h1 h =>
  have hlt:b<w.heap.size:=(Array.getElem?_eq_some_iff.1 hb).1
  exact .cells xs b cur e ((hv b rfl hlt).trans hb) hl h1 fun i x u hx hu=>(h i x u hx hu).mono hw hf hβ hcn
 |row ety es nil xs v h=>exact .row _ _ _ _ _ (h.mono hw hf hv)
 |rowP ety es P nl xs v hp h=>exact .rowP _ _ _ _ _ _ hp (h.mono hw hf hv)
 |rowH ety xs i q p v h=>exact .rowH _ _ _ _ _ _ (h.mono hw hf hβ hcn hv)
 |mat e1 e2 nil ix rows v h=>exact .mat _ _ _ _ _ _ (h.mono hw hf hv)
 |map tys kvs b es hb hl h =>
  have hlt:b<w.heap.size:=(Array.getElem?_eq_some_iff.1 hb).1
  exact .map tys kvs b es ((hv b rfl hlt).trans hb) hl fun i kv e hk he=>by
   obtain⟨h1,h2,h3,h4⟩:=h i kv e hk he
   exact⟨h1,h2.mono hw hf,h3.mono hw hf,h4⟩
 |mapB tys ks cl b es hb hl hr h =>
  have hlt:b<w.heap.size:=(Array.getElem?_eq_some_iff.1 hb).1
  exact .mapB tys ks cl b es ((hv b rfl hlt).trans hb) hl hr fun i k e hk he=>by
   obtain⟨h1,h2,h3,h4⟩:=h i k e hk he
   exact⟨h1,h2.mono hw hf,h3.mono hw hf,h4⟩
 |mitO o g n seen b m hg hm hb =>
  have hlt:b<w.heap.size:=(Array.getElem?_eq_some_iff.1 hb).1
  exact .mitO o g n seen b m (Nat.lt_of_lt_of_le hg (hcn o)) ((hβ o g hg).trans hm) ((hv b rfl hlt).trans hb)
 |mitD tys kvs seen b m es cl sn hm hh hl hr hb hs hsn h =>
  have hlt:b<w.heap.size:=(Array.getElem?_eq_some_iff.1 hb).1
  have hlm:m<w.heap.size:=(Array.getElem?_eq_some_iff.1 hh).1
  exact .mitD tys kvs seen b m es cl sn (fun h=>hm (hf m hlm h)) ((hw m hm hlm).trans hh) hl hr ((hv b rfl hlt).trans hb) hs hsn fun i kv e hk he=>by
   obtain⟨h1,h2⟩:=h i kv e hk he
   exact⟨h1.mono hw hf,h2.mono hw hf⟩
 |hist els n st l=>exact .hist els n st l
theorem Dn.monoE {w w':World}{fb fb':Nat->Prop}{β β':Nat->Nat->Value}{cn cn':Nat->Nat}(hw:Ah fb w w')
  (hf:∀b,b<w.heap.size->fb' b->fb b) (hβ:∀o g,g<cn o->ol β β' o g) (hcn:∀o,cn o<=cn' o)
  {x:AW}{v:Value}(hv:∀b,C8 v b->b<w.heap.size->w'.heap[b]?=w.heap[b]?) (h:Dn w fb β cn x v):Dn w' fb' β' cn' x v:=by
 cases h with
 |cells xs b cur e hb hl h1 h =>
  have hlt:b<w.heap.size:=(Array.getElem?_eq_some_iff.1 hb).1
  exact .cells xs b cur e ((hv b rfl hlt).trans hb) hl h1 fun i x u hx hu=>(h i x u hx hu).monoE hw hf hβ hcn
 |row ety es nil xs v h=>exact .row _ _ _ _ _ (h.mono hw hf hv)
 |rowP ety es P nl xs v hp h=>exact .rowP _ _ _ _ _ _ hp (h.mono hw hf hv)
 |rowH ety xs i q p v h =>
  obtain⟨b,off,cap,cur,h2,h3,h4,h5,h6,h8,h10,⟨k1,k2,k3,k4⟩,h9⟩:=h
  subst h2
  have hlt:b<w.heap.size:=(Array.getElem?_eq_some_iff.1 h3).1
  have e:β' q p=β q p:=by
   rcases hβ q p k3 with h|⟨l,us,h,_⟩
   ·exact h
   ·rw[h] at k4;cases k4
  refine .rowH _ _ _ _ _ _ ⟨b,off,cap,cur,rfl,?_,h4,h5,h6,h8,h10,⟨k1,?_,Nat.lt_of_lt_of_le k3 (hcn q),?_⟩,fun j x c hj hx hc=>?_⟩
  ·rw[hv b rfl hlt];exact h3
  ·rw[e];exact k2
  ·rw[e];exact k4
  ·obtain⟨u,hu,hd⟩:=h9 j x c hj hx hc
   exact⟨u,hu,hd.mono hw hf⟩
 |mat e1 e2 nil ix rows v h=>exact .mat _ _ _ _ _ _ (h.mono hw hf hv)
 |map tys kvs b es hb hl h =>
  have hlt:b<w.heap.size:=(Array.getElem?_eq_some_iff.1 hb).1
  exact .map tys kvs b es ((hv b rfl hlt).trans hb) hl fun i kv e hk he=>by
   obtain⟨h1,h2,h3,h4⟩:=h i kv e hk he
   exact⟨h1,h2.mono hw hf,h3.mono hw hf,h4⟩
 |mapB tys ks cl b es hb hl hr h =>
  have hlt:b<w.heap.size:=(Array.getElem?_eq_some_iff.1 hb).1
  exact .mapB tys ks cl b es ((hv b rfl hlt).trans hb) hl hr fun i k e hk he=>by
   obtain⟨h1,h2,h3,h4⟩:=h i k e hk he
   exact⟨h1,h2.mono hw hf,h3.mono hw hf,h4⟩
 |mitO o g n seen b m hg hm hb =>
  have hlt:b<w.heap.size:=(Array.getElem?_eq_some_iff.1 hb).1
  exact .mitO o g n seen b m (Nat.lt_of_lt_of_le hg (hcn o)) (by rcases hβ o g hg with e|⟨l,us,e,_⟩<;>first|exact e.trans hm|(rw[e] at hm;cases hm)) ((hv b rfl hlt).trans hb)
 |mitD tys kvs seen b m es cl sn hm hh hl hr hb hs hsn h =>
  have hlt:b<w.heap.size:=(Array.getElem?_eq_some_iff.1 hb).1
  have hlm:m<w.heap.size:=(Array.getElem?_eq_some_iff.1 hh).1
  exact .mitD tys kvs seen b m es cl sn (fun h=>hm (hf m hlm h)) ((hw m hm hlm).trans hh) hl hr ((hv b rfl hlt).trans hb) hs hsn fun i kv e hk he=>by
   obtain⟨h1,h2⟩:=h i kv e hk he
   exact⟨h1.mono hw hf,h2.mono hw hf⟩
 |hist els n st l=>exact .hist els n st l
theorem XM.grow {c:D_}{w w':World}(h:XM c w) (hg:Below w.heap.size w w'):XM c w' :=
 ⟨hg.os.trans h.os,hg.tape.trans h.tape,hg.output.trans h.output,Nat.le_trans h.size hg.size,
  fun k hk hm=>(hg.block k (Nat.lt_of_lt_of_le hk h.size)).trans (h.block k hk hm)⟩
theorem db.mono {E:CW}{w w':World}{fb:Nat->Prop}(h:db E w fb) (hw:Ah fb w w'):db E w' fb :=
 fun g cs hg=>(h g cs hg).mono hw (fun _ _ h=>h)
theorem Br.grow {E:CW}{c:D_}{β:Nat->Nat->Value}{s:Bg}{tm:Array Value}{w w':World}(h:Br E c β s tm w) (hg:Below w.heap.size w w'):Br E c β s tm w':=by
 refine⟨h.keep.grow hg,h.low,h.glob.mono (.of_below hg),fun t=>?_,fun o g x hx=>?_,h.sep,fun o g x b hx hb=>?_,h.pin,h.hist⟩
 ·exact(h.slots t).mono (.of_below hg) (fun _ _ h=>h) (fun _ _ _=>rfl) (fun _=>Nat.le_refl _)
 ·obtain⟨h1,h2⟩:=h.objs o g x hx
  exact⟨h1,h2.mono (.of_below hg) (fun _ _ h=>h) (fun _ _ _=>rfl) (fun _=>Nat.le_refl _) fun b _ hlt=>hg.block b hlt⟩
 ·obtain⟨h1,h2⟩:=h.home o g x b hx hb
  exact⟨Nat.lt_of_lt_of_le h1 hg.size,h2⟩
theorem f8 {tm:Array Value}{t:Nat}{u d:Value}(ht:t<tm.size) (i:Nat):(tm.setIfInBounds t u).getD i d=if i=t then u else tm.getD i d:=by
 by_cases h:i=t
 ·subst h;simp[Array.getD_eq_getD_getElem?,ht]
 ·simp[Array.getD_eq_getD_getElem?,Array.getElem?_setIfInBounds_ne (Ne.symm h),h]
theorem Br.set {E:CW}{c:D_}{β:Nat->Nat->Value}{s:Bg}{tm:Array Value}{w:World}(h:Br E c β s tm w) {t:Nat}{v:AV}{u:Value}
  (ht:t<tm.size) (hv:AM w (c.bar β s.V) β s.V.cn v u):Br E c β { s with sl:=CO s.sl t v } (tm.setIfInBounds t u) w:=by
 refine⟨h.keep,h.low,h.glob,fun i=>?_,h.objs,h.sep,h.home,h.pin,h.hist⟩
 rw[f8 ht]
 simp only[CO]
 split
 ·exact hv
 ·exact h.slots i
def ER (β:Nat->Nat->Value) (o g:Nat) (v:Value):Nat->Nat->Value:=fun o' g'=>if o'=o/\g'=g then v else β o' g'
theorem Bj (β:Nat->Nat->Value) (o g:Nat) (v:Value):ER β o g v o g=v:=by simp[ER]
theorem Eo {β:Nat->Nat->Value}{cn:Nat->Nat}{o:Nat}{v:Value}(o' g':Nat) (h:g' < cn o'):ER β o (cn o) v o' g'=β o' g':=by
 simp only[ER]
 split
 ·rename_i hh;obtain⟨rfl,rfl⟩:=hh;omega
 ·rfl
structure FR (v:Value) (w w':World):Prop where
 os:w'.os=w.os
 tape:w'.tape=w.tape
 output:w'.output=w.output
 size:w.heap.size<=w'.heap.size
 block:∀k,k<w.heap.size->¬C8 v k->w'.heap[k]?=w.heap[k]?
theorem FR.of_below {w w':World}(v:Value) (h:Below w.heap.size w w'):FR v w w':=⟨h.os,h.tape,h.output,h.size,fun k hk _=>h.block k hk⟩
theorem Br.fresh {E:CW}{c:D_}{β:Nat->Nat->Value}{s:Bg}{tm:Array Value}{w w':World}(h:Br E c β s tm w) {o:Nat}{x:AW}{vo:Value}(hlim:o<C_)
  (hw:FR vo w w') (hb:∀b,C8 vo b->b<w'.heap.size/\(w.heap.size<=b\/∃g x,s.V.ob o=some (g,x)/\C8 (β o g) b))
  (ho:∀β' fb',β'=ER β o (s.V.cn o) vo->fb'=(c.bar β' (s.V.app (.fresh o x)))->(∀b,b<w.heap.size->fb' b->c.bar β s.V b) ->
   Dn w' fb' β' (s.V.app (.fresh o x)).cn x vo) (hnh:x.isHist=false:=by rfl) :
  Br E c (ER β o (s.V.cn o) vo) { s with V:=s.V.app (.fresh o x) } tm w':=by
 have hob:(s.V.app (.fresh o x)).ob=CO s.V.ob o (some (s.V.cn o,x)):=rfl
 have hcn:(s.V.app (.fresh o x)).cn=CO s.V.cn o (s.V.cn o+1):=rfl
 have hle:∀k,s.V.cn k<=(s.V.app (.fresh o x)).cn k:=fun k=>by rw[hcn];simp only[CO];split<;>simp_all
 have hβ:∀k g,g<s.V.cn k->ER β o (s.V.cn o) vo k g=β k g:=fun k g hk=>Eo k g hk
 have hbar:∀b,b<w.heap.size->c.bar (ER β o (s.V.cn o) vo) (s.V.app (.fresh o x)) b->c.bar β s.V b:=by
  intro b hlt hh
  rcases hh with hh|⟨o',g',x',h1,h2⟩
  ·exact .inl hh
  ·rw[hob] at h1
   simp only[CO] at h1
   split at h1
   ·rename_i heq
    simp only[Option.some.injEq,Prod.mk.injEq] at h1
    obtain⟨rfl,rfl⟩:=h1
    subst heq
    rw[Bj] at h2
    rcases (hb b h2).2 with h3|⟨g,x,h3,h4⟩
    ·omega
    ·exact .inr ⟨_,g,x,h3,h4⟩
   ·have:=(h.objs o' g' x' h1).1
    rw[Eo o' g' this] at h2
    exact .inr ⟨o',g',x',h1,h2⟩
 have hst:Ah (c.bar β s.V) w w':=by
  intro b hn hlt
  refine hw.block b hlt fun he=>?_
  rcases (hb b he).2 with h3|⟨g,x,h3,h4⟩
  ·omega
  ·exact hn (.inr ⟨o,g,x,h3,h4⟩)
 refine⟨⟨hw.os.trans h.keep.os,hw.tape.trans h.keep.tape,hw.output.trans h.keep.output,Nat.le_trans h.keep.size hw.size,fun k hk hm=>?_⟩,h.low,?_,fun t=>?_,fun o' g' x' hx=>?_,?_,?_,?_,fun o1 g1 els n st h1=>?_⟩
 ·rw[←h.keep.block k hk hm]
  refine hw.block k (Nat.lt_of_lt_of_le hk h.keep.size) fun he=>?_
  rcases (hb k he).2 with h3|⟨g,x,h3,h4⟩
  ·have:=h.keep.size;omega
  ·rcases (h.home o g x k h3 h4).2.1 with h5|h5
   ·omega
   ·exact hm h5
 ·intro g cs hg
  exact(h.glob g cs hg).mono hst hbar
 ·exact(h.slots t).mono hst hbar hβ hle
 ·rw[hob] at hx
  simp only[CO] at hx
  split at hx
  ·rename_i heq
   simp only[Option.some.injEq,Prod.mk.injEq] at hx
   obtain⟨rfl,rfl⟩:=hx
   subst heq
   rw[Bj]
   exact⟨by rw[hcn];simp[CO],ho _ _ rfl rfl hbar⟩
  ·rename_i hne
   obtain⟨h1,h2⟩:=h.objs o' g' x' hx
   rw[Eo o' g' h1]
   refine⟨Nat.lt_of_lt_of_le h1 (hle _),h2.mono hst hbar hβ hle fun b hbb hlt=>hw.block b hlt fun he=>?_⟩
   rcases (hb b he).2 with h3|⟨g,x,h3,h4⟩
   ·omega
   ·exact hne (h.sep o' o g' g x' x b hx h3 hbb h4)
 ·intro o1 o2 g1 g2 x1 x2 b h1 h2 h3 h4
  rw[hob] at h1 h2
  simp only[CO] at h1 h2
  split at h1<;>split at h2
  ·simp_all
  ·rename_i e1 e2
   simp only[Option.some.injEq,Prod.mk.injEq] at h1
   obtain⟨rfl,rfl⟩:=h1
   subst e1
   rw[Bj] at h3
   have h5:=(h.objs _ _ _ h2).1
   rw[Eo _ _ h5] at h4
   rcases (hb b h3).2 with h6|⟨g,x,h6,h7⟩
   ·have:=(h.home _ _ _ b h2 h4).1;omega
   ·exact(h.sep _ _ _ _ _ _ b h6 h2 h7 h4)
  ·rename_i e1 e2
   simp only[Option.some.injEq,Prod.mk.injEq] at h2
   obtain⟨rfl,rfl⟩:=h2
   subst e2
   rw[Bj] at h4
   have h5:=(h.objs _ _ _ h1).1
   rw[Eo _ _ h5] at h3
   rcases (hb b h4).2 with h6|⟨g,x,h6,h7⟩
   ·have:=(h.home _ _ _ b h1 h3).1;omega
   ·exact(h.sep _ _ _ _ _ _ b h1 h6 h3 h7)
  ·have h5:=(h.objs _ _ _ h1).1
   have h6:=(h.objs _ _ _ h2).1
   rw[Eo _ _ h5] at h3
   rw[Eo _ _ h6] at h4
   exact h.sep _ _ _ _ _ _ b h1 h2 h3 h4
 ·intro o1 g1 x1 b h1 h2
  rw[hob] at h1
  simp only[CO] at h1
  split at h1
  ·rename_i e1
   simp only[Option.some.injEq,Prod.mk.injEq] at h1
   obtain⟨rfl,rfl⟩:=h1
   subst e1
   rw[Bj] at h2
   obtain⟨h3,h4⟩:=hb b h2
   refine⟨h3,?_⟩
   rcases h4 with h4|⟨g,x,h4,h5⟩
   ·refine⟨.inl (Nat.le_trans h.keep.size h4),fun hf=>?_⟩
    have:=(h.low b hf).1
    have:=h.keep.size
    omega
   ·exact(h.home _ g x b h4 h5).2
  ·have h3:=(h.objs _ _ _ h1).1
   rw[Eo _ _ h3] at h2
   obtain⟨h4,h5⟩:=h.home _ _ _ b h1 h2
   exact⟨Nat.lt_of_lt_of_le h4 hw.size,h5⟩
 ·intro o1 g1 x1 ho1 h1
  rw[hob] at h1
  simp only[CO] at h1
  split at h1
  ·rename_i e1;subst e1;omega
  ·rw[Eo _ _ (h.objs _ _ _ h1).1];exact h.pin _ _ _ ho1 h1
 ·rw[hob] at h1
  simp only[CO] at h1
  split at h1
  ·simp only[Option.some.injEq,Prod.mk.injEq] at h1
   rw[h1.2] at hnh;cases hnh
  ·rw[Eo _ _ (h.objs _ _ _ h1).1];exact h.hist _ _ _ _ _ h1
theorem Br.fresh2 {E:CW}{c:D_}{β:Nat->Nat->Value}{s:Bg}{tm:Array Value}{w w':World}(h:Br E c β s tm w) {o:Nat}(q:Nat) {x:AW}{vo:Value}(hlim:o<C_)
  (hw:FR vo w w') (hb:∀b,C8 vo b->b<w'.heap.size/\(w.heap.size<=b\/∃o1 g x,(o1=o\/o1=q)/\s.V.ob o1=some (g,x)/\C8 (β o1 g) b))
  (ho:∀β' fb',β'=ER β o (s.V.cn o) vo->fb'=(c.bar β' ((AL.mk (CO s.V.ob q none) s.V.cn).app (.fresh o x)))->(∀b,b<w.heap.size->fb' b->c.bar β s.V b) ->
   Dn w' fb' β' ((AL.mk (CO s.V.ob q none) s.V.cn).app (.fresh o x)).cn x vo) (hnh:x.isHist=false:=by rfl) :
  Br E c (ER β o (s.V.cn o) vo) { s with V:=(AL.mk (CO s.V.ob q none) s.V.cn).app (.fresh o x) } tm w':=by
 obtain⟨V',hV'⟩:∃V',V'=(AL.mk (CO s.V.ob q none) s.V.cn).app (.fresh o x):=⟨_,rfl⟩
 rw[←hV'] at ho ⊢
 have hcn:V'.cn=CO s.V.cn o (s.V.cn o+1):=by rw[hV'];rfl
 have hnew:∀y,V'.ob o=some y->y=(s.V.cn o,x):=fun y hy=>by
  rw[hV'] at hy;simp[AL.app,CO] at hy;exact hy.symm
 have hold:∀o' y,o'≠o->V'.ob o'=some y->s.V.ob o'=some y/\o'≠q:=fun o' y hne hy=>by
  rw[hV'] at hy
  simp only[AL.app,CO,hne,if_false] at hy
  split at hy
  ·cases hy
  ·rename_i hq;exact⟨hy,hq⟩
 have hle:∀k,s.V.cn k<=V'.cn k:=fun k=>by rw[hcn];simp only[CO];split<;>simp_all
 have hβ:∀k g,g<s.V.cn k->ER β o (s.V.cn o) vo k g=β k g:=fun k g hk=>Eo k g hk
 have hown:∀b,C8 vo b->b<w.heap.size->De β s.V b:=fun b hbb hlt=>by
  rcases (hb b hbb).2 with h3|⟨o1,g,x,_,h3,h4⟩
  ·omega
  ·exact⟨o1,g,x,h3,h4⟩
 have hbar:∀b,b<w.heap.size->c.bar (ER β o (s.V.cn o) vo) V' b->c.bar β s.V b:=by
  intro b hlt hh
  rcases hh with hh|⟨o',g',x',h1,h2⟩
  ·exact .inl hh
  ·by_cases he:o'=o
   ·subst he
    have:=hnew _ h1
    simp only[Prod.mk.injEq] at this
    obtain⟨rfl,rfl⟩:=this
    rw[Bj] at h2
    exact .inr (hown b h2 hlt)
   ·obtain⟨h3,_⟩:=hold _ _ he h1
    rw[hβ o' g' (h.objs o' g' x' h3).1] at h2
    exact .inr ⟨o',g',x',h3,h2⟩
 have hst:Ah (c.bar β s.V) w w':=fun b hn hlt=>hw.block b hlt fun he=>hn (.inr (hown b he hlt))
 refine⟨⟨hw.os.trans h.keep.os,hw.tape.trans h.keep.tape,hw.output.trans h.keep.output,Nat.le_trans h.keep.size hw.size,fun k hk hm=>?_⟩,h.low,fun g cs hg=>(h.glob g cs hg).mono hst hbar,fun t=>(h.slots t).mono hst hbar hβ hle,fun o' g' x' hx=>?_,?_,?_,?_,fun o1 g1 els n st h1=>?_⟩
 ·rw[←h.keep.block k hk hm]
  refine hw.block k (Nat.lt_of_lt_of_le hk h.keep.size) fun he=>?_
  obtain⟨o1,g,x,h3,h4⟩:=hown k he (Nat.lt_of_lt_of_le hk h.keep.size)
  rcases (h.home o1 g x k h3 h4).2.1 with h5|h5
  ·omega
  ·exact hm h5
 ·show g' < V'.cn o'/\Dn w' (c.bar _ V') _ V'.cn x' _
  by_cases he:o'=o
  ·subst he
   have:=hnew _ hx
   simp only[Prod.mk.injEq] at this
   obtain⟨rfl,rfl⟩:=this
   rw[Bj]
   exact⟨by rw[hcn];simp[CO],ho _ _ rfl rfl hbar⟩
  ·obtain⟨h3,hq⟩:=hold _ _ he hx
   obtain⟨h1,h2⟩:=h.objs o' g' x' h3
   rw[hβ o' g' h1]
   refine⟨Nat.lt_of_lt_of_le h1 (hle _),h2.mono hst hbar hβ hle fun b hbb hlt=>hw.block b hlt fun hv=>?_⟩
   rcases (hb b hv).2 with h4|⟨o1,g,x,h6,h4,h5⟩
   ·omega
   ·have:=h.sep o' o1 g' g x' x b h3 h4 hbb h5
    rcases h6 with h6|h6
    ·exact he (this.trans h6)
    ·exact hq (this.trans h6)
 ·intro o1 o2 g1 g2 x1 x2 b h1 h2 h3 h4
  have one:∀{o2 g2 x2},o2≠o->V'.ob o2=some (g2,x2)->C8 vo b->C8 (ER β o (s.V.cn o) vo o2 g2) b->False:=fun {o2 g2 x2} hne k1 k2 k3=>by
   obtain⟨k4,hq⟩:=hold _ _ hne k1
   rw[hβ _ _ (h.objs _ _ _ k4).1] at k3
   rcases (hb b k2).2 with h6|⟨o3,g,x,h8,h6,h7⟩
   ·have:=(h.home _ _ _ b k4 k3).1;omega
   ·have:=h.sep _ _ _ _ _ _ b k4 h6 k3 h7
    rcases h8 with h8|h8
    ·exact hne (this.trans h8)
    ·exact hq (this.trans h8)
  by_cases e1:o1=o<;>by_cases e2:o2=o
  ·rw[e1,e2]
  ·have:=hnew _ (by rw[←e1];exact h1)
   simp only[Prod.mk.injEq] at this
   rw[e1,this.1,Bj] at h3
   exact(one e2 h2 h3 h4).elim
  ·have:=hnew _ (by rw[←e2];exact h2)
   simp only[Prod.mk.injEq] at this
   rw[e2,this.1,Bj] at h4
   exact(one e1 h1 h4 h3).elim
  ·obtain⟨k1,_⟩:=hold _ _ e1 h1
   obtain⟨k2,_⟩:=hold _ _ e2 h2
   rw[hβ _ _ (h.objs _ _ _ k1).1] at h3
   rw[hβ _ _ (h.objs _ _ _ k2).1] at h4
   exact h.sep _ _ _ _ _ _ b k1 k2 h3 h4
 ·intro o1 g1 x1 b h1 h2
  by_cases e1:o1=o
  ·have:=hnew _ (by rw[←e1];exact h1)
   simp only[Prod.mk.injEq] at this
   rw[e1,this.1,Bj] at h2
   obtain⟨h3,h4⟩:=hb b h2
   refine⟨h3,?_⟩
   rcases h4 with h4|⟨o1,g,x,_,h4,h5⟩
   ·refine⟨.inl (Nat.le_trans h.keep.size h4),fun hf=>?_⟩
    have:=(h.low b hf).1
    have:=h.keep.size
    omega
   ·exact(h.home _ g x b h4 h5).2
  ·obtain⟨k1,_⟩:=hold _ _ e1 h1
   rw[hβ _ _ (h.objs _ _ _ k1).1] at h2
   obtain⟨h4,h5⟩:=h.home _ _ _ b k1 h2
   exact⟨Nat.lt_of_lt_of_le h4 hw.size,h5⟩
 ·intro o1 g1 x1 ho1 h1
  have e1:o1≠o:=by omega
  obtain⟨k1,_⟩:=hold _ _ e1 h1
  rw[hβ _ _ (h.objs _ _ _ k1).1];exact h.pin _ _ _ ho1 k1
 ·by_cases e1:o1=o
  ·have:=hnew _ (by rw[←e1];exact h1)
   simp only[Prod.mk.injEq] at this
   rw[←this.2] at hnh;cases hnh
  ·obtain⟨k1,_⟩:=hold _ _ e1 h1
   rw[hβ _ _ (h.objs _ _ _ k1).1];exact h.hist _ _ _ _ _ k1
theorem Br.kept {E:CW}{c:D_}{β:Nat->Nat->Value}{s:Bg}{tm:Array Value}{w w':World}(h:Br E c β s tm w) {o g:Nat}{x x0:AW}
  (hx0:s.V.ob o=some (g,x0)) (hw:FR (β o g) w w')
  (ho:∀fb',(∀b,b<w.heap.size->fb' b->c.bar β s.V b)->fb'=c.bar β (s.V.app (.keep o g x))->Dn w' fb' β s.V.cn x (β o g)) (hnh:x.isHist=false:=by rfl) :
  Br E c β { s with V:=s.V.app (.keep o g x) } tm w':=by
 have hob:(s.V.app (.keep o g x)).ob=CO s.V.ob o (some (g,x)):=rfl
 have hcn:(s.V.app (.keep o g x)).cn=s.V.cn:=rfl
 have hback:∀o1 g1 x1,(s.V.app (.keep o g x)).ob o1=some (g1,x1)->∃x2,s.V.ob o1=some (g1,x2):=by
  intro o1 g1 x1 h1
  rw[hob] at h1
  simp only[CO] at h1
  split at h1
  ·rename_i e1;subst e1
   simp only[Option.some.injEq,Prod.mk.injEq] at h1
   obtain⟨rfl,rfl⟩:=h1
   exact⟨x0,hx0⟩
  ·exact⟨x1,h1⟩
 have hbar:∀b,c.bar β (s.V.app (.keep o g x)) b->c.bar β s.V b:=by
  intro b hh
  rcases hh with hh|⟨o',g',x',h1,h2⟩
  ·exact .inl hh
  ·obtain⟨x2,h3⟩:=hback _ _ _ h1
   exact .inr ⟨o',g',x2,h3,h2⟩
 have hst:Ah (c.bar β s.V) w w':=fun b hn hlt=>hw.block b hlt fun he=>hn (.inr ⟨o,g,x0,hx0,he⟩)
 refine⟨⟨hw.os.trans h.keep.os,hw.tape.trans h.keep.tape,hw.output.trans h.keep.output,Nat.le_trans h.keep.size hw.size,fun k hk hm=>?_⟩,h.low,fun g cs hg=>(h.glob g cs hg).mono hst fun b _=>hbar b,fun t=>?_,fun o' g' x' hx=>?_,?_,?_,?_,fun o1 g1 els n st h1=>?_⟩
 ·rw[←h.keep.block k hk hm]
  refine hw.block k (Nat.lt_of_lt_of_le hk h.keep.size) fun he=>?_
  rcases (h.home o g x0 k hx0 he).2.1 with h5|h5
  ·omega
  ·exact hm h5
 ·exact(h.slots t).mono hst (fun b _=>hbar b) (fun _ _ _=>rfl) (fun _=>Nat.le_refl _)
 ·rw[hob] at hx
  simp only[CO] at hx
  split at hx
  ·rename_i e1;subst e1
   simp only[Option.some.injEq,Prod.mk.injEq] at hx
   obtain⟨rfl,rfl⟩:=hx
   exact⟨(h.objs _ _ _ hx0).1,ho _ (fun b _=>hbar b) rfl⟩
  ·rename_i hne
   obtain⟨h1,h2⟩:=h.objs o' g' x' hx
   exact⟨h1,h2.mono hst (fun b _=>hbar b) (fun _ _ _=>rfl) (fun _=>Nat.le_refl _) fun b hbb hlt=>hw.block b hlt fun he=>hne (h.sep o' o g' g x' x0 b hx hx0 hbb he)⟩
 ·intro o1 o2 g1 g2 x1 x2 b h1 h2 h3 h4
  obtain⟨y1,k1⟩:=hback _ _ _ h1
  obtain⟨y2,k2⟩:=hback _ _ _ h2
  exact h.sep _ _ _ _ _ _ b k1 k2 h3 h4
 ·intro o1 g1 x1 b h1 h2
  obtain⟨y1,k1⟩:=hback _ _ _ h1
  obtain⟨h4,h5⟩:=h.home _ _ _ b k1 h2
  exact⟨Nat.lt_of_lt_of_le h4 hw.size,h5⟩
 ·intro o1 g1 x1 ho1 h1
  obtain⟨y1,k1⟩:=hback _ _ _ h1
  exact h.pin _ _ _ ho1 k1
 ·rw[hob] at h1
  simp only[CO] at h1
  split at h1
  ·simp only[Option.some.injEq,Prod.mk.injEq] at h1
   rw[h1.2] at hnh;cases hnh
  ·exact h.hist _ _ _ _ _ h1
theorem Br.absorb {E:CW}{c:D_}{β:Nat->Nat->Value}{s:Bg}{tm:Array Value}{w w':World}(h:Br E c β s tm w) {o g q p:Nat}{x x0 y:AW}{l us:List Value}
  (hx0:s.V.ob o=some (g,x0)) (hq0:s.V.ob q=some (p,y)) (hoq:o≠q) (hol:o<C_) (hv:β o g=.tuple l.toArray) (hw:FR (.tuple l.toArray) w w')
  (hb:∀b u,u∈us->BX u=some b->C8 (β q p) b)
  (ho:∀β' fb',(∀b,b<w.heap.size->fb' b->c.bar β s.V b)->Dn w' fb' β' s.V.cn x (.tuple (l++us).toArray)) (hnh:x.isHist=false:=by rfl) :
  Br E c (ER β o g (.tuple (l++us).toArray)) { s with V:=(AL.mk (CO s.V.ob q none) s.V.cn).app (.keep o g x) } tm w':=by
 obtain⟨V',hV'⟩:∃V',V'=(AL.mk (CO s.V.ob q none) s.V.cn).app (.keep o g x):=⟨_,rfl⟩
 obtain⟨T,hT⟩:∃T,T=Value.tuple (l++us).toArray:=⟨_,rfl⟩
 rw[←hT] at ho
 rw[←hV',←hT]
 have hcn:V'.cn=s.V.cn:=by rw[hV'];rfl
 have hnew:∀z,V'.ob o=some z->z=(g,x):=fun z hz=>by
  rw[hV'] at hz;simp[AL.app,CO] at hz;exact hz.symm
 have hold:∀o' z,o'≠o->V'.ob o'=some z->s.V.ob o'=some z/\o'≠q:=fun o' z hne hz=>by
  rw[hV'] at hz
  simp only[AL.app,CO,hne,if_false] at hz
  split at hz
  ·cases hz
  ·rename_i hq;exact⟨hz,hq⟩
 have hβ:∀k m,m<s.V.cn k->ol β (ER β o g T) k m:=fun k m _=>by
  unfold ol
  simp only[ER]
  split
  ·rename_i hh;obtain⟨rfl,rfl⟩:=hh
   exact .inr ⟨l,us,hv,hT⟩
  ·exact .inl rfl
 have hβo:∀k m,k≠o->ER β o g T k m=β k m:=fun k m hk=>by simp[ER,hk]
 have hbl:∀b,C8 T b->C8 (β o g) b\/C8 (β q p) b:=fun b hbb=>by
  rw[hT] at hbb
  obtain⟨i,u,hi,hu⟩:=hbb
  rw[List.getElem?_toArray] at hi
  by_cases hil:i<l.length
  ·rw[List.getElem?_append_left hil] at hi
   exact .inl (by rw[hv];exact⟨i,u,by rw[List.getElem?_toArray];exact hi,hu⟩)
  ·rw[List.getElem?_append_right (by omega)] at hi
   exact .inr (hb b u (List.mem_of_getElem? hi) hu)
 have hbar:∀b,c.bar (ER β o g T) V' b->c.bar β s.V b:=by
  intro b hh
  rcases hh with hh|⟨o',g',x',h1,h2⟩
  ·exact .inl hh
  ·by_cases he:o'=o
   ·subst he
    have:=hnew _ h1
    simp only[Prod.mk.injEq] at this
    obtain⟨rfl,rfl⟩:=this
    rw[Bj] at h2
    rcases hbl b h2 with h3|h3
    ·exact .inr ⟨_,_,_,hx0,h3⟩
    ·exact .inr ⟨_,_,_,hq0,h3⟩
   ·rw[hβo _ _ he] at h2
    exact .inr ⟨o',g',x',(hold _ _ he h1).1,h2⟩
 have hst:Ah (c.bar β s.V) w w':=fun b hn hlt=>hw.block b hlt fun he=>hn (.inr ⟨o,g,x0,hx0,by rw[hv];exact he⟩)
 have hown:∀b,C8 T b->∃o1 g1 x1,(o1=o\/o1=q)/\s.V.ob o1=some (g1,x1)/\C8 (β o1 g1) b:=fun b hbb =>
  (hbl b hbb).elim (fun h3=>⟨_,_,_,.inl rfl,hx0,h3⟩) fun h3=>⟨_,_,_,.inr rfl,hq0,h3⟩
 refine⟨⟨hw.os.trans h.keep.os,hw.tape.trans h.keep.tape,hw.output.trans h.keep.output,Nat.le_trans h.keep.size hw.size,fun k hk hm=>?_⟩,h.low,fun g cs hg=>(h.glob g cs hg).mono hst fun b _=>hbar b,fun t=>?_,fun o' g' x' hx=>?_,?_,?_,?_,fun o1 g1 els n st h1=>?_⟩
 ·rw[←h.keep.block k hk hm]
  refine hw.block k (Nat.lt_of_lt_of_le hk h.keep.size) fun he=>?_
  rcases (h.home o g x0 k hx0 (by rw[hv];exact he)).2.1 with h5|h5
  ·omega
  ·exact hm h5
 ·show AM w' (c.bar _ V') _ V'.cn _ _
  rw[hcn]
  exact(h.slots t).monoE hst (fun b _=>hbar b) hβ (fun _=>Nat.le_refl _)
 ·show g' < V'.cn o'/\Dn w' (c.bar _ V') _ V'.cn x' _
  rw[hcn]
  by_cases he:o'=o
  ·subst he
   have:=hnew _ hx
   simp only[Prod.mk.injEq] at this
   obtain⟨rfl,rfl⟩:=this
   rw[Bj]
   exact⟨(h.objs _ _ _ hx0).1,ho _ _ fun b _=>hbar b⟩
  ·obtain⟨h3,hq⟩:=hold _ _ he hx
   obtain⟨h1,h2⟩:=h.objs o' g' x' h3
   rw[hβo _ _ he]
   exact⟨h1,h2.monoE hst (fun b _=>hbar b) hβ (fun _=>Nat.le_refl _) fun b hbb hlt=>hw.block b hlt fun hv2=>he (h.sep o' o g' g x' x0 b h3 hx0 hbb (by rw[hv];exact hv2))⟩
 ·intro o1 o2 g1 g2 x1 x2 b h1 h2 h3 h4
  have one:∀{o2 g2 x2},o2≠o->V'.ob o2=some (g2,x2)->C8 T b->C8 (ER β o g T o2 g2) b->False:=fun {o2 g2 x2} hne k1 k2 k3=>by
   obtain⟨k4,hq⟩:=hold _ _ hne k1
   rw[hβo _ _ hne] at k3
   obtain⟨o3,g3,x3,h8,h6,h7⟩:=hown b k2
   have:=h.sep _ _ _ _ _ _ b k4 h6 k3 h7
   rcases h8 with h8|h8
   ·exact hne (this.trans h8)
   ·exact hq (this.trans h8)
  by_cases e1:o1=o<;>by_cases e2:o2=o
  ·rw[e1,e2]
  ·have:=hnew _ (by rw[←e1];exact h1)
   simp only[Prod.mk.injEq] at this
   rw[e1,this.1,Bj] at h3
   exact(one e2 h2 h3 h4).elim
  ·have:=hnew _ (by rw[←e2];exact h2)
   simp only[Prod.mk.injEq] at this
   rw[e2,this.1,Bj] at h4
   exact(one e1 h1 h4 h3).elim
  ·obtain⟨k1,_⟩:=hold _ _ e1 h1
   obtain⟨k2,_⟩:=hold _ _ e2 h2
   rw[hβo _ _ e1] at h3
   rw[hβo _ _ e2] at h4
   exact h.sep _ _ _ _ _ _ b k1 k2 h3 h4
 ·intro o1 g1 x1 b h1 h2
  by_cases e1:o1=o
  ·have:=hnew _ (by rw[←e1];exact h1)
   simp only[Prod.mk.injEq] at this
   rw[e1,this.1,Bj] at h2
   obtain⟨o3,g3,x3,_,h6,h7⟩:=hown b h2
   obtain⟨h4,h5⟩:=h.home _ _ _ b h6 h7
   exact⟨Nat.lt_of_lt_of_le h4 hw.size,h5⟩
  ·obtain⟨k1,_⟩:=hold _ _ e1 h1
   rw[hβo _ _ e1] at h2
   obtain⟨h4,h5⟩:=h.home _ _ _ b k1 h2
   exact⟨Nat.lt_of_lt_of_le h4 hw.size,h5⟩
 ·intro o1 g1 x1 ho1 h1
  have e1:o1≠o:=by omega
  obtain⟨k1,_⟩:=hold _ _ e1 h1
  rw[hβo _ _ e1];exact h.pin _ _ _ ho1 k1
 ·by_cases e1:o1=o
  ·have:=hnew _ (by rw[←e1];exact h1)
   simp only[Prod.mk.injEq] at this
   rw[←this.2] at hnh;cases hnh
  ·obtain⟨k1,_⟩:=hold _ _ e1 h1
   rw[hβo _ _ e1];exact h.hist _ _ _ _ _ k1
theorem Br.extend {E:CW}{c:D_}{β:Nat->Nat->Value}{s:Bg}{tm:Array Value}{w w':World}(h:Br E c β s tm w) {o g:Nat}{x x0:AW}{l us:List Value}
  (hx0:s.V.ob o=some (g,x0)) (hol:o<C_) (hv:β o g=.tuple l.toArray) (hw:FR (.tuple l.toArray) w w')
  (hb:∀b u,u∈us->BX u=some b->(w.heap.size<=b\/C8 (β o g) b)/\b<w'.heap.size)
  (ho:∀β' fb',(∀b,b<w.heap.size->fb' b->c.bar β s.V b)->Dn w' fb' β' s.V.cn x (.tuple (l++us).toArray)) (hnh:x.isHist=false:=by rfl) :
  Br E c (ER β o g (.tuple (l++us).toArray)) { s with V:=s.V.app (.keep o g x) } tm w':=by
 obtain⟨V',hV'⟩:∃V',V'=s.V.app (.keep o g x):=⟨_,rfl⟩
 obtain⟨T,hT⟩:∃T,T=Value.tuple (l++us).toArray:=⟨_,rfl⟩
 rw[←hT] at ho
 rw[←hV',←hT]
 have hcn:V'.cn=s.V.cn:=by rw[hV'];rfl
 have hnew:∀z,V'.ob o=some z->z=(g,x):=fun z hz=>by
  rw[hV'] at hz;simp[AL.app,CO] at hz;exact hz.symm
 have hold:∀o' z,o'≠o->V'.ob o'=some z->s.V.ob o'=some z:=fun o' z hne hz=>by
  rw[hV'] at hz
  simpa only[AL.app,CO,hne,if_false] using hz
 have hβ:∀k m,m<s.V.cn k->ol β (ER β o g T) k m:=fun k m _=>by
  unfold ol
  simp only[ER]
  split
  ·rename_i hh;obtain⟨rfl,rfl⟩:=hh
   exact .inr ⟨l,us,hv,hT⟩
  ·exact .inl rfl
 have hβo:∀k m,k≠o->ER β o g T k m=β k m:=fun k m hk=>by simp[ER,hk]
 have hbl:∀b,C8 T b->(w.heap.size<=b\/C8 (β o g) b)/\b<w'.heap.size:=fun b hbb=>by
  rw[hT] at hbb
  obtain⟨i,u,hi,hu⟩:=hbb
  rw[List.getElem?_toArray] at hi
  by_cases hil:i<l.length
  ·rw[List.getElem?_append_left hil] at hi
   have h9:C8 (β o g) b:=by rw[hv];exact⟨i,u,by rw[List.getElem?_toArray];exact hi,hu⟩
   exact⟨.inr h9,Nat.lt_of_lt_of_le (h.home _ _ _ b hx0 h9).1 hw.size⟩
  ·rw[List.getElem?_append_right (by omega)] at hi
   exact hb b u (List.mem_of_getElem? hi) hu
 have hbar:∀b,b<w.heap.size->c.bar (ER β o g T) V' b->c.bar β s.V b:=by
  intro b hlt hh
  rcases hh with hh|⟨o',g',x',h1,h2⟩
  ·exact .inl hh
  ·by_cases he:o'=o
   ·subst he
    have:=hnew _ h1
    simp only[Prod.mk.injEq] at this
    obtain⟨rfl,rfl⟩:=this
    rw[Bj] at h2
    rcases (hbl b h2).1 with h3|h3
    ·omega
    ·exact .inr ⟨_,_,_,hx0,h3⟩
   ·rw[hβo _ _ he] at h2
    exact .inr ⟨o',g',x',hold _ _ he h1,h2⟩
 have hst:Ah (c.bar β s.V) w w':=fun b hn hlt=>hw.block b hlt fun he=>hn (.inr ⟨o,g,x0,hx0,by rw[hv];exact he⟩)
 refine⟨⟨hw.os.trans h.keep.os,hw.tape.trans h.keep.tape,hw.output.trans h.keep.output,Nat.le_trans h.keep.size hw.size,fun k hk hm=>?_⟩,h.low,fun g cs hg=>(h.glob g cs hg).mono hst hbar,fun t=>?_,fun o' g' x' hx=>?_,?_,?_,?_,fun o1 g1 els n st h1=>?_⟩
 ·rw[←h.keep.block k hk hm]
  refine hw.block k (Nat.lt_of_lt_of_le hk h.keep.size) fun he=>?_
  rcases (h.home o g x0 k hx0 (by rw[hv];exact he)).2.1 with h5|h5
  ·omega
  ·exact hm h5
 ·show AM w' (c.bar _ V') _ V'.cn _ _
  rw[hcn]
  exact(h.slots t).monoE hst (hbar) hβ (fun _=>Nat.le_refl _)
 ·show g' < V'.cn o'/\Dn w' (c.bar _ V') _ V'.cn x' _
  rw[hcn]
  by_cases he:o'=o
  ·subst he
   have:=hnew _ hx
   simp only[Prod.mk.injEq] at this
   obtain⟨rfl,rfl⟩:=this
   rw[Bj]
   exact⟨(h.objs _ _ _ hx0).1,ho _ _ hbar⟩
  ·have h3:=hold _ _ he hx
   obtain⟨h1,h2⟩:=h.objs o' g' x' h3
   rw[hβo _ _ he]
   exact⟨h1,h2.monoE hst (hbar) hβ (fun _=>Nat.le_refl _) fun b hbb hlt=>hw.block b hlt fun hv2=>he (h.sep o' o g' g x' x0 b h3 hx0 hbb (by rw[hv];exact hv2))⟩
 ·intro o1 o2 g1 g2 x1 x2 b h1 h2 h3 h4
  have one:∀{o2 g2 x2},o2≠o->V'.ob o2=some (g2,x2)->C8 T b->C8 (ER β o g T o2 g2) b->False:=fun {o2 g2 x2} hne k1 k2 k3=>by
   have k4:=hold _ _ hne k1
   rw[hβo _ _ hne] at k3
   rcases (hbl b k2).1 with h8|h8
   ·have:=(h.home _ _ _ b k4 k3).1;omega
   ·exact hne (h.sep _ _ _ _ _ _ b k4 hx0 k3 h8)
  by_cases e1:o1=o<;>by_cases e2:o2=o
  ·rw[e1,e2]
  ·have:=hnew _ (by rw[←e1];exact h1)
   simp only[Prod.mk.injEq] at this
   rw[e1,this.1,Bj] at h3
   exact(one e2 h2 h3 h4).elim
  ·have:=hnew _ (by rw[←e2];exact h2)
   simp only[Prod.mk.injEq] at this
   rw[e2,this.1,Bj] at h4
   exact(one e1 h1 h4 h3).elim
  ·have k1:=hold _ _ e1 h1
   have k2:=hold _ _ e2 h2
   rw[hβo _ _ e1] at h3
   rw[hβo _ _ e2] at h4
   exact h.sep _ _ _ _ _ _ b k1 k2 h3 h4
 ·intro o1 g1 x1 b h1 h2
  by_cases e1:o1=o
  ·have:=hnew _ (by rw[←e1];exact h1)
   simp only[Prod.mk.injEq] at this
   rw[e1,this.1,Bj] at h2
   obtain⟨h6,h7⟩:=hbl b h2
   rcases h6 with h6|h6
   ·exact⟨h7,.inl (Nat.le_trans h.keep.size h6),fun hf=>by have:=(h.low b hf).1;have:=h.keep.size;omega⟩
   ·exact⟨h7,(h.home _ _ _ b hx0 h6).2⟩
  ·have k1:=hold _ _ e1 h1
   rw[hβo _ _ e1] at h2
   obtain⟨h4,h5⟩:=h.home _ _ _ b k1 h2
   exact⟨Nat.lt_of_lt_of_le h4 hw.size,h5⟩
 ·intro o1 g1 x1 ho1 h1
  have e1:o1≠o:=by omega
  have k1:=hold _ _ e1 h1
  rw[hβo _ _ e1];exact h.pin _ _ _ ho1 k1
 ·by_cases e1:o1=o
  ·have:=hnew _ (by rw[←e1];exact h1)
   simp only[Prod.mk.injEq] at this
   rw[←this.2] at hnh;cases hnh
  ·have k1:=hold _ _ e1 h1
   rw[hβo _ _ e1];exact h.hist _ _ _ _ _ k1
theorem Br.drop {E:CW}{c:D_}{β:Nat->Nat->Value}{s:Bg}{tm:Array Value}{w:World}(h:Br E c β s tm w) {s':Bg}
  (hsl:s'.sl=s.sl) (hcn:s'.V.cn=s.V.cn) (hob:∀o y,s'.V.ob o=some y->s.V.ob o=some y):Br E c β s' tm w:=by
 have hbar:∀b,c.bar β s'.V b->c.bar β s.V b:=by
  intro b hh
  rcases hh with hh|⟨o',g',x',h1,h2⟩
  ·exact .inl hh
  ·exact .inr ⟨o',g',x',hob _ _ h1,h2⟩
 refine⟨h.keep,h.low,fun g cs hg=>(h.glob g cs hg).mono (Ah.refl _ _) fun b _=>hbar b,fun t=>?_,fun o' g' x' hx=>?_,fun o1 o2 g1 g2 x1 x2 b h1 h2=>h.sep _ _ _ _ _ _ b (hob _ _ h1) (hob _ _ h2),fun o g x b hx=>h.home o g x b (hob _ _ hx),fun o g x ho hx=>h.pin o g x ho (hob _ _ hx),fun o g els n st hx=>h.hist o g els n st (hob _ _ hx)⟩
 ·rw[hsl,hcn];exact(h.slots t).mono (Ah.refl _ _) (fun b _=>hbar b) (fun _ _ _=>rfl) (fun _=>Nat.le_refl _)
 ·obtain⟨h1,h2⟩:=h.objs o' g' x' (hob _ _ hx)
  rw[hcn]
  exact⟨h1,h2.mono (Ah.refl _ _) (fun b _=>hbar b) (fun _ _ _=>rfl) (fun _=>Nat.le_refl _) fun _ _ _=>rfl⟩
theorem AL.get_some {V:AL}{o g:Nat}{x:AW}(h:V.get o g=some x):V.ob o=some (g,x):=by
 unfold AL.get at h
 split at h
 ·rename_i g' x' hh
  split at h
  ·rename_i e;subst e;simp_all
  ·cases h
 ·cases h
theorem AM.own_new {w:World}{fb:Nat->Prop}{β:Nat->Nat->Value}{cn cn':Nat->Nat}{o:Nat}{v:Value}(hv:v.oneCell'=true) (hcn:cn o<cn' o):AM w fb (ER β o (cn o) v) cn' (.own o (cn o)) v:=by
 have:=AM.own (w:=w) (fb:=fb) (β:=ER β o (cn o) v) (cn:=cn') o (cn o) hcn (by rw[Bj];exact hv)
 rwa [Bj] at this
theorem AM.map_new {w:World}{fb:Nat->Prop}{β:Nat->Nat->Value}{cn cn':Nat->Nat}{o:Nat}{v:Value}(hv:v.oneCell'=true) (hcn:cn o<cn' o):AM w fb (ER β o (cn o) v) cn' (.map o (cn o)) v:=by
 have:=AM.map (w:=w) (fb:=fb) (β:=ER β o (cn o) v) (cn:=cn') o (cn o) hcn (by rw[Bj];exact hv)
 rwa [Bj] at this
theorem AM.oneCell {w:World}{fb:Nat->Prop}{β:Nat->Nat->Value}{cn:Nat->Nat}{a:AV}{v:Value}(h:AM w fb β cn a v) (h1:a.one=true):v.oneCell'=true:=by
 cases h with
 |d x v h=>exact h.oneCell h1
 |own o g hg hh=>exact hh
 |map o g hg hh=>exact hh
 |mref k o g u hg hh h2=>exact h2
 |ablk sl cs off b base vs u hb hne h1 hc hv hu=>subst hu;cases sl<;>rfl
 |_=>first|rfl|simp[AV.one] at h1
theorem FQ (V:AL) (o:Nat) (x:AW):V.cn o<(V.app (.fresh o x)).cn o:=by simp[AL.app,CO]
end Go.Pw
end
section
namespace Go.Pw
def r6 (k:IntKind) (n:Int):Bool:=decide (k.min<=n) && decide (n<=k.max)
def Oh:Value->Option D
 |.int k n=>if r6 k n then some (.int k n) else none
 |.bool b=>some (.bool b)
 |.slice none 0 0=>some (.list true [])
 |.pointer none=>some .nilptr
 |.map none=>some .nilmap
 |.nilFunc=>some .nilfn
 |_=>none
def Oi (E:CW):Operand->Option Hd
 |.tmp t=>some (.t t)
 |.const v=>(Oh v).map fun d=>.k (.d d)
 |.global g=>(E.G g).map fun cs=>.k (.d (.ptr cs))
 |.func f=>some (.k (.fn f []))
def Ej (P:Program) (t:TypeId):Option Nat:=(P.info? t).map (·.size)
def F0 (P:Program) (t:TypeId):Option Bool :=
 match P.underlying t with
 |some (.struct _)|some (.array _ _)=>some true
 |some _=>some false
 |none=>none
def Hf (P:Program) (t:TypeId):Option (List D) :=
 match (P.info? t).bind (·.zero) with
 |some v=>BV Oh v.cells.toList
 |none=>none
def Fj (P:Program) (t:TypeId):Option D :=
 match (P.info? t).bind (·.zero) with
 |some (.agg cs)=>(BV Oh cs.toList).map .agg
 |some v=>Oh v
 |none=>none
def Eg (P:Program) (t:TypeId):Option (Option IntKind) :=
 match P.underlying t with
 |some (.int k)=>some (some k)
 |some .bool=>some none
 |_=>none
def Ch (P:Program) (t:TypeId):Option HS :=
 match P.underlying t with
 |some (.int k)=>some (false,[some k])
 |some .bool=>some (false,[none])
 |some (.struct fs)=>if P.stoodInHeld t=false/\P.eqGuardType P.depth t=false/\(fs.toList.zipIdx.all fun(f,i)=>f.name != "_" && f.offset == i)=true then
  (BV (fun f=>Eg P f.type) fs.toList).map fun l=>(true,l) else none
 |some (.array n e)=>if P.eqGuardType P.depth t=false/\Ej P e=some 1 then (Eg P e).map fun k=>(true,List.replicate n k) else none
 |_=>none
def Qa (E:CW) (xs:List Operand):Option (List Hd):=BV (Oi E) xs
def SR (E:CW) (draw:Bool) (b:Builtin) (argTypes:Array TypeId) (args:List Operand):Option (Bw×List Operand) :=
 let P:=E.P
 match b with
 |.len=>match args with
  |[x]=>match (argTypes[0]?).bind P.underlying with
   |some (.slice _)=>some (.len false,[x])
   |some (.map ..)=>some (.len true,[x])
   |_=>none
  |_=>none
 |.copy=>match args with
  |[x,y]=>match (argTypes[0]?).bind P.underlying,(argTypes[1]?).bind P.underlying with
   |some (.slice e),some (.slice _)=>if Ej P e=some 1 then some (.cpy,[x,y]) else none
   |_,_=>none
  |_=>none
 |.delete=>match args with
  |[x,k]=>match (argTypes[0]?).bind P.underlying with
   |some (.map kt _)=>(Ch P kt).map fun tys=>(.delete tys,[x,k])
   |_=>none
  |_=>none
 |.clear=>match args with
  |[x]=>match (argTypes[0]?).bind P.underlying with
   |some (.slice e)=>match F0 P e,Hf P e with
    |some true,some zs=>if 0<zs.length then some (.clr zs,[x]) else none
    |_,_=>none
   |_=>none
  |_=>none
 |.cap=>match args with
  |[x]=>match (argTypes[0]?).bind P.underlying with
   |some (.slice _)=>some (.cap,[x])
   |_=>none
  |_=>none
 |.min=>match args with
  |x::xs=>some (.minmax false,x::xs)
  |_=>none
 |.max=>match args with
  |x::xs=>some (.minmax true,x::xs)
  |_=>none
 |.append=>match args with
  |[x,y]=>match (argTypes[0]?).bind P.underlying,(argTypes[1]?).bind P.underlying with
   |some (.slice e),some ty=>match P.info? e,Fj P e with
    |some i,some z=>if 0<i.size/\i.bytes<=65536/\(i.zero.map (·.cells.size))=some i.size then (match ty with
     |.slice e'=>if e=e' then some (.app e i.size none (!draw),[x,y]) else none
     |.int .i64=>if z.cells.length=i.size then some (.app e i.size (some z) (!draw),[x,y]) else none
     |_=>none) else none
    |_,_=>none
   |_,_=>none
  |_=>none
 |_=>none
def J3 (E:CW) (draw:Bool) (c:Call):Option (Bw×List Operand) :=
 match c.callee with
 |.value (.func f)=>if Bk E.P f then some (.call f,c.args.toList) else none
 |.value x=>some (.callv,x::c.args.toList)
 |.builtin b=>SR E draw b c.argTypes c.args.toList
 |_=>none
def ct:BinOp->Option Bool
 |.eql=>some false
 |.neq=>some true
 |_=>none
def gi (E:CW) (b:BinOp) (t:TypeId) (x y:Operand):Option (Bw×List Operand) :=
 match E.P.underlying t with
 |some (.int _)=>some (.bin b,[x,y])
 |some .bool=>(ct b).map fun n=>(.beq n,[x,y])
 |some (.struct _)=>(ct b).bind fun n=>(Ch E.P t).map fun tys=>(.eqv n tys,[x,y])
 |some (.array _ _)=>(ct b).bind fun n=>(Ch E.P t).map fun tys=>(.eqv n tys,[x,y])
 |some (.slice _)=>(ct b).map fun n=>(.eqnil n,[x,y])
 |_=>none
def Zu (E:CW) (draw:Bool) (used:Bool) (op:Op):Option (Bw×List Operand) :=
 let P:=E.P
 match op with
 |.move x|.assign x=>some (.mov,[x])
 |.pick c a b=>some (.pick,[c,a,b])
 |.box _ x=>some (.box,[x])
 |.alloc e=>(Hf P e).map fun cs=>(.zero cs,[])
 |.build t parts=>match Hf P t,P.underlying t with
  |some z,some (.struct fs) =>
   match fs.toList.mapM (fun f=>(P.info? f.type).map fun i=>(f.offset,i.size)) with
   |some places=>(match BV (fun(p:Nat×Operand)=>places[p.1]?) parts.toList with
    |some pl=>some (.build z pl,parts.toList.map (·.2))
    |none=>none)
   |none=>none
  |some z,some (.array _ e)=>match Ej P e with
   |some s=>some (.build z (parts.toList.map fun p=>(p.1*s,s)),parts.toList.map (·.2))
   |none=>none
  |_,_=>none
 |.buildSlice t len parts=>match P.underlying t with
  |some (.slice e)=>match Fj P e,Ej P e with
   |some z,some s=>if 0<s/\s=z.cells.length/\len*s<=16777216 then
     some (if used && !draw then .mkrowO e s z len (parts.toList.map (·.1)) else .mkrow s z len (parts.toList.map (·.1)),parts.toList.map (·.2)) else none
   |_,_=>none
  |_=>none
 |.load t a=>match F0 P t,Ej P t with
  |some ag,some n=>if 0<n/\(ag\/n=1) then some (.load ag n,[a]) else none
  |_,_=>none
 |.store t a x=>match Ej P t with
  |some n=>if 0<n then some (.store n,[a,x]) else none
  |none=>none
 |.nilCheck x=>some (.nilck,[x])
 |.binOp b t x y _=>gi E b t x y
 |.unOp u _ x=>some (.un u,[x])
 |.convert s t x=>match P.underlying s,P.underlying t with
  |some (.int _),some (.int k)=>some (.conv k,[x])
  |_,_=>none
 |.makeFunc (.func f) first captured=>if first.size=0/\Bk P f then some (.mkfn f,captured.toList) else if captured.size=0/\Bk P f then some (.mkbnd f,first.toList) else none
 |.makeMap t none=>match P.underlying t with
  |some (.map k _)=>(Ch P k).map fun tys=>(.mkmap tys,[])
  |_=>none
 |.makeSlice t l c=>match P.underlying t with
  |some (.slice e)=>match P.info? e,Fj P e with
   |some i,some z=>if 0<i.size/\i.bytes<=131072/\z.cells.length=i.size then some (.mksl e i.size z (!draw),[l,c]) else none
   |_,_=>none
  |_=>none
 |.slice t x lo hi mx=>match P.underlying t with
  |some (.slice e)=>match Ej P e with
   |some s=>if 0<s then some (.slice s lo.isSome hi.isSome mx.isSome,x::(lo.toList++hi.toList++mx.toList)) else none
   |none=>none
  |some (.array n e)=>match lo,mx with
   |none,none=>if Ej P e=some 1/\n<=4096 then some (.slice 1 true true true,[x,hi.getD (.const (.int .i64 n)),.const (.int .i64 n)]) else none
   |_,_=>none
  |_=>none
 |.fieldAddr t x f=>match P.underlying t with
  |some (.struct fs)=>(fs[f]?).bind fun f=>match Ej P f.type with
   |some n=>if 0<n then some (.faddr f.offset,[x]) else none
   |none=>none
  |_=>none
 |.field t x f=>match P.underlying t with
  |some (.struct fs)=>(fs[f]?).bind fun f=>match F0 P f.type,Ej P f.type with
   |some ag,some n=>if 0<n/\(ag\/n=1) then some (.field ag f.offset n,[x]) else none
   |_,_=>none
  |_=>none
 |.indexAddr t x i=>match P.underlying t with
  |some (.slice e)=>match Ej P e with
   |some s=>if 0<s then some (.iaddrS s,[x,i]) else none
   |none=>none
  |some (.array n e)=>match Ej P e with
   |some s=>if 0<s then some (.iaddrA n s,[x,i]) else none
   |none=>none
  |_=>none
 |.index t x i=>match P.underlying t with
  |some (.array n e)=>match F0 P e,Ej P e with
   |some ag,some s=>if 0<s/\(ag\/s=1) then some (.index n s ag,[x,i]) else none
   |_,_=>none
  |some .string=>match x with
   |.const (.string s)=>some (.strx s,[i])
   |_=>none
  |_=>none
 |.range t m=>match P.underlying t with
  |some (.map _ _)=>some (.mrange,[m])
  |_=>none
 |.entry it=>some (.mentry,[it])
 |.lookup t x k ok=>match P.underlying t with
  |some (.map kt e)=>match Ch P kt,Fj P e with
   |some tys,some z=>some (.lookup ok tys z,[x,k])
   |_,_=>none
  |_=>none
 |.mapUpdate t m k v=>match P.underlying t with
  |some (.map kt _)=>(Ch P kt).map fun tys=>(.mapupd tys,[m,k,v])
  |_=>none
 |.mapEntry t m k=>match P.underlying t with
  |some (.map kt e)=>match Ch P kt,Fj P e with
   |some tys,some z=>if z.one then some (.mapent tys z,[m,k]) else none
   |_,_=>none
  |_=>none
 |.entryStore _ m s v=>some (.entst,[m,s,v])
 |.extract x i=>some (.extract i,[x])
 |.call c=>J3 E draw c
 |_=>none
def Y2 (E:CW) (op:Op):Option (Bw×List Operand) :=
 match op with
 |.makeMap t none=>match E.P.underlying t with
  |some (.map k _)=>(Ch E.P k).map fun tys=>(.mkmapB tys,[])
  |_=>none
 |.slice t x (some lo) none none=>match E.P.underlying t with
  |some (.slice e)=>match Ej E.P e with
   |some s=>if 0<s then some (.sub s,[x,lo]) else none
   |none=>none
  |_=>none
 |.slice t x none (some hi) none=>match E.P.underlying t with
  |some (.slice e)=>match Ej E.P e with
   |some _=>some (.pre,[x,hi])
   |none=>none
  |_=>none
 |_=>none
def P7 (E:CW) (sp draw used:Bool) (op:Op):Option (Bw×List Operand):=if sp then Y2 E op else Zu E draw used op
def pV (fl:List Nat):Option Tmp->Bool
 |some t=>fl.contains (t+3000000)
 |none=>false
def qj (fl:List Nat):Option Tmp->Bool
 |some t=>fl.contains (t+2000000)
 |none=>false
def mB (ops:List Oper) (d:Option Tmp):Bool :=
 match d with
 |some t=>ops.any fun o=>match o.op with|.assign (.tmp u)=>u == t|.store _ _ (.tmp u)=>u == t|_=>false
 |none=>false
def lu (n:Nat):Option Tmp->Bool
 |some t=>decide (t<n)
 |none=>true
def dB (n:Nat) (ops:List Oper):Option (Nat×Bool)->Option (Option (Nat×Bool))
 |none=>some none
 |some (j,b)=>match (ops[j]?).bind (·.dst) with
  |some t=>if t<n then some (some (t,b)) else none
  |none=>none
def p5 (fl:List Nat):Option Tmp->Bool
 |some t=>fl.contains t
 |none=>false
def Hz (E:CW) (draw:Bool) (fl:List Nat) (n:Nat) (ops:List Oper) (o:Oper):Option Ew :=
 match P7 E (qj fl o.dst) ((draw != p5 fl o.dst) && !pV fl o.dst) (mB ops o.dst || p5 fl o.dst || pV fl o.dst) o.op with
 |none=>none
 |some (op,xs)=>match Qa E xs with
  |none=>none
  |some ys=>match lu n o.dst,dB n ops o.guard with
   |true,some g=>some ⟨o.dst,g,op,ys⟩
   |_,_=>none
end Go.Pw
end
section
namespace Go.Pw
open Go.RowKit
theorem Jl (k:IntKind) (n:Int):K4 k (k.wrap n):=by
 cases k<;>simp only[K4,IntKind.min,IntKind.max,IntKind.wrap,IntKind.signed,IntKind.bits]<;>simp<;>(repeat' split)<;>omega
theorem Hy {w fb} {v:Value}{d:D}(h:Oh v=some d):Az w fb d v:=by
 unfold Oh at h
 split at h
 ·split at h
  ·rename_i hk;simp at h;subst h;exact .int _ _ (by simpa[r6,K4] using hk)
  ·cases h
 all_goals first|(simp at h;subst h;constructor)|cases h
def XN (E:CW) (c:D_) (s:Bg) (tm:Array Value) (K:AV->B3->Prop) (r:Result Next):Prop :=
 (∃u w' v ch β',(r=.ok (.value u) w'\/(r=.ok .skip w'/\v=.undef))/\K v ch/\Br E c β' ⟨s.sl,s.V.app ch⟩ tm w' /\
  AM w' (c.bar β' (s.V.app ch)) β' (s.V.app ch).cn v u) \/
 (∃f args w',r=.ok (.enter f args) w'/\Calls E.P f args w' fun e w''=>∃u v ch β',e=.returned u/\K v ch/\Br E c β' ⟨s.sl,s.V.app ch⟩ tm w'' /\
  AM w'' (c.bar β' (s.V.app ch)) β' (s.V.app ch).cn v u)
section
variable {E:CW}{c:D_}{β:Nat->Nat->Value}{s:Bg}{tm:Array Value}{w:World}{K:AV->B3->Prop}
theorem DJ (h:Br E c β s tm w) {v:AV}{u:Value}{r:Result Next}(hK:K v .none) (hr:r=.ok (.value u) w) (hv:AM w (c.bar β s.V) β s.V.cn v u):XN E c s tm K r :=
 .inl ⟨u,w,v,.none,β,.inl hr,hK,h,hv⟩
theorem Bl {fb β' cn k n} {u:Value}(h:AM w fb β' cn (.d (.int k n)) u):u=.int k n/\K4 k n:=by
 cases h with|d _ _ h=>cases h with|int _ _ h=>exact⟨rfl,h⟩
theorem Hj {fb β' cn b} {u:Value}(h:AM w fb β' cn (.d (.bool b)) u):u=.bool b:=by
 cases h with|d _ _ h=>cases h;rfl
theorem EJ {fb β' cn k n} (h:K4 k n):AM w fb β' cn (.d (.int k n)) (.int k n):=.d _ _ (.int _ _ h)
theorem Ie {fb β' cn b}:AM w fb β' cn (.d (.bool b)) (.bool b):=.d _ _ (.bool _)
theorem ik {k:IntKind}{a b:Int}(ha:K4 k a) (hb:K4 k b) (h0:b≠0):K4 k (a.tmod b):=by
 have h1:(a.tmod b).natAbs<=a.natAbs:=by rw[Int.natAbs_tmod];exact Nat.mod_le _ _
 have h2:0<=a->0<=a.tmod b:=fun h=>Int.tmod_nonneg b h
 have h3:a<=0->a.tmod b<=0:=fun h=>by
  have:=Int.tmod_nonneg b (show 0<=-a by omega)
  rw[Int.neg_tmod] at this;omega
 unfold K4 at *
 have hmin:k.min<=0:=by cases k<;>decide
 have hmax:0<=k.max:=by cases k<;>decide
 rcases Int.le_total 0 a with h|h
 ·have:=h2 h;omega
 ·have:=h3 h;omega
theorem kU {k:IntKind}{a:Int}(ha:K4 k a) (n:Nat):K4 k (a.fdiv (2^n)):=by
 have hp:(0:Int)<2^n:=Int.pow_pos (by decide)
 rw[Int.fdiv_eq_ediv_of_nonneg _ (Int.le_of_lt hp)]
 unfold K4 at *
 have hmin:k.min<=0:=by cases k<;>decide
 have hmax:0<=k.max:=by cases k<;>decide
 have h1:0<=a->a/2^n<=a:=fun h=>Int.ediv_le_self _ h
 have h2:0<=a->0<=a/2^n:=fun h=>Int.ediv_nonneg h (Int.le_of_lt hp)
 have h3:a<0->a/2^n<0:=fun h=>Int.ediv_neg_of_neg_of_pos h hp
 have h4:a<0->a<=a/2^n:=fun h=>by
  have:a*2^n<=a:=by
   have:a*2^n<=a*1:=Int.mul_le_mul_of_nonpos_left (by omega) (by omega)
   omega
  exact Int.le_ediv_of_mul_le hp this
 rcases Int.lt_or_le a 0 with h|h
 ·have:=h3 h;have:=h4 h;omega
 ·have:=h1 h;have:=h2 h;omega
theorem RH (a b:Int):(a == b)=decide (a=b):=by rw[Bool.eq_iff_iff];simp
theorem aQ (h:Br E c β s tm w) {op:BinOp}{t:TypeId}{x y:Operand}{k k':IntKind}{a b:Int}{u v:Value}
  (hu:AM w (c.bar β s.V) β s.V.cn (.d (.int k a)) u) (hv:AM w (c.bar β s.V) β s.V.cn (.d (.int k' b)) v)
  (he:D7 op k k' a b (K · .none)) {vo:Sem Value->Sem Next}(hvo:vo=fun s=>do pure (.value (←s))) :
  XN E c s tm K ((vo (do eqGuard op t x y u v;binOp op t u v)).run E.P w):=by
 obtain⟨rfl,ha⟩:=Bl hu
 obtain⟨rfl,hb⟩:=Bl hv
 subst hvo
 have hg:(eqGuard op t x y (.int k a) (.int k' b)).run E.P w=.ok () w:=by
  unfold eqGuard;cases op<;>simp
 cases op<;>simp only[D7] at he
 case shl =>
  obtain⟨h0,hK⟩:=he
  exact DJ h hK (by simp[hg,binOp,Op.shift,Int.not_lt.2 h0]) (EJ (Jl _ _))
 case shr =>
  obtain⟨h0,hK⟩:=he
  exact DJ h hK (by simp[hg,binOp,Op.shift,Int.not_lt.2 h0]) (EJ (kU ha _))
 case quo =>
  obtain⟨rfl,h0,hK⟩:=he
  exact DJ h hK (by simp[hg,binOp,Op.intDiv,h0]) (EJ (Jl _ _))
 case rem =>
  obtain⟨rfl,h0,hK⟩:=he
  exact DJ h hK (by simp[hg,binOp,Op.intDiv,h0]) (EJ (ik ha hb h0))
 all_goals (obtain⟨rfl,hK⟩:=he)
 case add|sub|mul=>exact DJ h hK (by simp[hg,binOp,Op.intArith]) (EJ (Jl _ _))
 case and|or|xor|andNot=>exact DJ h hK (by simp[hg,binOp,Op.intBits,A0]) (EJ (Jl _ _))
 case eql=>exact DJ h hK (by simp[hg,binOp,Op.intCmp,RH]) Ie
 case neq=>exact DJ h hK (by simp[hg,binOp,Op.intCmp,bne,RH]) Ie
 all_goals exact DJ h hK (by simp[hg,binOp,Op.intCmp]) Ie
theorem I6 {P:Program}{t:TypeId}{ag:Bool}(h:F0 P t=some ag) (w:World):(isAgg t).run P w=.ok ag w:=by
 unfold F0 at h
 split at h
 ·rename_i fs hu;simp at h;subst h;simp[isAgg,run_underlying hu]
 ·rename_i n e hu;simp at h;subst h;simp[isAgg,run_underlying hu]
 ·rename_i d h1 h2 hu
  simp at h;subst h
  simp only[isAgg,Sem.run_bind,run_underlying hu,Result.andThen_ok]
  cases d<;>simp_all
 ·cases h
theorem Bv {P:Program}{t:TypeId}{n:Nat}(h:Ej P t=some n) (w:World):(sizeOf t).run P w=.ok n w:=by
 unfold Ej at h
 cases hi:P.info? t with
 |none=>simp[hi] at h
 |some i=>simp[hi] at h;subst h;simp[sizeOf,typeInfo,hi]
def CN {α:Type}(R:α->Value->Prop) (cs:List α) (vs:Array Value):Prop:=vs.size=cs.length/\∀(i:Nat) (c:α) (v:Value),cs[i]?=some c->vs[i]?=some v->R c v
theorem CN.extract {α:Type}{R:α->Value->Prop}{cs:List α}{vs:Array Value}(h:CN R cs vs) {off n:Nat}(hn:off+n<=cs.length) :
  CN R ((cs.drop off).take n) (vs.extract off (off+n)):=by
 obtain⟨h1,h2⟩:=h
 refine⟨by simp;omega,fun i c v hc hv=>?_⟩
 rw[List.getElem?_take] at hc
 split at hc
 ·rw[List.getElem?_drop] at hc
  rw[Array.getElem?_extract] at hv
  split at hv
  ·exact h2 _ c v hc hv
  ·cases hv
 ·cases hc
theorem Jo {α:Type}{R:α->Value->Prop}(h:Br E c β s tm w) {cs:List α}{vs:Array Value}(hR:CN R cs vs) {mk:List α->AV}{one:α->AV}{t:TypeId}{ag:Bool}{n off:Nat}
  (hag:F0 E.P t=some ag) (hsz:Ej E.P t=some n)
  (hmk:∀l (us:Array Value),(∀x,x∈l->x∈cs)->CN R l us->AM w (c.bar β s.V) β s.V.cn (mk l) (.agg us))
  (hone:∀x u,R x u->AM w (c.bar β s.V) β s.V.cn (one x) u)
  (he:Cb ag n cs off mk one (K · .none)):∃u,(part t vs off).run E.P w=.ok u w/\∃v,K v .none/\AM w (c.bar β s.V) β s.V.cn v u:=by
 unfold Cb at he
 cases ag with
 |true =>
  simp only[if_true] at he
  obtain⟨h1,h2⟩:=he
  refine⟨.agg (vs.extract off (off+n)),by simp[part,I6 hag,Bv hsz],_,h2,hmk _ _ (fun x hx=>List.mem_of_mem_drop (List.mem_of_mem_take hx)) (hR.extract h1)⟩
 |false =>
  simp only[Bool.false_eq_true,if_false] at he
  split at he
  ·rename_i x hx
   have hlt:off<cs.length:=(List.getElem?_eq_some_iff.1 hx).1
   obtain⟨u,hu⟩:∃u,vs[off]?=some u:=⟨_,Array.getElem?_eq_getElem (by have:=hR.1;omega)⟩
   exact⟨u,by simp[part,I6 hag,hu],_,he,hone x u (hR.2 off x u hx hu)⟩
  ·exact he.elim
theorem O1 {fb β' cn cs} {u:Value}(h:AM w fb β' cn (.agg cs) u):∃vs,u=.agg vs/\CN (AM w fb β' cn) cs vs/\∀x,x∈cs->x.one=true:=by
 cases h with|agg _ vs hl h1 h=>exact⟨vs,rfl,⟨hl,h⟩,h1⟩
theorem SS {fb β' cn cs} {u:Value}(h:AM w fb β' cn (.d (.agg cs)) u):∃vs,u=.agg vs/\CN (Az w fb) cs vs/\∀x,x∈cs->x.one=true:=by
 cases h with|d _ _ h=>cases h with|agg _ vs hl h1 h=>exact⟨vs,rfl,⟨hl,h⟩,h1⟩
theorem Ls {fb β' cn cs vs} (h:CN (AM w fb β' cn) cs vs) (h1:∀x,x∈cs->x.one=true):AM w fb β' cn (.agg cs) (.agg vs):=.agg _ _ h.1 h1 h.2
theorem J4 {fb β' cn cs vs} (h:CN (Az w fb) cs vs) (h1:∀x,x∈cs->x.one=true):AM w fb β' cn (.d (.agg cs)) (.agg vs):=.d _ _ (.agg _ _ h.1 h1 h.2)
theorem EN {α:Type}{R:α->Value->Prop}(h:Br E c β s tm w) {cs:List α}{b base off:Nat}{vs:Nat->Value}
  (hc:∀(j:Nat) (x:α),cs[j]?=some x->w.cell? ⟨b,base+j,none⟩=some (vs j)) (hv:∀(j:Nat) (x:α),cs[j]?=some x->R x (vs j))
  {mk:List α->AV}{one:α->AV}{t:TypeId}{ag:Bool}{n:Nat}
  (hag:F0 E.P t=some ag) (hsz:Ej E.P t=some n)
  (hmk:∀l (us:Array Value),(∀x,x∈l->x∈cs)->CN R l us->AM w (c.bar β s.V) β s.V.cn (mk l) (.agg us))
  (hone:∀x u,R x u->AM w (c.bar β s.V) β s.V.cn (one x) u)
  (he:Cb ag n cs off mk one (K · .none)):∃u,(loadVar t ⟨b,base+off,none⟩).run E.P w=.ok u w/\∃v,K v .none/\AM w (c.bar β s.V) β s.V.cn v u:=by
 unfold Cb at he
 cases ag with
 |true =>
  simp only[if_true] at he
  obtain⟨h1,h2⟩:=he
  have hl:=run_loadCells (P:=E.P) w ⟨b,base+off,none⟩ n (fun j=>vs (off+j)) (fun j hj=>by
   rw[Addr.add_lit,Nat.add_assoc]
   obtain⟨x,hx⟩:∃x,cs[off+j]?=some x:=⟨_,List.getElem?_eq_getElem (by omega)⟩
   exact hc _ x hx)
  refine⟨.agg ((List.range n).map fun j=>vs (off+j)).toArray,by simp[loadVar,I6 hag,Bv hsz,hl],_,h2,hmk _ _ (fun x hx=>List.mem_of_mem_drop (List.mem_of_mem_take hx)) ⟨by simp;omega,fun i x v hx hv'=>?_⟩⟩
  rw[List.getElem?_take] at hx
  split at hx
  ·rename_i hi
   rw[List.getElem?_drop] at hx
   simp[hi] at hv'
   subst hv'
   exact hv _ x hx
  ·cases hx
 |false =>
  simp only[Bool.false_eq_true,if_false] at he
  split at he
  ·rename_i x hx
   exact⟨vs off,by simp[loadVar,I6 hag,run_load,hc off x hx],_,he,hone x _ (hv off x hx)⟩
  ·exact he.elim
theorem CC {w:World}{b:Nat}{cur:Array Value}{e:TypeId} {fr} (hb:w.heap[b]?=some (.cells cur e fr)) (j:Nat):w.cell? ⟨b,j,none⟩=cur[j]?:=by
 simp[World.cell?,hb]
theorem Rm (h:Br E c β s tm w) {t:TypeId}{ag:Bool}{n:Nat}(hag:F0 E.P t=some ag) (hsz:Ej E.P t=some n) {dst:Option Nat}{p:AV}{u:Value}
  (hp:AM w (c.bar β s.V) β s.V.cn p u) (he:ev E dst s.V (.load ag n) [p] K) :
  ∃r,(Instr.loadAt t u).run E.P w=.ok r w/\∃v,K v .none/\AM w (c.bar β s.V) β s.V.cn v r:=by
 unfold ev at he
 simp only at he
 cases p with
 |ptr o g off =>
  simp only at he
  split at he
  ·rename_i cs hg
   have hob:=AL.get_some hg
   cases hp with|ptr _ _ _ b hlt hβ =>
   have ho:=(h.objs _ _ _ hob).2
   rw[hβ] at ho
   cases ho with|cells _ _ cur e hb hl h1 hx =>
   have:=EN (R:=AM w (c.bar β s.V) β s.V.cn) h (cs:=cs) (b:=b) (base:=0) (off:=off) (vs:=fun j=>cur.getD j undef) (fun j x hj=>by
     have hlt:j<cur.size:=by rw[hl];exact(List.getElem?_eq_some_iff.1 hj).1
     rw[Nat.zero_add,CC hb,Array.getElem?_eq_getElem hlt];simp[Array.getD_eq_getD_getElem?,hlt])
    (fun j x hj=>by
     have hlt:j<cur.size:=by rw[hl];exact(List.getElem?_eq_some_iff.1 hj).1
     exact hx j x _ hj (by rw[Array.getElem?_eq_getElem hlt];simp[Array.getD_eq_getD_getElem?,hlt]))
    hag hsz (fun l us hm hc=>Ls hc fun x hx=>h1 x (hm x hx)) (fun x u hx=>hx) he
   obtain⟨r,hr,h3⟩:=this
   exact⟨r,by simpa[Instr.loadAt,Instr.sureAddr] using hr,h3⟩
  ·exact he.elim
 |rptr o g es i off =>
  simp only at he
  split at he
  ·rename_i es' nl l hg
   obtain⟨rfl,he⟩:=he
   split at he
   ·rename_i x hxi
    have hob:=AL.get_some hg
    cases hp with|rptr _ _ _ _ _ b b0 len cap hlt hβ =>
    have ho:=(h.objs _ _ _ hob).2
    rw[hβ] at ho
    cases ho with|row _ _ _ _ _ ho =>
    rcases ho with⟨_,_,h3⟩|⟨_,b',off',cap',cur,h2,h3,h4,h5,h6,h7,h8,h10,h9⟩
    ·cases h3
    ·simp only[Value.slice.injEq,Option.some.injEq,Addr.mk.injEq] at h2
     obtain⟨⟨rfl,rfl,_⟩,rfl,rfl⟩:=h2
     have hone:∀c,c∈x.cells->c.one=true:=fun c hc=>h10 x c (List.mem_of_getElem? hxi) hc
     have:=EN (R:=Az w (c.bar β s.V)) h (cs:=x.cells) (b:=b) (base:=b0+i*es) (off:=off) (vs:=fun j=>cur.getD (b0+i*es+j) undef) (fun j c hj=>by
       obtain⟨u,hu,_⟩:=h9 i x j c hxi hj
       rw[CC h3,hu];simp[Array.getD_eq_getD_getElem?,hu])
      (fun j c hj=>by
       obtain⟨u,hu,hd⟩:=h9 i x j c hxi hj
       simpa[Array.getD_eq_getD_getElem?,hu] using hd)
      hag hsz (fun l us hm hc=>J4 hc fun x hx=>hone x (hm x hx)) (fun x u hx=>.d _ _ hx) he
     obtain⟨r,hr,h3⟩:=this
     exact⟨r,by simpa[Instr.loadAt,Instr.sureAddr] using hr,h3⟩
   ·exact he.elim
  ·rename_i ety l k q p hg
   obtain⟨rfl,he1,he2⟩:=he
   have hob:=AL.get_some hg
   cases hp with|rptr _ _ _ _ _ b b0 len cap hlt hβ =>
   have ho:=(h.objs _ _ _ hob).2
   rw[hβ] at ho
   cases ho with|rowH _ _ _ _ _ _ ho =>
   obtain⟨b',off',cap',cur,h2,h3,h4,h5,h6,h8,h10,⟨k1,k2,k3,k4⟩,h9⟩:=ho
   simp only[Value.slice.injEq,Option.some.injEq,Addr.mk.injEq] at h2
   obtain⟨⟨rfl,rfl,_⟩,rfl,rfl⟩:=h2
   by_cases hik:i=k
   ·subst hik
    have:=EN (R:=AM w (c.bar β s.V) β s.V.cn) h (cs:=[.own q p]) (b:=b) (base:=b0+i*1) (off:=off) (vs:=fun _=>β q p) (fun j x hj=>by
      cases j with
      |zero=>rw[CC h3];simpa using k2
      |succ j=>simp at hj)
     (fun j x hj=>by
      cases j with
      |zero=>simp at hj;subst hj;exact .own q p k3 k4
      |succ j=>simp at hj)
     hag hsz (fun l us hm hc=>Ls hc fun x hx=>by
      have:=hm x hx;simp at this;subst this;rfl) (fun x u hx=>hx) (he1 rfl)
    obtain⟨r,hr,h3⟩:=this
    exact⟨r,by simpa[Instr.loadAt,Instr.sureAddr] using hr,h3⟩
   ·have he:=he2 hik
    split at he
    ·rename_i x hxi
     have hone:∀c,c∈x.cells->c.one=true:=fun c hc=>h10 x c (List.mem_of_getElem? hxi) hc
     have hlen:=h8 x (List.mem_of_getElem? hxi)
     have hcell:∀(j:Nat) (c:D),x.cells[j]?=some c->j=0:=fun j c hj=>by have:=(List.getElem?_eq_some_iff.1 hj).1;omega
     have:=EN (R:=Az w (c.bar β s.V)) h (cs:=x.cells) (b:=b) (base:=b0+i*1) (off:=off) (vs:=fun j=>cur.getD (b0+i*1+j) undef) (fun j c hj=>by
       have hj0:=hcell j c hj
       subst hj0
       obtain⟨u,hu,_⟩:=h9 i x c hik hxi hj
       rw[CC h3];simp[Array.getD_eq_getD_getElem?,hu])
      (fun j c hj=>by
       have hj0:=hcell j c hj
       subst hj0
       obtain⟨u,hu,hd⟩:=h9 i x c hik hxi hj
       simpa[Array.getD_eq_getD_getElem?,hu] using hd)
      hag hsz (fun l us hm hc=>J4 hc fun x hx=>hone x (hm x hx)) (fun x u hx=>.d _ _ hx) he
     obtain⟨r,hr,h3⟩:=this
     exact⟨r,by simpa[Instr.loadAt,Instr.sureAddr] using hr,h3⟩
    ·exact he.elim
  ·exact he.elim
 |dptr cs off =>
  simp only at he
  cases hp with|dptr _ _ b base vs hb hne h1 hc hv =>
  obtain⟨r,hr,h3⟩:=EN (R:=Az w (c.bar β s.V)) h (cs:=cs) (b:=b) (base:=base) (off:=off) (vs:=vs) hc hv hag hsz
   (fun l us hm hc=>J4 hc fun x hx=>h1 x (hm x hx)) (fun x u hx=>.d _ _ hx) he
  exact⟨r,by simpa[Instr.loadAt,Instr.sureAddr] using hr,h3⟩
 |d x =>
  cases x with
  |ptr cs =>
   simp only at he
   cases hp with|d _ _ hp=>cases hp with|ptr _ b base vs hb hne h1 hc hv =>
   obtain⟨r,hr,h3⟩:=EN (R:=Az w (c.bar β s.V)) h (cs:=cs) (b:=b) (base:=base) (off:=0) (vs:=vs) hc hv hag hsz
    (fun l us hm hc=>J4 hc fun x hx=>h1 x (hm x hx)) (fun x u hx=>.d _ _ hx) he
   exact⟨r,by simpa[Instr.loadAt,Instr.sureAddr] using hr,h3⟩
  |_=>simp at he
 |mref k o g =>
  cases k with
  |xp i =>
   simp only at he
   split at he
   ·rename_i e1 e2 nl ix rows hg
    split at he
    ·rename_i j hij
     have hob:=AL.get_some hg
     obtain⟨v,hv⟩:∃v,β o g=v:=⟨_,rfl⟩
     cases hp with|mref _ _ _ u hlt hm hu1 =>
     have ho:=(h.objs _ _ _ hob).2
     rw[hv] at ho
     cases ho with|mat _ _ _ _ _ _ ho =>
     obtain⟨v0,vs,hvv,hlen,h0,hr,hsep⟩:=ho
     have hv':=hv
     rw[hvv] at hv'
     rw[hv'] at hm
     rcases h0 with⟨_,h01,_⟩|⟨_,b,off,cap,cur,h2,h3,h4,h5,h6,h7⟩
     ·rw[h01] at hij;simp at hij
     ·obtain⟨uj,huj,hcj⟩:=h7 i j hij
      subst h2
      simp only[EH,B_,List.getElem?_cons_zero,Option.bind_some,Rl,Option.some.injEq] at hm
      subst hm
      obtain⟨x,hx⟩:∃x,rows[j]?=some x:=⟨_,List.getElem?_eq_getElem (by have:=(List.getElem?_eq_some_iff.1 huj).1;omega)⟩
      have:=EN (R:=AM w (c.bar β s.V) β s.V.cn) h (cs:=[.mref (.row j) o g]) (b:=b) (base:=off+i) (off:=0) (vs:=fun _=>uj) (fun q y hq=>by
        cases q with
        |zero=>rw[CC h3];simpa using hcj
        |succ q=>simp at hq)
       (fun q y hq=>by
        cases q with
        |zero=>simp at hq;subst hq;exact .mref _ _ _ _ hlt (by rw[hv'];simp[EH,huj]) (hr j x uj hx huj).1
        |succ q=>simp at hq)
       hag hsz (fun l us hm hc=>Ls hc fun x hx=>by
        have:=hm x hx;simp at this;subst this;rfl) (fun x u hx=>hx) he
      obtain⟨r,hr,h3⟩:=this
      exact⟨r,by simpa[Instr.loadAt,Instr.sureAddr] using hr,h3⟩
    ·exact he.elim
   ·exact he.elim
  |mp j k =>
   simp only at he
   split at he
   ·rename_i e1 e2 nl ix rows hg
    split at he
    ·rename_i x hx
     split at he
     ·rename_i y hy
      have hob:=AL.get_some hg
      obtain⟨v,hv⟩:∃v,β o g=v:=⟨_,rfl⟩
      cases hp with|mref _ _ _ u hlt hm hu1 =>
      have ho:=(h.objs _ _ _ hob).2
      rw[hv] at ho
      cases ho with|mat _ _ _ _ _ _ ho =>
      obtain⟨v0,vs,hvv,hlen,h0,hr,hsep⟩:=ho
      have hv':=hv
      rw[hvv] at hv'
      rw[hv'] at hm
      obtain⟨uj,huj⟩:∃u,vs[j]?=some u:=⟨_,List.getElem?_eq_getElem (by have:=(List.getElem?_eq_some_iff.1 hx).1;omega)⟩
      rcases (hr j x uj hx huj).2 (Oz (by have:=(List.getElem?_eq_some_iff.1 hy).1;omega)) with⟨_,h01,_⟩|⟨_,b,off,cap,cur,h2,h3,h4,h5,h6,h7,h8,h10,h9⟩
      ·rw[h01] at hy;simp at hy
      ·subst h2
       simp only[EH,B_,List.getElem?_cons_succ,huj,Option.bind_some,Rl,Option.some.injEq] at hm
       subst hm
       have hone:∀c,c∈y.cells->c.one=true:=fun c hc=>h10 y c (List.mem_of_getElem? hy) hc
       have:=EN (R:=Az w (c.bar β s.V)) h (cs:=y.cells) (b:=b) (base:=off+k) (off:=0) (vs:=fun q=>cur.getD (off+k+q) undef) (fun q cc hq=>by
         obtain⟨u,hu,_⟩:=h9 k y q cc hy hq
         rw[Nat.mul_one] at hu
         rw[CC h3,hu];simp[Array.getD_eq_getD_getElem?,hu])
        (fun q cc hq=>by
         obtain⟨u,hu,hd⟩:=h9 k y q cc hy hq
         rw[Nat.mul_one] at hu
         simpa[Array.getD_eq_getD_getElem?,hu] using hd)
        hag hsz (fun l us hm hc=>J4 hc fun x hx=>hone x (hm x hx)) (fun x u hx=>.d _ _ hx) he
       obtain⟨r,hr,h3⟩:=this
       exact⟨r,by simpa[Instr.loadAt,Instr.sureAddr] using hr,h3⟩
     ·exact he.elim
    ·exact he.elim
   ·exact he.elim
  |_=>simp at he
 |ablk sl cs off =>
  cases sl with
  |true=>simp at he
  |false =>
   simp only at he
   cases hp with|ablk _ _ _ b base vs u hb hne h1 hc hv hu =>
   subst hu
   obtain⟨r,hr,h3⟩:=EN (R:=AM w (c.bar β s.V) β s.V.cn) h (cs:=cs) (b:=b) (base:=base) (off:=off) (vs:=vs) hc hv hag hsz
    (fun l us hm hc=>Ls hc fun x hx=>h1 x (hm x hx)) (fun x u hx=>hx) he
   exact⟨r,by simpa[Instr.loadAt,Instr.sureAddr,gx] using hr,h3⟩
 |_=>simp at he
end
end Go.Pw
end
section
namespace Go.Pw
open Go.RowKit
section
variable {E:CW}{c:D_}{β:Nat->Nat->Value}{s:Bg}{tm:Array Value}{w:World}{K:AV->B3->Prop}
theorem Xl {dst:Option Nat}{x y z:AV}{u v t:Value}(hx:AM w (c.bar β s.V) β s.V.cn x u) (hy:AM w (c.bar β s.V) β s.V.cn y v)
  (hz:AM w (c.bar β s.V) β s.V.cn z t) (he:ev E dst s.V .pick [x,y,z] K) :
  ∃b,u=.bool b/\∃r,K r .none/\AM w (c.bar β s.V) β s.V.cn r (if b then v else t):=by
 unfold ev at he
 simp only at he
 split at he
 ·rename_i b y' z' heq
  simp only[List.cons.injEq,and_true] at heq
  obtain⟨rfl,rfl,rfl⟩:=heq
  obtain rfl:=Hj hx
  refine⟨b,rfl,?_⟩
  cases b
  ·exact⟨_,he.2 rfl,by simpa using hz⟩
  ·exact⟨_,he.1 rfl,by simpa using hy⟩
 ·exact he.elim
theorem Vt {t:TypeId}{f:Nat}{fs:Array Field}{fd:Field}{n:Nat}(ht:E.P.underlying t=some (.struct fs)) (hf:fs[f]?=some fd) (hn:Ej E.P fd.type=some n) (hpos:0<n)
  {dst:Option Nat}{p:AV}{u:Value}(hp:AM w (c.bar β s.V) β s.V.cn p u) (he:ev E dst s.V (.faddr fd.offset) [p] K) :
  ∃r,(Instr.fieldAt t u f).run E.P w=.ok r w/\∃v,K v .none/\AM w (c.bar β s.V) β s.V.cn v r:=by
 have key:∀b off,(Instr.fieldAt t (.pointer (some ⟨b,off,none⟩)) f).run E.P w=.ok (.pointer (some ⟨b,off+fd.offset,none⟩)) w:=by
  intro b off
  have:n≠0:=by omega
  simp[Instr.fieldAt,run_underlying ht,hf,Instr.sureAddr,fieldPlace,Bv hn,this,Addr.add_lit]
 unfold ev at he
 simp only at he
 split at he
 ·rename_i o g a heq
  simp only[List.cons.injEq,and_true] at heq;subst heq
  cases hp with|ptr _ _ _ b hlt hβ=>exact⟨_,key _ _,_,he,.ptr _ _ _ b hlt hβ⟩
 ·rename_i o g es i a heq
  simp only[List.cons.injEq,and_true] at heq;subst heq
  cases hp with|rptr _ _ _ _ _ b b0 n cap hlt hβ=>exact⟨_,key _ _,_,he,by rw[Nat.add_assoc];exact .rptr _ _ _ _ _ b b0 n cap hlt hβ⟩
 ·rename_i cs a heq
  simp only[List.cons.injEq,and_true] at heq;subst heq
  cases hp with|dptr _ _ b base vs hb hne h1 hc hv=>exact⟨_,key _ _,_,he,by rw[Nat.add_assoc];exact .dptr _ _ b base vs hb hne h1 hc hv⟩
 ·rename_i cs heq
  simp only[List.cons.injEq,and_true] at heq;subst heq
  cases hp with|d _ _ hp=>cases hp with|ptr _ b base vs hb hne h1 hc hv=>exact⟨_,key _ _,_,he,.dptr _ _ b base vs hb hne h1 hc hv⟩
 ·rename_i cs a heq
  simp only[List.cons.injEq,and_true] at heq;subst heq
  cases hp with|ablk _ _ _ b base vs u hb hne h1 hc hv hu =>
  subst hu
  exact⟨_,key _ _,_,he,.ablk false _ _ b base vs _ hb hne h1 hc hv (by simp[gx,Nat.add_assoc])⟩
 ·exact he.elim
theorem Wr {fb β' cn} {nil:Bool}{l:List D}{a:Addr}{len cap:Nat}(h:Az w fb (.list nil l) (.slice (some a) len cap)) {i es:Nat}{x:D}(hx:l[i]?=some x) (hes:x.cells.length=es) :
  len=l.length/\AM w fb β' cn (.dptr x.cells 0) (.pointer (some (a.add (i*es)))):=by
 cases h with
 |empty=>simp at hx
 |list _ es' b off _ vs hcap hm hb hpos hs h1 hc hv =>
  have hm':=List.mem_of_getElem? hx
  have:es=es':=hes.symm.trans (hs x hm')
  subst this
  refine⟨rfl,?_⟩
  rw[Addr.add_lit]
  exact .dptr x.cells 0 b (off+i*es) (vs i) hb (fun h0=>by rw[h0] at hes;simp at hes;omega) (fun c hc=>h1 x c hm' hc) (fun j c hj=>hc i x j c hx hj) (fun j c hj=>hv i x j c hx hj)
theorem Ze {off n cap:Nat}{v u:Value}(h:EH (.bs off n cap) v=some u):∃b,v=.pointer (some ⟨b,0,none⟩)/\u=.slice (some ⟨b,off,none⟩) n cap/\n<=4096:=by
 unfold EH at h
 split at h<;>first|(rename_i he;cases he;done)|skip
 ·rename_i b he
  cases he
  split at h
  ·simp only[Option.some.injEq] at h
   exact⟨_,rfl,h.symm,by assumption⟩
  ·cases h
 ·cases h
theorem Ui {t e:TypeId}{es:Nat}(ht:E.P.underlying t=some (.slice e)) (hsz:Ej E.P e=some es) (h:Br E c β s tm w)
  {dst:Option Nat}{p q:AV}{u v:Value}(hp:AM w (c.bar β s.V) β s.V.cn p u) (hq:AM w (c.bar β s.V) β s.V.cn q v) (he:ev E dst s.V (.iaddrS es) [p,q] K) :
  ∃r,(Instr.indexAt t u v).run E.P w=.ok r w/\∃x,K x .none/\AM w (c.bar β s.V) β s.V.cn x r:=by
 have hel:E.P.elem t=e:=by simp[Program.elem,ht]
 have key:∀(a:Addr) (len cap:Nat) (k:IntKind) (i:Int),0<=i->i<len->(Instr.indexAt t (.slice (some a) len cap) (.int k i)).run E.P w=.ok (.pointer (some (a.add (i.toNat * es)))) w:=by
  intro a len cap k i h0 h1
  rw[run_indexAt_slice w t a len cap k i (by rw[hel];exact ht),if_pos ⟨h0,h1⟩,hel,Bv hsz]
  rfl
 unfold ev at he
 simp only at he
 split at he
 ·rename_i o g k i heq
  simp only[List.cons.injEq,and_true] at heq;obtain⟨rfl,rfl⟩:=heq
  split at he
  ·rename_i ety es' nl l hg
   obtain⟨rfl,h0,h1,hK⟩:=he
   obtain⟨rfl,_⟩:=Bl hq
   have hob:=AL.get_some hg
   obtain⟨hlt,ho⟩:=h.objs _ _ _ hob
   cases ho with|row _ _ _ _ _ ho =>
   cases hp with|own _ _ _ _ =>
   rcases ho with⟨_,h2,h3⟩|⟨_,b,off,cap,cur,h2,_⟩
   ·subst h2;simp at h1;omega
   ·rw[h2]
    refine⟨_,key _ _ _ _ _ h0 h1,_,hK,?_⟩
    rw[Addr.add_lit]
    exact .rptr _ _ _ _ 0 _ _ _ _ hlt h2
  ·rename_i ety l k0 q0 p0 hg
   obtain⟨rfl,h0,h1,hK⟩:=he
   obtain⟨rfl,_⟩:=Bl hq
   have hob:=AL.get_some hg
   obtain⟨hlt,ho⟩:=h.objs _ _ _ hob
   cases ho with|rowH _ _ _ _ _ _ ho =>
   cases hp with|own _ _ _ _ =>
   obtain⟨b,off,cap,cur,h2,_⟩:=ho
   rw[h2]
   refine⟨_,key _ _ _ _ _ h0 h1,_,hK,?_⟩
   rw[Addr.add_lit]
   exact .rptr _ _ _ _ 0 _ _ _ _ hlt h2
  ·exact he.elim
 ·rename_i nl l k i heq
  simp only[List.cons.injEq,and_true] at heq;obtain⟨rfl,rfl⟩:=heq
  obtain⟨h0,h1,he⟩:=he
  split at he
  ·rename_i x hx
   obtain⟨hes,hK⟩:=he
   obtain⟨rfl,_⟩:=Bl hq
   cases hp with|d _ _ hp =>
   have hl:∃a cap,u=.slice (some a) l.length cap:=by cases hp<;>first|exact⟨_,_,rfl⟩|simp at hx
   obtain⟨a,cap,rfl⟩:=hl
   exact⟨_,key _ _ _ _ _ h0 h1,_,hK,(Wr hp hx hes).2⟩
  ·exact he.elim
 ·rename_i l k i heq
  simp only[List.cons.injEq,and_true] at heq;obtain⟨rfl,rfl⟩:=heq
  obtain⟨h0,h1,he⟩:=he
  split at he
  ·rename_i x hx
   obtain⟨hes,hK⟩:=he
   obtain⟨rfl,_⟩:=Bl hq
   cases hp with|ex _ a hp =>
   exact⟨_,key _ _ _ _ _ h0 h1,_,hK,(Wr hp hx hes).2⟩
  ·exact he.elim
 ·rename_i o g k i heq
  simp only[List.cons.injEq,and_true] at heq;obtain⟨rfl,rfl⟩:=heq
  split at he
  ·rename_i e1 e2 nl ix rows hg
   obtain⟨rfl,h0,h1,hK⟩:=he
   obtain⟨rfl,_⟩:=Bl hq
   have hob:=AL.get_some hg
   obtain⟨hlt,ho⟩:=h.objs _ _ _ hob
   obtain⟨v,hv⟩:∃v,β o g=v:=⟨_,rfl⟩
   cases hp with|mref _ _ _ u hlt hm hu1 =>
   rw[hv] at ho
   cases ho with|mat _ _ _ _ _ _ ho =>
   obtain⟨v0,vs,hvv,hlen,hc,hr,hsep⟩:=ho
   have hv':=hv
   rw[hvv] at hv'
   rw[hv'] at hm
   simp only[EH,B_,List.getElem?_cons_zero,Option.some.injEq] at hm
   subst hm
   rcases hc with⟨_,h01,_⟩|⟨_,b,off,cap,cur,h2,_⟩
   ·subst h01;simp at h1;omega
   ·subst h2
    refine⟨_,key _ _ _ _ _ h0 h1,_,hK,?_⟩
    rw[Addr.add_lit]
    exact .mref _ _ _ _ hlt (by rw[hv'];simp[EH,Rl]) rfl
  ·exact he.elim
 ·rename_i j o g k i heq
  simp only[List.cons.injEq,and_true] at heq;obtain⟨rfl,rfl⟩:=heq
  split at he
  ·rename_i e1 e2 nl ix rows hg
   split at he
   ·rename_i x hx
    obtain⟨rfl,h0,h1,hK⟩:=he
    obtain⟨rfl,_⟩:=Bl hq
    have hob:=AL.get_some hg
    obtain⟨hlt,ho⟩:=h.objs _ _ _ hob
    obtain⟨v,hv⟩:∃v,β o g=v:=⟨_,rfl⟩
    cases hp with|mref _ _ _ u hlt hm hu1 =>
    rw[hv] at ho
    cases ho with|mat _ _ _ _ _ _ ho =>
    obtain⟨v0,vs,hvv,hlen,hc,hr,hsep⟩:=ho
    have hv':=hv
    rw[hvv] at hv'
    rw[hv'] at hm
    simp only[EH,B_,List.getElem?_cons_succ] at hm
    rcases (hr j x u hx hm).2 (Oz (by omega)) with⟨_,h01,_⟩|⟨_,b,off,cap,cur,h2,_⟩
    ·rw[h01] at h1;simp at h1;omega
    ·subst h2
     refine⟨_,key _ _ _ _ _ h0 h1,_,hK,?_⟩
     rw[Addr.add_lit]
     exact .mref _ _ _ _ hlt (by rw[hv'];simp[EH,hm,Rl]) rfl
   ·exact he.elim
  ·exact he.elim
 ·rename_i off n cap o g k i heq
  simp only[List.cons.injEq,and_true] at heq;obtain⟨rfl,rfl⟩:=heq
  obtain⟨rfl,h0,h1,hK⟩:=he
  obtain⟨rfl,_⟩:=Bl hq
  cases hp with|mref _ _ _ u hlt hm hu1 =>
  obtain⟨b,hb,hu,_⟩:=Ze hm
  subst hu
  refine⟨_,key _ _ _ _ _ h0 h1,_,hK,?_⟩
  rw[Addr.add_lit,Nat.mul_one]
  exact .ptr _ _ _ b hlt hb
 ·exact he.elim
theorem Uj {t e:TypeId}{n es:Nat}(ht:E.P.underlying t=some (.array n e)) (hsz:Ej E.P e=some es)
  {dst:Option Nat}{p q:AV}{u v:Value}(hp:AM w (c.bar β s.V) β s.V.cn p u) (hq:AM w (c.bar β s.V) β s.V.cn q v) (he:ev E dst s.V (.iaddrA n es) [p,q] K) :
  ∃r,(Instr.indexAt t u v).run E.P w=.ok r w/\∃x,K x .none/\AM w (c.bar β s.V) β s.V.cn x r:=by
 have hel:E.P.elem t=e:=by simp[Program.elem,ht]
 have hlen:E.P.arrayLen t=n:=by simp[Program.arrayLen,ht]
 have key:∀(b off:Nat) (k:IntKind) (i:Int),0<=i->i<n->(Instr.indexAt t (.pointer (some ⟨b,off,none⟩)) (.int k i)).run E.P w=.ok (.pointer (some ⟨b,off+i.toNat * es,none⟩)) w:=by
  intro b off k i h0 h1
  rw[run_indexAt_array w t _ k i (by rw[hel,hlen];exact ht),if_pos ⟨h0,by rw[hlen];exact h1⟩,hel,Bv hsz]
  simp[Addr.add_lit]
 unfold ev at he
 simp only at he
 split at he
 ·rename_i o g off k i heq
  simp only[List.cons.injEq,and_true] at heq;obtain⟨rfl,rfl⟩:=heq
  obtain⟨h0,h1,hK⟩:=he
  obtain⟨rfl,_⟩:=Bl hq
  cases hp with|ptr _ _ _ b hlt hβ=>exact⟨_,key _ _ _ _ h0 h1,_,hK,.ptr _ _ _ b hlt hβ⟩
 ·rename_i o g es' j off k i heq
  simp only[List.cons.injEq,and_true] at heq;obtain⟨rfl,rfl⟩:=heq
  obtain⟨h0,h1,hK⟩:=he
  obtain⟨rfl,_⟩:=Bl hq
  cases hp with|rptr _ _ _ _ _ b b0 n cap hlt hβ=>exact⟨_,key _ _ _ _ h0 h1,_,hK,by rw[Nat.add_assoc];exact .rptr _ _ _ _ _ b b0 n cap hlt hβ⟩
 ·rename_i cs off k i heq
  simp only[List.cons.injEq,and_true] at heq;obtain⟨rfl,rfl⟩:=heq
  obtain⟨h0,h1,hK⟩:=he
  obtain⟨rfl,_⟩:=Bl hq
  cases hp with|dptr _ _ b base vs hb hne h2 hc hv=>exact⟨_,key _ _ _ _ h0 h1,_,hK,by rw[Nat.add_assoc];exact .dptr _ _ b base vs hb hne h2 hc hv⟩
 ·rename_i cs k i heq
  simp only[List.cons.injEq,and_true] at heq;obtain⟨rfl,rfl⟩:=heq
  obtain⟨h0,h1,hK⟩:=he
  obtain⟨rfl,_⟩:=Bl hq
  cases hp with|d _ _ hp=>cases hp with|ptr _ b base vs hb hne h2 hc hv=>exact⟨_,key _ _ _ _ h0 h1,_,hK,.dptr _ _ b base vs hb hne h2 hc hv⟩
 ·exact he.elim
theorem Vr {t e:TypeId}{n es:Nat}{ag:Bool}(h:Br E c β s tm w) (ht:E.P.underlying t=some (.array n e)) (hag:F0 E.P e=some ag) (hsz:Ej E.P e=some es)
  {dst:Option Nat}{p q:AV}{u v:Value}(hp:AM w (c.bar β s.V) β s.V.cn p u) (hq:AM w (c.bar β s.V) β s.V.cn q v) (he:ev E dst s.V (.index n es ag) [p,q] K) :
  ∃r,(Instr.index t u v).run E.P w=.ok r w/\∃x,K x .none/\AM w (c.bar β s.V) β s.V.cn x r:=by
 unfold ev at he
 simp only at he
 split at he
 ·rename_i cs k i heq
  simp only[List.cons.injEq,and_true] at heq;obtain⟨rfl,rfl⟩:=heq
  obtain⟨h0,h1,hK⟩:=he
  obtain⟨rfl,_⟩:=Bl hq
  obtain⟨vs,rfl,hc,h2⟩:=O1 hp
  obtain⟨r,hr,h3⟩:=Jo (mk:=.agg) (one:=id) h hc hag hsz (fun l us hm hl=>Ls hl fun x hx=>h2 x (hm x hx)) (fun x u hx=>hx) hK
  exact⟨r,by simp[Instr.index,asIntOf,run_underlying ht,h0,h1,Bv hsz,hr],h3⟩
 ·rename_i cs k i heq
  simp only[List.cons.injEq,and_true] at heq;obtain⟨rfl,rfl⟩:=heq
  obtain⟨h0,h1,hK⟩:=he
  obtain⟨rfl,_⟩:=Bl hq
  obtain⟨vs,rfl,hc,h2⟩:=SS hp
  obtain⟨r,hr,h3⟩:=Jo (mk:=fun cs=>.d (.agg cs)) (one:=.d) h hc hag hsz (fun l us hm hl=>J4 hl fun x hx=>h2 x (hm x hx)) (fun x u hx=>.d _ _ hx) hK
  exact⟨r,by simp[Instr.index,asIntOf,run_underlying ht,h0,h1,Bv hsz,hr],h3⟩
 ·exact he.elim
theorem Xk {t:TypeId}{sb:ByteArray}(h:Br E c β s tm w) (ht:E.P.underlying t=some .string)
  {dst:Option Nat}{q:AV}{v:Value}(hq:AM w (c.bar β s.V) β s.V.cn q v) (he:ev E dst s.V (.strx sb) [q] K) :
  ∃r,(Instr.index t (.string sb) v).run E.P w=.ok r w/\∃x,K x .none/\AM w (c.bar β s.V) β s.V.cn x r:=by
 unfold ev at he
 simp only at he
 split at he
 ·rename_i k i heq
  simp only[List.cons.injEq,and_true] at heq;subst heq
  obtain⟨h0,hK⟩:=he
  obtain⟨rfl,_⟩:=Bl hq
  split at hK
  ·rename_i b hb
   exact⟨.int .u8 b.toNat,by simp[Instr.index,asIntOf,run_underlying ht,h0,hb],_,hK,.d _ _ (.int _ _ (by unfold K4;have:=b.toNat_lt;simp[IntKind.min,IntKind.max,IntKind.bits,IntKind.signed];omega))⟩
  ·exact hK.elim
 ·exact he.elim
theorem Vs {t:TypeId}{f:Nat}{fs:Array Field}{fd:Field}{n:Nat}{ag:Bool}(h:Br E c β s tm w) (ht:E.P.underlying t=some (.struct fs)) (hf:fs[f]?=some fd)
  (hag:F0 E.P fd.type=some ag) (hsz:Ej E.P fd.type=some n)
  {dst:Option Nat}{p:AV}{u:Value}(hp:AM w (c.bar β s.V) β s.V.cn p u) (he:ev E dst s.V (.field ag fd.offset n) [p] K) :
  ∃r,(Instr.field t u f).run E.P w=.ok r w/\∃x,K x .none/\AM w (c.bar β s.V) β s.V.cn x r:=by
 unfold ev at he
 simp only at he
 split at he
 ·rename_i cs heq
  simp only[List.cons.injEq,and_true] at heq;subst heq
  obtain⟨vs,rfl,hc,h2⟩:=O1 hp
  obtain⟨r,hr,h3⟩:=Jo (mk:=.agg) (one:=id) h hc hag hsz (fun l us hm hl=>Ls hl fun x hx=>h2 x (hm x hx)) (fun x u hx=>hx) he
  exact⟨r,by simp[Instr.field,run_underlying ht,hf,asAgg,hr],h3⟩
 ·rename_i cs heq
  simp only[List.cons.injEq,and_true] at heq;subst heq
  obtain⟨vs,rfl,hc,h2⟩:=SS hp
  obtain⟨r,hr,h3⟩:=Jo (mk:=fun cs=>.d (.agg cs)) (one:=.d) h hc hag hsz (fun l us hm hl=>J4 hl fun x hx=>h2 x (hm x hx)) (fun x u hx=>.d _ _ hx) he
  exact⟨r,by simp[Instr.field,run_underlying ht,hf,asAgg,hr],h3⟩
 ·exact he.elim
end
end Go.Pw
end
section
namespace Go.Pw
open Go.RowKit
section
variable {E:CW}{c:D_}{β:Nat->Nat->Value}{s:Bg}{tm:Array Value}{w:World}{K:AV->B3->Prop}
theorem Nn {w:World} {fb} {nil:Bool}{l:List D}{a:Option Addr}{len cap:Nat}(h:Az w fb (.list nil l) (.slice a len cap)) {es x y:Nat}(hes:0<es) (hu:C0 es l) (hxy:x<=y) (hy:y<=l.length) :
  len=l.length/\len<=cap/\Az w fb (.list nil ((l.drop x).take (y-x))) (sliced a x y cap es):=by
 cases h with
 |nil =>
  simp at hy;subst hy;simp at hxy;subst hxy
  exact⟨rfl,by omega,by simp[sliced];exact .nil⟩
 |empty a _ hm =>
  simp at hy;subst hy;simp at hxy;subst hxy
  exact⟨rfl,by omega,by simp[sliced];split<;>exact .empty _ _ hm⟩
 |list _ es' b off _ vs hcap hm hb hpos hs h1 hc hv =>
  refine⟨rfl,hcap,?_⟩
  have hlen:((l.drop x).take (y-x)).length=y-x:=by simp;omega
  unfold sliced
  by_cases hcx:cap=x
  ·rw[if_pos hcx]
   have:y=x:=by omega
   subst this
   simp
   exact .empty _ _ (by omega)
  ·rw[if_neg hcx]
   by_cases hxy':x=y
   ·subst hxy';simp;exact .empty _ _ (by omega)
   have hes':es=es':=by
    cases l with
    |nil=>simp at hy;omega
    |cons z zs=>exact(hu z (by simp)).symm.trans (hs z (by simp))
   subst hes'
   simp only[Option.map_some,Addr.add_lit]
   rw[show y-x=((l.drop x).take (y-x)).length by omega]
   have hm':∀z,z∈((l.drop x).take (y-x))->z∈l:=fun z hz=>List.mem_of_mem_drop (List.mem_of_mem_take hz)
   have hget:∀(i:Nat) (z:D),((l.drop x).take (y-x))[i]?=some z->l[x+i]?=some z:=by
    intro i z hz
    rw[List.getElem?_take] at hz
    split at hz
    ·rwa [List.getElem?_drop] at hz
    ·cases hz
   rw[hlen]
   have hgoal:=Az.list (w:=w) (fb:=fb) ((l.drop x).take (y-x)) es b (off+x*es) (cap-x) (fun i j=>vs (x+i) j) (by omega) (by omega) hb hpos
    (fun z hz=>hs z (hm' z hz)) (fun z c hz hc=>h1 z c (hm' z hz) hc)
    (fun i z j c hz hj=>by rw[show off+x*es+i*es+j=off+(x+i)*es+j by rw[Nat.add_mul];omega];exact hc _ z j c (hget i z hz) hj)
    (fun i z j c hz hj=>hv _ z j c (hget i z hz) hj)
   rwa [hlen] at hgoal
theorem NQ {fb} {nil:Bool}{l:List D}{u:Value}(h:Az w fb (.list nil l) u):∃a cap,u=.slice a l.length cap:=by
 cases h<;>exact⟨_,_,rfl⟩
theorem Jr {t e:TypeId}{es:Nat}(ht:E.P.underlying t=some (.slice e)) (hsz:Ej E.P e=some es) {a:Option Addr}{len cap:Nat}(hlc:len<=cap) {lo hi:Bool}{rest:List AV}{lov hiv:Option Value}
  (hlo:lov.isSome=lo) (hhi:hiv.isSome=hi) {fb β' cn}
  (hrest:∃vs:List Value,vs=lov.toList++hiv.toList/\vs.length=rest.length/\∀(i:Nat) (x:AV) (v:Value),rest[i]?=some x->vs[i]?=some v->AM w fb β' cn x v)
  {C:Nat->Nat->Prop}(he:MV lo hi len rest C) :
  ∃x y,x<=y/\y<=len/\C x y/\(hi=false->y=len)/\(Instr.sliceAt t (.slice a len cap) lov hiv none).run E.P w=.ok (sliced a x y cap es) w:=by
 have hel:E.P.elem t=e:=by simp[Program.elem,ht]
 have ht':E.P.underlying t=some (.slice (E.P.elem t)):=by rw[hel];exact ht
 obtain⟨vs,hvs,hl,hr⟩:=hrest
 subst hvs
 rcases lov with _|lv<;>rcases hiv with _|hv<;>simp only[Option.isSome_some,Option.isSome_none] at hlo hhi<;>subst hlo hhi<;>simp only[MV,if_true,if_false,Bool.false_eq_true] at he
 ·cases rest with
  |nil=>exact⟨0,len,by omega,by omega,he,fun _=>rfl,by rw[run_sliceAt_slice w t _ _ _ _ ht',run_slice_all w t a len cap ht',hel,Bv hsz];rfl⟩
  |cons=>exact he.elim
 ·split at he
  ·rename_i k l
   obtain⟨rfl,_⟩:=Bl (hr 0 _ hv rfl rfl)
   obtain⟨h0,h1,h2⟩:=he
   exact⟨0,l.toNat,by omega,by omega,h2,by simp,by rw[run_sliceAt_slice w t _ _ _ _ ht',run_slice_h w t a len cap ht' k l h0 (by omega),hel,Bv hsz];rfl⟩
  ·exact he.elim
 ·split at he
  ·rename_i k l
   obtain⟨rfl,_⟩:=Bl (hr 0 _ lv rfl rfl)
   obtain⟨h0,h1,h2⟩:=he
   exact⟨l.toNat,len,by omega,by omega,h2,fun _=>rfl,by rw[run_sliceAt_slice w t _ _ _ _ ht',run_slice_l w t a len cap ht' k l h0 h1,hel,Bv hsz];rfl⟩
  ·exact he.elim
 ·split at he
  ·rename_i k1 l k2 h
   obtain⟨rfl,_⟩:=Bl (hr 0 _ lv rfl rfl)
   obtain⟨rfl,_⟩:=Bl (hr 1 _ hv rfl rfl)
   obtain⟨h0,h1,h2,h3⟩:=he
   exact⟨l.toNat,h.toNat,by omega,by omega,h3,by simp,by rw[run_sliceAt_slice w t _ _ _ _ ht',run_slice_lh w t a len cap ht' k1 k2 l h h0 h1 (by omega),hel,Bv hsz];rfl⟩
  ·exact he.elim
end
end Go.Pw
end
section
namespace Go.Pw
open Go.RowKit
section
variable {E:CW}{c:D_}{β:Nat->Nat->Value}{s:Bg}{tm:Array Value}{w:World}{K:AV->B3->Prop}
def GF (E:CW) (c:D_) (s:Bg) (tm:Array Value) (K:AV->B3->Prop) (r:Result Value):Prop :=
 ∃u w' v ch β',r=.ok u w'/\K v ch/\Br E c β' ⟨s.sl,s.V.app ch⟩ tm w'/\AM w' (c.bar β' (s.V.app ch)) β' (s.V.app ch).cn v u
theorem CF (h:Br E c β s tm w) {v:AV}{u:Value}{r:Result Value}(hK:K v .none) (hr:r=.ok u w) (hv:AM w (c.bar β s.V) β s.V.cn v u):GF E c s tm K r :=
 ⟨u,w,v,.none,β,hr,hK,h,hv⟩
theorem FR.refl (v:Value) (w:World):FR v w w:=⟨rfl,rfl,rfl,Nat.le_refl _,fun _ _ _=>rfl⟩
theorem Vo (h:Br E c β s tm w) {t e:TypeId}{es:Nat}(ht:E.P.underlying t=some (.slice e)) (hsz:Ej E.P e=some es) (hes:0<es)
  {x:AV}{u:Value}{rest:List AV}{lov hiv:Option Value}{dst:Option Nat}
  (hx:AM w (c.bar β s.V) β s.V.cn x u)
  (hrest:∃vs:List Value,vs=lov.toList++hiv.toList/\vs.length=rest.length/\∀(i:Nat) (x:AV) (v:Value),rest[i]?=some x->vs[i]?=some v->AM w (c.bar β s.V) β s.V.cn x v)
  (he:ev E dst s.V (.slice es lov.isSome hiv.isSome false) (x::rest) K):GF E c s tm K ((Instr.sliceAt t u lov hiv none).run E.P w):=by
 unfold ev at he
 simp only[Bool.false_eq_true,if_false] at he
 split at he
 ·rename_i nl l rest' heq
  simp only[List.cons.injEq] at heq;obtain⟨rfl,rfl⟩:=heq
  obtain⟨hu,he⟩:=he
  cases hx with|d _ _ hx =>
  obtain⟨a,cap,rfl⟩:=NQ hx
  have hlc:l.length<=cap:=(Nn hx hes hu (Nat.le_refl 0) (Nat.zero_le _)).2.1
  obtain⟨p,q,h1,h2,hK,_,hr⟩:=Jr ht hsz (a:=a) (cap:=cap) hlc rfl rfl hrest he
  exact CF h hK hr (.d _ _ (Nn hx hes hu h1 h2).2.2)
 ·rename_i l rest' heq
  simp only[List.cons.injEq] at heq;obtain⟨rfl,rfl⟩:=heq
  obtain⟨hu,he⟩:=he
  cases hx with|ex _ a hx =>
  obtain⟨p,q,h1,h2,hK,_,hr⟩:=Jr ht hsz (a:=some a) (cap:=l.length) (Nat.le_refl _) rfl rfl hrest he
  exact CF h hK hr (.d _ _ (Nn hx hes hu h1 h2).2.2)
 ·rename_i o g rest' heq
  simp only[List.cons.injEq] at heq;obtain⟨rfl,rfl⟩:=heq
  split at he
  ·rename_i ety es' nl l hg
   obtain⟨hol,rfl,he⟩:=he
   have hob:=AL.get_some hg
   obtain⟨hlt,ho⟩:=h.objs _ _ _ hob
   cases ho with|row _ _ _ _ _ ho =>
   cases hx with|own _ _ _ _ =>
   rcases ho with⟨h1,h2,h3⟩|⟨h1,b,off,cap,cur,h2,h3,h4,h5,h6,h7,h8,h10,h9⟩
   ·subst h2
    rw[h3]
    obtain⟨p,q,hp,hq,hK,hqf,hr⟩:=Jr ht hsz (a:=none) (cap:=0) (len:=0) (Nat.le_refl _) rfl rfl hrest he
    have:p=0:=by omega
    subst this
    have:q=0:=by omega
    subst this
    have hv:sliced none 0 0 0 es=.slice none 0 0:=by simp[sliced]
    rw[hv] at hr
    refine⟨_,w,_,_,_,hr,hK,h.fresh (vo:=.slice none 0 0) hol (.refl _ _) (fun b hb=>by simp[C8,BX] at hb) (fun β' fb' _ _ _=>.row _ _ _ _ _ (.inl ⟨h1,by split<;>simp,rfl⟩)),?_⟩
    exact AM.own_new rfl (FQ _ _ _)
   ·rw[h2]
    obtain⟨p,q,hp,hq,hK,hqf,hr⟩:=Jr ht hsz (a:=some ⟨b,off,none⟩) (cap:=cap) (len:=l.length) h4 rfl rfl hrest he
    have hl':(if hiv.isSome=true then (l.drop p).take (q-p) else l.drop p)=(l.drop p).take (q-p):=by
     split
     ·rfl
     ·rename_i hh
      have hq':q=l.length:=hqf (by simpa using hh)
      rw[List.take_of_length_le (by simp;omega)]
    rw[hl'] at hK
    have hll:((l.drop p).take (q-p)).length=q-p:=by simp;omega
    obtain⟨off',cap',hv,hcap,hofs,hsz'⟩:∃off' cap',sliced (some ⟨b,off,none⟩) p q cap es=.slice (some ⟨b,off',none⟩) (q-p) cap'/\cap'=cap-p/\(p<q->off'=off+p*es)/\off'+cap'*es<=cur.size:=by
     unfold sliced
     by_cases hc:cap=p
     ·rw[if_pos hc];refine⟨off,cap-p,rfl,rfl,fun h=>by omega,?_⟩
      have:cap-p=0:=by omega
      rw[this];have:=Nat.zero_le (cap*es);omega
     ·rw[if_neg hc]
      simp only[Option.map_some,Addr.add_lit]
      refine⟨_,_,rfl,rfl,fun _=>rfl,?_⟩
      have:cap*es=p*es+(cap-p)*es:=by rw[←Nat.add_mul];congr 1;omega
      omega
    rw[hv] at hr
    have hblk:C8 (β o g) b:=by rw[h2];exact rfl
    have hlb:b<w.heap.size:=(Array.getElem?_eq_some_iff.1 h3).1
    refine⟨_,w,_,_,_,hr,hK,h.fresh (vo:=.slice (some ⟨b,off',none⟩) (q-p) cap') hol (.refl _ _) (fun b' hb=>by
      simp[C8,BX] at hb;subst hb;exact⟨hlb,.inr ⟨g,_,hob,hblk⟩⟩) (fun β' fb' _ _ hf=>.row _ _ _ _ _ (.inr ⟨h1,b,off',cap',cur,by rw[hll],h3,by rw[hll];omega,by omega,hsz',h7,
       fun z hz=>h8 z (List.mem_of_mem_drop (List.mem_of_mem_take hz)),fun z c hz hc=>h10 z c (List.mem_of_mem_drop (List.mem_of_mem_take hz)) hc,fun i z j c hi hj=>?_⟩)),?_⟩
    ·have hiq:i<q-p:=by have:=(List.getElem?_eq_some_iff.1 hi).1;omega
     rw[List.getElem?_take_of_lt hiq,List.getElem?_drop] at hi
     have hlt':p+i<l.length:=(List.getElem?_eq_some_iff.1 hi).1
     obtain⟨u,hu,hd⟩:=h9 (p+i) z j c hi hj
     refine⟨u,?_,hd.mono (Ah.refl _ _) hf⟩
     rw[hofs (by omega),show off+p*es+i*es+j=off+(p+i)*es+j by rw[Nat.add_mul];omega]
     exact hu
    ·exact AM.own_new rfl (FQ _ _ _)
  ·exact he.elim
 ·exact he.elim
theorem Ua (h:Br E c β s tm w) {t e:TypeId}{es:Nat}(ht:E.P.underlying t=some (.slice e)) (hsz:Ej E.P e=some es) (hes:0<es)
  {x:AV}{u:Value}{rest:List AV}{lov hiv:Option Value}{mv:Value}{dst:Option Nat}
  (hx:AM w (c.bar β s.V) β s.V.cn x u)
  (hrest:∃vs:List Value,vs=lov.toList++hiv.toList++[mv]/\vs.length=rest.length/\∀(i:Nat) (x:AV) (v:Value),rest[i]?=some x->vs[i]?=some v->AM w (c.bar β s.V) β s.V.cn x v)
  (he:ev E dst s.V (.slice es lov.isSome hiv.isSome true) (x::rest) K):GF E c s tm K ((Instr.sliceAt t u lov hiv (some mv)).run E.P w):=by
 have hel:E.P.elem t=e:=by simp[Program.elem,ht]
 have ht':E.P.underlying t=some (.slice (E.P.elem t)):=by rw[hel];exact ht
 unfold ev at he
 simp only[if_true] at he
 obtain⟨vs,hvs,hl,hr⟩:=hrest
 subst hvs
 split at he
 ·rename_i l k1 hh k2 m hlo hhi heq
  simp only[List.cons.injEq] at heq;obtain⟨rfl,rfl⟩:=heq
  obtain⟨hu,rfl,h0,h1,hK⟩:=he
  cases lov with
  |some _=>simp at hlo
  |none =>
  cases hiv with
  |none=>simp at hhi
  |some hv =>
  obtain⟨rfl,_⟩:=Bl (hr 0 _ hv rfl rfl)
  obtain⟨rfl,_⟩:=Bl (hr 1 _ mv rfl rfl)
  cases hx with|d _ _ hx =>
  obtain⟨a,cap,rfl⟩:=NQ hx
  obtain⟨_,hlc,hsub⟩:=Nn hx hes hu (Nat.zero_le hh.toNat) (show hh.toNat<=l.length by omega)
  refine CF h hK (u:=sliced a 0 hh.toNat hh.toNat es) (by rw[run_sliceAt_slice w t _ _ _ _ ht',run_slice_hm w t a l.length cap ht' k1 k2 hh hh h0 (Int.le_refl _) (by omega),hel,Bv hsz];rfl) ?_
  have hne:∃ad,a=some ad:=by cases hx<;>exact⟨_,rfl⟩
  obtain⟨ad,rfl⟩:=hne
  have hlen:(l.take hh.toNat).length=hh.toNat:=by simp;omega
  have hval:∃ad',sliced (some ad) 0 hh.toNat hh.toNat es=.slice (some ad') (l.take hh.toNat).length (l.take hh.toNat).length:=by
   rw[hlen];unfold sliced
   split
   ·rename_i h0;exact⟨ad,by simp[h0]⟩
   ·exact⟨ad.add (0*es),by simp⟩
  obtain⟨ad',hval⟩:=hval
  rw[hval]
  refine .ex _ _ ?_
  have hsub':Az w (c.bar β s.V) (.list false (l.take hh.toNat)) (sliced (some ad) 0 hh.toNat cap es):=by simpa using hsub
  have hvals:sliced (some ad) 0 hh.toNat cap es=.slice (some ad) hh.toNat cap:=by
   unfold sliced;split
   ·rename_i h0;simp
   ·simp[Addr.add]
  have had:(l.take hh.toNat).length≠0->ad'=ad:=by
   intro hne
   rw[hlen] at hne
   unfold sliced at hval
   rw[if_neg hne] at hval
   simp[Addr.add] at hval
   exact hval.1.symm
  rw[hvals] at hsub'
  cases hll:l.take hh.toNat with
  |nil=>exact .empty _ _ (by simp[maxLen])
  |cons z zs =>
   rw[hll] at had hsub' hlen
   rw[had (by simp)]
   rw[←hlen] at hsub'
   cases hsub' with
   |list _ es' b off _ vs hcap hm hb hpos hs h1' hc hv=>exact .list _ es' b off _ vs (Nat.le_refl _) (by omega) hb hpos hs h1' hc hv
 ·rename_i k1 hh k2 m hlo hhi heq
  simp only[List.cons.injEq] at heq;obtain⟨rfl,rfl⟩:=heq
  obtain⟨rfl,rfl,hK⟩:=he
  cases lov with
  |some _=>simp at hlo
  |none =>
  cases hiv with
  |none=>simp at hhi
  |some hv =>
  obtain⟨rfl,_⟩:=Bl (hr 0 _ hv rfl rfl)
  obtain⟨rfl,_⟩:=Bl (hr 1 _ mv rfl rfl)
  cases hx with|d _ _ hx =>
  cases hx with|nil =>
  refine CF h hK (u:=.slice none 0 0) (by rw[run_sliceAt_slice w t _ _ _ _ ht',run_slice_hm w t none 0 0 ht' k1 k2 0 0 (Int.le_refl _) (Int.le_refl _) (by omega),hel,Bv hsz];rfl) (.d _ _ .nil)
 ·rename_i o g off k1 hh k2 m hlo hhi heq
  exfalso
  have h3:=congrArg List.length heq
  cases lov with
  |none=>simp at hlo
  |some _=>cases hiv with
   |none=>simp at hhi
   |some _=>simp at hl h3;omega
 ·rename_i cs k1 hh k2 m hlo hhi heq
  exfalso
  have h3:=congrArg List.length heq
  cases lov with
  |none=>simp at hlo
  |some _=>cases hiv with
   |none=>simp at hhi
   |some _=>simp at hl h3;omega
 ·rename_i cs off k1 hh k2 m hlo hhi heq
  exfalso
  have h3:=congrArg List.length heq
  cases lov with
  |none=>simp at hlo
  |some _=>cases hiv with
   |none=>simp at hhi
   |some _=>simp at hl h3;omega
 ·rename_i l k0 aa k1 hh k2 m hlo hhi heq
  simp only[List.cons.injEq] at heq;obtain⟨rfl,rfl⟩:=heq
  obtain⟨hu,rfl,h0,h1,h2,hK⟩:=he
  cases lov with
  |none=>simp at hlo
  |some lv =>
  cases hiv with
  |none=>simp at hhi
  |some hv =>
  obtain⟨rfl,_⟩:=Bl (hr 0 _ lv rfl rfl)
  obtain⟨rfl,_⟩:=Bl (hr 1 _ hv rfl rfl)
  obtain⟨rfl,_⟩:=Bl (hr 2 _ mv rfl rfl)
  cases hx with|d _ _ hx =>
  obtain⟨a,cap,rfl⟩:=NQ hx
  obtain⟨_,hlc,hsub⟩:=Nn hx hes hu (show aa.toNat<=hh.toNat by omega) (show hh.toNat<=l.length by omega)
  refine CF h hK (u:=sliced a aa.toNat hh.toNat hh.toNat es) (by rw[run_sliceAt_slice w t _ _ _ _ ht',run_slice_lhm w t a l.length cap ht' k0 k1 k2 aa hh hh h0 (by omega) (Int.le_refl _) (by omega),hel,Bv hsz];rfl) ?_
  have hne:∃ad,a=some ad:=by cases hx<;>exact⟨_,rfl⟩
  obtain⟨ad,rfl⟩:=hne
  have hlen:((l.drop aa.toNat).take (hh.toNat-aa.toNat)).length=hh.toNat-aa.toNat:=by simp;omega
  have e1:sliced (some ad) aa.toNat hh.toNat hh.toNat es=.slice (some (ad.add (aa.toNat * es))) (hh.toNat-aa.toNat) (hh.toNat-aa.toNat):=by
   unfold sliced;rw[if_neg (by omega)];rfl
  have e2:sliced (some ad) aa.toNat hh.toNat cap es=.slice (some (ad.add (aa.toNat * es))) (hh.toNat-aa.toNat) (cap-aa.toNat):=by
   unfold sliced;rw[if_neg (by omega)];rfl
  rw[e1]
  rw[e2] at hsub
  generalize (l.drop aa.toNat).take (hh.toNat-aa.toNat)=zs at hsub hlen ⊢
  rw[←hlen] at hsub ⊢
  generalize ad.add (aa.toNat * es)=ad' at hsub ⊢
  refine .ex _ _ ?_
  cases zs with
  |nil=>simp at hlen;omega
  |cons z zs =>
   cases hsub with
   |list _ es' b off _ vs hcap hm hb hpos hs h1' hc hv=>exact .list _ es' b off _ vs (Nat.le_refl _) (by omega) hb hpos hs h1' hc hv
 ·exact he.elim
theorem UZ (h:Br E c β s tm w) {t e:TypeId}{n:Nat}(ht:E.P.underlying t=some (.array n e)) (hsz:Ej E.P e=some 1) (hn:n<=4096)
  {x:AV}{u:Value}{y z:AV}{hv:Value}{hiv:Option Value}{dst:Option Nat}(hhi:hiv=some hv\/hiv=none/\hv=.int .i64 n)
  (hx:AM w (c.bar β s.V) β s.V.cn x u) (hy:AM w (c.bar β s.V) β s.V.cn y hv) (hz:AM w (c.bar β s.V) β s.V.cn z (.int .i64 n))
  (he:ev E dst s.V (.slice 1 true true true) [x,y,z] K):GF E c s tm K ((Instr.sliceAt t u none hiv none).run E.P w):=by
 have hel:E.P.elem t=e:=by simp[Program.elem,ht]
 have hlen:E.P.arrayLen t=n:=by simp[Program.arrayLen,ht]
 have ht':E.P.underlying t=some (.array (E.P.arrayLen t) (E.P.elem t)):=by rw[hel,hlen];exact ht
 have key:∀(b off:Nat) (k:IntKind) (i:Int),0<=i->i<=n->hv=.int k i->(Instr.sliceAt t (.pointer (some ⟨b,off,none⟩)) none hiv none).run E.P w=.ok (.slice (some ⟨b,off,none⟩) i.toNat n) w:=by
  intro b off k i h0 h1 hvv
  have ha:(Addr.add ⟨b,off,none⟩ (0*1))=⟨b,off,none⟩:=by simp[Addr.add_lit]
  rcases hhi with hh|⟨hh,hw⟩
  ·rw[hh,hvv,run_sliceAt_array_h w t _ ht' k i h0 (by rw[hlen];exact h1),hel,Bv hsz,hlen]
   show Result.ok (slicedAt _ _ _ _ _) w=_
   simp only[slicedAt,ha,ite_self,Nat.sub_zero]
  ·rw[hvv] at hw
   injection hw with hw1 hw2
   subst hw2
   rw[hh,run_sliceAt_array_all w t _ ht',hel,Bv hsz,hlen]
   show Result.ok (slicedAt _ _ _ _ _) w=_
   simp only[slicedAt,ha,ite_self,Nat.sub_zero,Int.toNat_natCast]
 unfold ev at he
 simp only[if_true] at he
 split at he
 ·rename_i h1 h2 h3;cases h1
 ·rename_i h1 h2 h3;cases h1
 ·rename_i o g off k1 hh k2 m hlo _ heq
  simp only[List.cons.injEq,and_true] at heq;obtain⟨rfl,rfl,rfl⟩:=heq
  obtain⟨h0,h1,hK⟩:=he
  obtain⟨hvv,_⟩:=Bl hy
  obtain⟨hm,_⟩:=Bl hz
  injection hm with _ hm
  subst hm
  cases hx with|ptr _ _ _ b hlt hβ =>
  exact CF h hK (key _ _ _ _ h0 h1 hvv) (.mref _ _ _ _ hlt (by rw[hβ];simp only[EH];rw[if_pos (by omega)];rfl) rfl)
 ·rename_i cs k1 hh k2 m hlo _ heq
  simp only[List.cons.injEq,and_true] at heq;obtain⟨rfl,rfl,rfl⟩:=heq
  obtain⟨h0,h1,h2,hK⟩:=he
  obtain⟨hvv,_⟩:=Bl hy
  obtain⟨hm,_⟩:=Bl hz
  injection hm with _ hm
  subst hm
  cases hx with|d _ _ hx =>
  cases hx with|ptr _ b off vs hb hne h1' hc hv' =>
  refine CF h hK (key _ _ _ _ h0 h1 hvv) (.d _ _ ?_)
  have hl:(cs.take hh.toNat).length=hh.toNat:=by rw[List.length_take];omega
  have hg:∀(i:Nat) (x:D),(cs.take hh.toNat)[i]?=some x->cs[i]?=some x:=fun i x hi=>by
   rw[List.getElem?_take] at hi
   split at hi
   ·exact hi
   ·cases hi
  have hcell:∀(i:Nat) (x:D) (j:Nat) (c:D),(cs.take hh.toNat)[i]?=some x->x.cells[j]?=some c->cs[i]?=some c/\j=0:=fun i x j c hi hj=>by
   have h3:=hg i x hi
   have h4:=h1' x (List.mem_of_getElem? h3)
   have h5:x.cells=[x]:=by cases x<;>first|rfl|simp[D.one] at h4
   rw[h5] at hj
   cases j with
   |zero=>simp at hj;subst hj;exact⟨h3,rfl⟩
   |succ j=>simp at hj
  conv=>arg 4;rw[←hl]
  refine .list _ 1 b off n (fun i _=>vs i) (by omega) (by unfold maxLen;omega) hb (by omega) (fun x hx=>?_) (fun x c hx hc'=>?_) (fun i x j c hi hj=>?_) (fun i x j c hi hj=>?_)
  ·have h4:=h1' x (List.mem_of_mem_take hx)
   cases x<;>first|rfl|simp[D.one] at h4
  ·have h4:=h1' x (List.mem_of_mem_take hx)
   have h5:x.cells=[x]:=by cases x<;>first|rfl|simp[D.one] at h4
   rw[h5] at hc';simp at hc';subst hc';exact h4
  ·obtain⟨h6,rfl⟩:=hcell i x j c hi hj
   rw[Nat.mul_one,Nat.add_zero];exact hc i c h6
  ·obtain⟨h6,_⟩:=hcell i x j c hi hj
   exact hv' i c h6
 ·rename_i cs off0 k1 hh k2 m hlo _ heq
  simp only[List.cons.injEq,and_true] at heq;obtain⟨rfl,rfl,rfl⟩:=heq
  obtain⟨h0,h1,h2,hK⟩:=he
  obtain⟨hvv,_⟩:=Bl hy
  obtain⟨hm,_⟩:=Bl hz
  injection hm with _ hm
  subst hm
  cases hx with|dptr _ _ b base vs hb hne h1' hc hv' =>
  refine CF h hK (key _ _ _ _ h0 h1 hvv) (.d _ _ ?_)
  have hl:((cs.drop off0).take hh.toNat).length=hh.toNat:=by rw[List.length_take,List.length_drop];omega
  have hg:∀(i:Nat) (x:D),((cs.drop off0).take hh.toNat)[i]?=some x->cs[off0+i]?=some x:=fun i x hi=>by
   rw[List.getElem?_take] at hi
   split at hi
   ·rw[List.getElem?_drop] at hi;exact hi
   ·cases hi
  have hcell:∀(i:Nat) (x:D) (j:Nat) (c:D),((cs.drop off0).take hh.toNat)[i]?=some x->x.cells[j]?=some c->cs[off0+i]?=some c/\j=0:=fun i x j c hi hj=>by
   have h3:=hg i x hi
   have h4:=h1' x (List.mem_of_getElem? h3)
   have h5:x.cells=[x]:=by cases x<;>first|rfl|simp[D.one] at h4
   rw[h5] at hj
   cases j with
   |zero=>simp at hj;subst hj;exact⟨h3,rfl⟩
   |succ j=>simp at hj
  conv=>arg 4;rw[←hl]
  refine .list _ 1 b (base+off0) n (fun i _=>vs (off0+i)) (by omega) (by unfold maxLen;omega) hb (by omega) (fun x hx=>?_) (fun x c hx hc'=>?_) (fun i x j c hi hj=>?_) (fun i x j c hi hj=>?_)
  ·have h4:=h1' x (List.mem_of_mem_drop (List.mem_of_mem_take hx))
   cases x<;>first|rfl|simp[D.one] at h4
  ·have h4:=h1' x (List.mem_of_mem_drop (List.mem_of_mem_take hx))
   have h5:x.cells=[x]:=by cases x<;>first|rfl|simp[D.one] at h4
   rw[h5] at hc';simp at hc';subst hc';exact h4
  ·obtain⟨h6,rfl⟩:=hcell i x j c hi hj
   rw[Nat.mul_one,Nat.add_zero,Nat.add_assoc];exact hc _ c h6
  ·obtain⟨h6,_⟩:=hcell i x j c hi hj
   exact hv' _ c h6
 ·rename_i heq
  simp at heq
 ·exact he.elim
end
end Go.Pw
end
