/- Part. -/
import Derived.WalkKit
set_option linter.all false
open Nat renaming lt_of_lt_of_le->aa,le_refl->ax,le_trans->ck,add_assoc->f0,mul_one->hU,add_mul->na,zero_le->ne,sub_zero->ox,add_zero->r3
open List renaming getElem?_eq_some_iff->ay,mem_of_getElem?->cp,replicate->cw,getElem?_toArray->c8,mem_of_mem_take->eb,getElem?_of_mem->hX,mem_of_mem_drop->hY,getElem?_cons_succ->i5,getElem?_eq_getElem->i7,getElem?_append_left->j0,getElem?_take->j4,getElem?_drop->kk,length->no,getElem?_append_right->pv,getElem?_cons_zero->ro,length_take->rz
open Array renaming getElem?_eq_some_iff->az,getD_eq_getD_getElem?->ea,getElem?_eq_getElem->et
open Bool renaming false_eq_true->la,and_eq_true->oy
open Int renaming le_refl->lb,tmod_nonneg->q7,le_of_lt->ra,not_lt->rb
section
namespace Go.Pw
def N7(k:IntKind)(n:Int):Prop:=k.min<=n/\n<=k.max
inductive D where
 |int (k:IntKind) (n:Int)
 |bool (b:Bool)
 |list (nil:Bool) (xs:List D)
 |agg (cs:List D)
 |ptr (cs:List D)
 |fn (f:FuncId) (cs:List D)
 |tup (xs:List D)
 |nilptr|nilmap|nilfn
 |junk
 |map (tys:Bool×List (Option IntKind)) (kvs:List (D×D))
 |bnd (f:FuncId) (cs:List D)
 deriving Inhabited
def D.cells:D->List D
 |.agg cs=>cs
 |d=>[d]
def D.one:D->Bool
 |.agg _|.tup _|.junk=>false
 |_=>true
abbrev LW:=Bool×List (Option IntKind)
def Dk:List (Option IntKind)->List D->Bool
 |[],[]=>true
 |some k::ts,.int k' _::cs=>decide (k=k') && Dk ts cs
 |none::ts,.bool _::cs=>Dk ts cs
 |_,_=>false
def D.isAgg:D->Bool|.agg _=>true|_=>false
def Jo(t:LW)(d:D):Bool:=d.isAgg == t.1 && Dk t.2 d.cells
def Zv(es:Array MapEntry)(cl:Nat):Prop:=(∀(i:Nat) e,es[i]?=some e->e.born<cl)/\∀(i j:Nat) e e',es[i]?=some e->es[j]?=some e'->i<j->e.born<e'.born
inductive Ar (w:World) (fb:Nat->Prop):D->Value->Prop
 |int (k n) (h:N7 k n):Ar w fb (.int k n) (.int k n)
 |bool (b):Ar w fb (.bool b) (.bool b)
 |nil:Ar w fb (.list true []) (.slice none 0 0)
 |empty (a cap) (hm:cap<=maxLen):Ar w fb (.list false []) (.slice (some a) 0 cap)
 |list (xs:List D) (es b off cap:Nat) (vs:Nat->Nat->Value) (hcap:xs.length<=cap) (hm:cap<=maxLen) (hb:¬fb b) (hes:0<es)
  (hs:∀x,x∈xs->x.cells.length=es) (h1:∀x c,x∈xs->c∈x.cells->c.one=true)
  (hc:∀(i:Nat) (x:D) (j:Nat) (c:D),xs[i]?=some x->x.cells[j]?=some c->w.cell? ⟨b,off+i*es+j,none⟩=some (vs i j))
  (hv:∀(i:Nat) (x:D) (j:Nat) (c:D),xs[i]?=some x->x.cells[j]?=some c->Ar w fb c (vs i j)) :
  Ar w fb (.list false xs) (.slice (some ⟨b,off,none⟩) xs.length cap)
 |agg (cs:List D) (vs:Array Value) (hl:vs.size=cs.length) (h1:∀c,c∈cs->c.one=true) (h:∀(i:Nat) (c:D) (v:Value),cs[i]?=some c->vs[i]?=some v->Ar w fb c v) :
  Ar w fb (.agg cs) (.agg vs)
 |ptr (cs:List D) (b off:Nat) (vs:Nat->Value) (hb:¬fb b) (hne:cs≠[]) (h1:∀c,c∈cs->c.one=true)
  (hc:∀(j:Nat) (c:D),cs[j]?=some c->w.cell? ⟨b,off+j,none⟩=some (vs j))
  (hv:∀(j:Nat) (c:D),cs[j]?=some c->Ar w fb c (vs j)) :
  Ar w fb (.ptr cs) (.pointer (some ⟨b,off,none⟩))
 |fn (f:FuncId) (cs:List D) (vs:Array Value) (hl:vs.size=cs.length) (h:∀(i:Nat) (c:D) (v:Value),cs[i]?=some c->vs[i]?=some v->Ar w fb c v) :
  Ar w fb (.fn f cs) (.func (.func f) #[] vs)
 |tup (cs:List D) (vs:Array Value) (hl:vs.size=cs.length) (h:∀(i:Nat) (c:D) (v:Value),cs[i]?=some c->vs[i]?=some v->Ar w fb c v) :
  Ar w fb (.tup cs) (.tuple vs)
 |nilptr:Ar w fb .nilptr (.pointer none)
 |nilmap:Ar w fb .nilmap (.map none)
 |nilfn:Ar w fb .nilfn .nilFunc
 |junk (v):Ar w fb .junk v
 |map (tys:LW) (kvs:List (D×D)) (b:Nat) (es:Array MapEntry) (cl:Nat) (hb:¬fb b) (hh:w.heap[b]?=some (.map es cl)) (hl:es.size=kvs.length) (hr:Zv es cl)
  (ht:∀kv,kv∈kvs->Jo tys kv.1=true)
  (hk:∀(i:Nat) (kv:D×D) (e:MapEntry),kvs[i]?=some kv->es[i]?=some e->Ar w fb kv.1 e.key)
  (hv:∀(i:Nat) (kv:D×D) (e:MapEntry),kvs[i]?=some kv->es[i]?=some e->Ar w fb kv.2 e.val):Ar w fb (.map tys kvs) (.map (some b))
 |bnd (f:FuncId) (cs:List D) (vs:Array Value) (hl:vs.size=cs.length) (h:∀(i:Nat) (c:D) (v:Value),cs[i]?=some c->vs[i]?=some v->Ar w fb c v) :
  Ar w fb (.bnd f cs) (.func (.func f) vs #[])
def Aq(fb:Nat->Prop)(w w':World):Prop:=∀b,¬fb b->b<w.heap.size->w'.heap[b]?=w.heap[b]?
theorem Aq.refl(fb:Nat->Prop)(w:World):Aq fb w w:=fun _ _ _=>rfl
theorem Aq.cell{fb:Nat->Prop}{w w':World}(h:Aq fb w w'){a:Addr}{v:Value}(hb:¬fb a.block)(hc:w.cell? a=some v):w'.cell? a=some v:=by
 rw[World.cell?_of_block (w:=w) (h a.block hb (World.block_lt_of_cell? w a hc))];exact hc
theorem CH{w:World}{b o:Nat}{v:Value}(hc:w.cell? ⟨b,o,none⟩=some v):b<w.heap.size:=World.block_lt_of_cell? w ⟨b,o,none⟩ hc
theorem Ar.mono{w w':World}{fb fb':Nat->Prop}(o:Aq fb w w')(q:∀b,b<w.heap.size->fb' b->fb b)
  {d:D}{v:Value}(h:Ar w fb d v):Ar w' fb' d v:=by
 induction h with
 |int k n h=>exact .int k n h
 |bool b=>exact .bool b
 |nil=>exact .nil
 |empty a cap hm=>exact .empty a cap hm
 |list xs es b off cap vs hcap hm hb hes hs h1 hc hv ih =>
  cases xs with
  |nil=>exact .empty _ _ hm
  |cons x xs =>
   have e:b<w.heap.size:=by
    have hx:=hs x (by simp);have p:∃c,x.cells[0]?=some c:=⟨_,i7 (by omega)⟩
    obtain⟨c,m⟩:=p;exact CH (hc 0 x 0 c (by simp) m)
   exact .list _ es b off cap vs hcap hm (fun hh=>hb (q b e hh)) hes hs h1 (fun i x j c h1 h2=>o.cell hb (hc i x j c h1 h2)) ih
 |agg cs vs hl h1 h ih=>exact .agg cs vs hl h1 ih
 |ptr cs b off vs hb hne h1 hc hv ih =>
  cases cs with
  |nil=>exact absurd rfl hne
  |cons x xs =>
   have e:b<w.heap.size:=CH (hc 0 x (by simp));exact .ptr _ b off vs (fun hh=>hb (q b e hh)) hne h1 (fun j c h1=>o.cell hb (hc j c h1)) ih
 |fn f cs vs hl h ih=>exact .fn f cs vs hl ih
 |tup cs vs hl h ih=>exact .tup cs vs hl ih
 |nilptr=>exact .nilptr
 |nilmap=>exact .nilmap
 |nilfn=>exact .nilfn
 |junk v=>exact .junk v
 |map tys kvs b es cl hb hh hl hr ht hk hv l r =>
  have e:b<w.heap.size:=(az.1 hh).1;exact .map tys kvs b es cl (fun h=>hb (q b e h)) ((o b hb e).trans hh) hl hr ht l r
 |bnd f cs vs hl h ih=>exact .bnd f cs vs hl ih
def D.prim:D->Bool
 |.int ..|.bool _|.nilptr|.nilmap|.nilfn|.junk=>true
 |_=>false
def D.flat1:D->Bool
 |.list true []=>true
 |.agg cs=>cs.all D.prim
 |d=>d.prim
def D.flat:D->Bool
 |.tup cs=>cs.all D.flat1
 |d=>d.flat1
theorem Uq{α:Type}{cs:List α}{p:α->Bool}(h:cs.all p=true){i:Nat}{c:α}(hc:cs[i]?=some c):p c=true:=by
 rw[List.all_eq_true]at h;exact h c (cp hc)
theorem Ar.of_prim{w w':World}{fb fb':Nat->Prop}{c:D}{v:Value}(hc:c.prim=true)(h:Ar w fb c v):Ar w' fb' c v:=by
 cases h<;>simp[D.prim]at hc
 ·exact .int _ _ (by assumption)
 ·exact .bool _
 ·exact .nilptr
 ·exact .nilmap
 ·exact .nilfn
 ·exact .junk _
theorem Ar.of_flat1{w w':World}{fb fb':Nat->Prop}{c:D}{v:Value}(hc:c.flat1=true)(h:Ar w fb c v):Ar w' fb' c v:=by
 cases h with
 |nil=>exact .nil
 |agg cs vs hl h1 h=>exact .agg cs vs hl h1 fun i c v h1 h2=>(h i c v h1 h2).of_prim (Uq (p:=D.prim) hc h1)
 |int k n h=>exact .int k n h
 |bool b=>exact .bool b
 |nilptr=>exact .nilptr
 |nilmap=>exact .nilmap
 |nilfn=>exact .nilfn
 |junk v=>exact .junk v
 |_=>simp[D.flat1,D.prim]at hc
theorem Ar.of_flat{w w':World}{fb fb':Nat->Prop}{d:D}{v:Value}(hd:d.flat=true)(h:Ar w fb d v):Ar w' fb' d v:=by
 cases h with
 |tup cs vs hl h=>exact .tup cs vs hl fun i c v h1 h2=>(h i c v h1 h2).of_flat1 (Uq (p:=D.flat1) hd h1)
 |nil=>exact .nil
 |agg cs vs hl h1 h=>exact Ar.of_flat1 (fb:=fb) (w:=w) hd (.agg cs vs hl h1 h)
 |int k n h=>exact .int k n h
 |bool b=>exact .bool b
 |nilptr=>exact .nilptr
 |nilmap=>exact .nilmap
 |nilfn=>exact .nilfn
 |junk v=>exact .junk v
 |_=>simp[D.flat,D.flat1,D.prim]at hd
def D.WF:D->Prop
 |.int k n=>N7 k n
 |.bool _|.nilptr|.nilmap|.nilfn|.junk=>True
 |.list _ xs=>xs.length<=maxLen/\∀x,x∈xs->WF x
 |.map _ _|.bnd _ _=>True
 |.agg cs|.ptr cs|.fn _ cs|.tup cs=>∀c,c∈cs->WF c
theorem D.wf_of_cells{x:D}(h:∀c,c∈x.cells->c.WF):x.WF:=by
 cases x with
 |agg cs=>simpa[D.WF,D.cells]using h
 |_=>exact h _ (by simp[D.cells])
theorem Ar.wf{w:World}{fb:Nat->Prop}{d:D}{v:Value}(h:Ar w fb d v):d.WF:=by
 have e:∀{cs:List D}{vs:Array Value}{i:Nat}{c:D},vs.size=cs.length->cs[i]?=some c->∃v,vs[i]?=some v:=by
  intro cs vs i c hl hc;have:i<cs.length:=(ay.1 hc).1;exact⟨_,et (by omega)⟩
 induction h with
 |int k n h=>simpa[D.WF]using h
 |list xs es b off cap vs hcap hm hb hes hs h1 hc hv ih =>
  rw[D.WF];refine⟨by omega,fun x hx=>D.wf_of_cells fun c l=>?_⟩;obtain⟨i,hi⟩:=hX hx;obtain⟨j,m⟩:=hX l;exact ih i x j c hi m
 |agg cs vs hl h1 h ih =>
  rw[D.WF];intro c hc;obtain⟨i,hi⟩:=hX hc;obtain⟨v,hv⟩:=e hl hi;exact ih i c v hi hv
 |ptr cs b off vs hb hne h1 hc hv ih =>
  rw[D.WF];intro c hc;obtain⟨i,hi⟩:=hX hc;exact ih i c hi
 |fn f cs vs hl h ih =>
  rw[D.WF];intro c hc;obtain⟨i,hi⟩:=hX hc;obtain⟨v,hv⟩:=e hl hi;exact ih i c v hi hv
 |tup cs vs hl h ih =>
  rw[D.WF];intro c hc;obtain⟨i,hi⟩:=hX hc;obtain⟨v,hv⟩:=e hl hi;exact ih i c v hi hv
 |_=>simp[D.WF,maxLen]
end Go.Pw
end
section
namespace Go.Pw
inductive MK where
 |out
 |row (j:Nat)
 |xp (i:Nat)
 |mp (j k:Nat)
 |bs (off n cap:Nat)
 |rs (a es:Nat)
 |rp (n:Nat)
 deriving Inhabited
inductive AV where
 |d (x:D)
 |ex (xs:List D)
 |agg (cs:List AV)
 |ptr (o g off:Nat)
 |rptr (o g es i off:Nat)
 |dptr (cs:List D) (off:Nat)
 |own (o g:Nat)
 |map (o g:Nat)
 |fn (f:FuncId) (cs:List AV)
 |tup (vs:List AV)
 |undef
 |bnd (f:FuncId) (cs:List AV)
 |mref (k:MK) (o g:Nat)
 |ablk (sl:Bool) (cs:List AV) (off:Nat)
 deriving Inhabited
structure Us where
 nx:Nat->List D->Nat->Prop
 fin:Nat->Prop
def Us.ofL(els:List (List D)):Us:=⟨fun n x m=>els[n]?=some x/\m=n+1,fun n=>n=els.length⟩
instance:Coe (List (List D)) Us:=⟨Us.ofL⟩
inductive AY where
 |cells (xs:List AV)
 |row (ety es:Nat) (nil:Bool) (xs:List D)
 |rowP (ety es:Nat) (P:Bool->List D->Prop)
 |rowH (ety:Nat) (xs:List D) (i q p:Nat)
 |map (tys:LW) (kvs:List (D×D))
 |mat (e1 e2:Nat) (nil:Bool) (ix:List Nat) (rows:List (Bool×List D))
 |mapB (tys:LW) (es:List (Nat×D×D)) (cl:Nat)
 |mitO (o g n:Nat) (seen:List Nat)
 |mitD (tys:LW) (kvs:List (D×D)) (seen:List Nat)
 |hist (els:Us) (n:Nat) (st:Bool)
def AY.isHist:AY->Bool
 |.hist ..=>true
 |_=>false
def CB{α:Type}(f:Nat->α)(i:Nat)(x:α):Nat->α:=fun j=>if j=i then x else f j
inductive Bs where
 |none
 |keep (o g:Nat) (x:AY)
 |fresh (o:Nat) (x:AY)
 |seq (a b:Bs)
structure AO where
 ob:Nat->Option (Nat×AY)
 cn:Nat->Nat
def AO.get(V:AO)(o g:Nat):Option AY :=
 match V.ob o with
 |some (g',x)=>if g=g' then some x else Option.none
 |Option.none=>Option.none
def AO.app(V:AO):Bs->AO
 |.none=>V
 |.keep o g x=>{ V with ob:=CB V.ob o (some (g,x)) }
 |.fresh o x=>{ ob:=CB V.ob o (some (V.cn o,x)),cn:=CB V.cn o (V.cn o+1) }
 |.seq a b=>(V.app a).app b
def Cr:Nat:=900000
def Jf(t:Nat):List Nat:=[t,t+10000,t+20000,t+30000]
inductive Jk where
 |t (n:Nat)
 |k (v:AV)
def JL(c:Bool)(A B:Prop):Prop:=(c=true->A)/\(c=false->B)
@[simp] theorem QK (A B:Prop):JL true A B=A:=by simp[JL]
@[simp] theorem Nw (A B:Prop):JL false A B=B:=by simp[JL]
def AV.cells?:AV->Option (List AV)
 |.agg cs=>some cs
 |.d (.agg cs)=>some (cs.map .d)
 |.d (.tup _)|.d .junk|.tup _|.undef=>none
 |v=>some [v]
def AV.toD0:AV->Option D
 |.d (.tup _)|.d .junk=>none
 |.d x=>some x
 |.ex xs=>some (.list false xs)
 |.dptr cs 0=>if cs=[]then none else some (.ptr cs)
 |_=>none
def Ax{α β:Type}(f:α->Option β):List α->Option (List β)
 |[]=>some []
 |x::xs=>match f x with
  |none=>none
  |some y=>match Ax f xs with
   |none=>none
   |some ys=>some (y::ys)
def AV.toD1:AV->Option D
 |.agg cs=>match Ax AV.toD0 cs with|some l=>some (.agg l)|none=>none
 |.fn f cs=>match Ax AV.toD0 cs with|some l=>some (.fn f l)|none=>none
 |.bnd f cs=>match Ax AV.toD0 cs with|some l=>some (.bnd f l)|none=>none
 |v=>v.toD0
def AV.snap0(V:AO):AV->Option D
 |.own o g=>match V.get o g with
  |some (.row _ _ nil xs)=>some (.list nil xs)
  |_=>none
 |.ptr o g 0=>match V.get o g with
  |some (.cells xs)=>match Ax AV.toD1 xs with|some (c::l)=>some (.ptr (c::l))|_=>none
  |_=>none
 |.mref (.bs off n cap) o g=>match V.get o g with
  |some (.cells xs)=>if n<=cap/\cap<=4096/\off+n<=xs.length then(match Ax AV.toD1 ((xs.drop off).take n)with|some l=>some (.list false l)|none=>none)else none
  |_=>none
 |.map o g=>match V.get o g with
  |some (.map tys kvs)=>some (.map tys kvs)
  |_=>none
 |v=>v.toD1
def AV.snap(V:AO):AV->Option D
 |.agg cs=>match Ax (AV.snap0 V) cs with|some l=>some (.agg l)|none=>none
 |.fn f cs=>match Ax (AV.snap0 V) cs with|some l=>some (.fn f l)|none=>none
 |.bnd f cs=>match Ax (AV.snap0 V) cs with|some l=>some (.bnd f l)|none=>none
 |v=>v.snap0 V
def AV.snapC(V:AO):AV->Option D
 |.own o g=>match V.get o g with
  |some (.row _ _ nil xs)=>some (.list nil xs)
  |_=>none
 |.map o g=>match V.get o g with
  |some (.map tys kvs)=>some (.map tys kvs)
  |_=>none
 |v=>v.toD1
def AV.snapN(V:AO):AV->Option D
 |.ptr o g 0=>match V.get o g with
  |some (.cells xs)=>match Ax (AV.snapC V) xs with|some (c::l)=>some (.ptr (c::l))|_=>none
  |_=>none
 |v=>v.snap V
def GM:D->D->Bool
 |.int k a,.int k' b=>decide (k=k') && decide (a=b)
 |.bool a,.bool b=>a == b
 |_,_=>false
def Fl:List D->List D->Bool
 |[],[]=>true
 |a::asq,b::bs=>GM a b && Fl asq bs
 |_,_=>false
def D2(a b:D):Bool:=Fl a.cells b.cells
def C0(k:D):List (D×D)->Option D
 |[]=>none
 |e::es=>if D2 k e.1 then some e.2 else C0 k es
def FH(k:D):List (D×D)->Option Nat
 |[]=>none
 |e::es=>if D2 k e.1 then some 0 else(FH k es).map (·+1)
def T0(k v:D):List (D×D)->List (D×D)
 |[]=>[(k,v)]
 |e::es=>if D2 k e.1 then(e.1,v)::es else e::T0 k v es
inductive Bx where
 |sub (es:Nat)
 |clr (zs:List D)
 |pre
 |cpy
 |mov|pick
 |bin (b:BinOp)
 |beq (neg:Bool)
 |eqv (neg:Bool) (tys:LW)
 |eqnil (neg:Bool)
 |un (u:UnOp)
 |conv (k:IntKind)
 |load (ag:Bool) (n:Nat)
 |store (n:Nat)
 |nilck
 |field (ag:Bool) (off n:Nat)
 |faddr (off:Nat)
 |iaddrS (es:Nat)
 |iaddrA (len es:Nat)
 |index (len es:Nat) (ag:Bool)
 |build (zero:List D) (places:List (Nat×Nat))
 |mkrow (es:Nat) (zero:D) (len:Nat) (at_:List Nat)
 |mkrowO (ety es:Nat) (zero:D) (len:Nat) (at_:List Nat)
 |mkfn (f:FuncId)
 |mkbnd (f:FuncId)
 |yld
 |box
 |zero (cs:List D)
 |mkmap (tys:LW)
 |mksl (ety es:Nat) (zero:D) (own:Bool)
 |slice (es:Nat) (lo hi max:Bool)
 |len (isMap:Bool)
 |cap
 |minmax (isMax:Bool)
 |extract (i:Nat)
 |lookup (ok:Bool) (tys:LW) (zero:D)
 |mapupd (tys:LW)
 |mapent (tys:LW) (zero:D)
 |entst
 |app (ety es:Nat) (zero:Option D) (own:Bool)
 |call (f:FuncId)
 |callv
 |delete (tys:LW)
 |mkmapB (tys:LW)
 |mrange
 |mentry
 |strx (s:ByteArray)
 deriving Inhabited
structure Fu where
 dst:Option Nat
 g:Option (Nat×Bool)
 op:Bx
 xs:List Jk
 deriving Inhabited
structure CW where
 P:Program
 G:Nat->Option (List D)
def mn(E:CW)(w:World)(fb:Nat->Prop):Prop:=∀g cs,E.G g=some cs->Ar w fb (.ptr cs) (.pointer (some ⟨g,0,none⟩))
open Go.RowKit in
def BU(E:CW)(f:FuncId)(ds:List D)(r:D):Prop :=
 ∀(w:World) (fb:Nat->Prop) (vs:Array Value),(∀b,fb b->b<w.heap.size)->mn E w fb->vs.size=ds.length ->
  (∀(i:Nat) (d:D) (v:Value),ds[i]?=some d->vs[i]?=some v->Ar w fb d v) ->
  Calls E.P f vs w fun e w'=>∃v,e=.returned v/\Below w.heap.size w w'/\Ar w' fb r v
def B3(w:World)(fb:Nat->Prop)(ety es:Nat)(nil:Bool)(xs:List D)(v:Value):Prop :=
 (nil=true/\xs=[]/\v=.slice none 0 0) \/
 (nil=false/\∃b off cap cur,v=.slice (some ⟨b,off,none⟩) xs.length cap/\w.heap[b]?=some (.cells cur ety (0,0)) /\
  xs.length<=cap/\cap<=maxLen/\off+cap*es<=cur.size/\0<es/\(∀x,x∈xs->x.cells.length=es)/\(∀x c,x∈xs->c∈x.cells->c.one=true) /\
  ∀(i:Nat) (x:D) (j:Nat) (c:D),xs[i]?=some x->x.cells[j]?=some c->∃u,cur[off+i*es+j]?=some u/\Ar w fb c u)
def A9:Value->Option Nat
 |.slice (some a) _ _=>some a.block
 |.pointer (some a)=>some a.block
 |.map (some b)=>some b
 |_=>none
def C4:Value->Nat->Prop
 |.tuple vs,b=>∃(i:Nat) (u:Value),vs[i]?=some u/\A9 u=some b
 |v,b=>A9 v=some b
def JS(x:Bool×List D):Bool:=x.1 || !x.2.isEmpty
def OT(rows:List (Bool×List D))(i:Nat):Prop:=∀x,((true,[])::rows)[i]?=some x->JS x=true
def Zo(ix:List Nat)(rows:List (Bool×List D)):Bool:=ix.all fun j=>JS (rows[j]?.getD (true,[]))
def Zw(w:World)(fb:Nat->Prop)(e1 e2:Nat)(nil:Bool)(ix:List Nat)(rows:List (Bool×List D))(v:Value):Prop :=
 ∃(v0:Value) (vs:List Value),v=.tuple (v0::vs).toArray/\vs.length=rows.length /\
  ((
   nil=true/\ix=[]/\v0=.slice none 0 0)\/(nil=false/\∃b off cap cur,v0=.slice (some ⟨b,off,none⟩) ix.length cap/\w.heap[b]?=some (.cells cur e1 (0,0)) /\
   ix.length<=cap/\cap<=maxLen/\off+cap<=cur.size/\∀(p j:Nat),ix[p]?=some j->∃u,vs[j]?=some u/\cur[off+p]?=some u)) /\
  (∀(j:Nat) (x:Bool×List D) (u:Value),rows[j]?=some x->vs[j]?=some u->u.oneCell'=true/\(JS x=true->B3 w fb e2 1 x.1 x.2 u)) /\
  ∀(i j:Nat) (u u':Value) (b:Nat),(v0::vs)[i]?=some u->(v0::vs)[j]?=some u'->OT rows i->OT rows j->A9 u=some b->A9 u'=some b->i=j
def VC(i:Nat):Value->Option Value
 |.slice (some ⟨b,b0,none⟩) _ _=>some (.pointer (some ⟨b,b0+i,none⟩))
 |_=>none
def Ei:MK->Value->Option Value
 |.out,.tuple vs=>vs[0]?
 |.row j,.tuple vs=>vs[j+1]?
 |.xp i,.tuple vs=>vs[0]?.bind (VC i)
 |.mp j k,.tuple vs=>vs[j+1]?.bind (VC k)
 |.bs off n cap,.pointer (some ⟨b,0,none⟩)=>if n<=4096 then some (.slice (some ⟨b,off,none⟩) n cap)else none
 |_,_=>none
def Mw(ix:List Nat)(rows:List (Bool×List D)):List D:=ix.map fun j=>.list (rows[j]?.getD (false,[])).1 (rows[j]?.getD (false,[])).2
def wZ(sl:Bool)(n off b base:Nat):Value:=if sl then .slice (some ⟨b,base,none⟩) n n else .pointer (some ⟨b,base+off,none⟩)
open Go.RowKit in
def gq(E:CW)(f:FuncId)(ds:List D)(ety es:Nat)(P:Bool->List D->Prop):Prop :=
 ∀(w:World) (fb:Nat->Prop) (vs:Array Value),(∀b,fb b->b<w.heap.size)->mn E w fb->vs.size=ds.length ->
  (∀(i:Nat) (d:D) (v:Value),ds[i]?=some d->vs[i]?=some v->Ar w fb d v) ->
  Calls E.P f vs w fun e w'=>∃v,e=.returned v/\Below w.heap.size w w'/\(∀b,C4 v b->w.heap.size<=b) /\
   ∃nl l,P nl l/\B3 w' (fun b=>fb b\/C4 v b) ety es nl l v
def mf(E:CW)(f:FuncId)(ds:List D)(ety es:Nat)(nil:Bool)(xs:List D):Prop:=gq E f ds ety es fun a b=>a=nil/\b=xs
def ABS(x:AY)(ety es:Nat)(P:Bool->List D->Prop):Prop:=x=.rowP ety es P\/∃nl l,x=.row ety es nl l/\∀a b,P a b->a=nl/\b=l
def MA(l:List D):Bool:=l.all fun x=>x.cells.all D.prim
def AV.one:AV->Bool
 |.agg _|.tup _|.undef=>false
 |.d x=>x.one
 |_=>true
inductive AP (w:World) (fb:Nat->Prop) (β:Nat->Nat->Value) (cn:Nat->Nat):AV->Value->Prop
 |d (x v) (h:Ar w fb x v):AP w fb β cn (.d x) v
 |ex (xs:List D) (a:Addr) (h:Ar w fb (.list false xs) (.slice (some a) xs.length xs.length)):AP w fb β cn (.ex xs) (.slice (some a) xs.length xs.length)
 |agg (cs:List AV) (vs:Array Value) (hl:vs.size=cs.length) (h1:∀c,c∈cs->c.one=true)
  (h:∀(i:Nat) (c:AV) (v:Value),cs[i]?=some c->vs[i]?=some v->AP w fb β cn c v):AP w fb β cn (.agg cs) (.agg vs)
 |ptr (o g off b:Nat) (hg:g<cn o) (h:β o g=.pointer (some ⟨b,0,none⟩)):AP w fb β cn (.ptr o g off) (.pointer (some ⟨b,off,none⟩))
 |rptr (o g es i off b b0 n cap:Nat) (hg:g<cn o) (h:β o g=.slice (some ⟨b,b0,none⟩) n cap) :
  AP w fb β cn (.rptr o g es i off) (.pointer (some ⟨b,b0+i*es+off,none⟩))
 |dptr (cs:List D) (off b base:Nat) (vs:Nat->Value) (hb:¬fb b) (hne:cs≠[]) (h1:∀c,c∈cs->c.one=true)
  (hc:∀(j:Nat) (c:D),cs[j]?=some c->w.cell? ⟨b,base+j,none⟩=some (vs j))
  (hv:∀(j:Nat) (c:D),cs[j]?=some c->Ar w fb c (vs j)):AP w fb β cn (.dptr cs off) (.pointer (some ⟨b,base+off,none⟩))
 |own (o g:Nat) (hg:g<cn o) (h1:(β o g).oneCell'=true):AP w fb β cn (.own o g) (β o g)
 |map (o g:Nat) (hg:g<cn o) (h1:(β o g).oneCell'=true):AP w fb β cn (.map o g) (β o g)
 |fn (f:FuncId) (cs:List AV) (vs:Array Value) (hl:vs.size=cs.length)
  (h:∀(i:Nat) (c:AV) (v:Value),cs[i]?=some c->vs[i]?=some v->AP w fb β cn c v):AP w fb β cn (.fn f cs) (.func (.func f) #[] vs)
 |tup (cs:List AV) (vs:Array Value) (hl:vs.size=cs.length)
  (h:∀(i:Nat) (c:AV) (v:Value),cs[i]?=some c->vs[i]?=some v->AP w fb β cn c v):AP w fb β cn (.tup cs) (.tuple vs)
 |undef (v):AP w fb β cn .undef v
 |bnd (f:FuncId) (cs:List AV) (vs:Array Value) (hl:vs.size=cs.length)
  (h:∀(i:Nat) (c:AV) (v:Value),cs[i]?=some c->vs[i]?=some v->AP w fb β cn c v):AP w fb β cn (.bnd f cs) (.func (.func f) vs #[])
 |mref (k:MK) (o g:Nat) (u:Value) (hg:g<cn o) (h:Ei k (β o g)=some u) (h1:u.oneCell'=true):AP w fb β cn (.mref k o g) u
 |ablk (sl:Bool) (cs:List AV) (off b base:Nat) (vs:Nat->Value) (u:Value) (hb:¬fb b) (hne:cs≠[]) (h1:∀c,c∈cs->c.one=true)
  (hc:∀(j:Nat) (c:AV),cs[j]?=some c->w.cell? ⟨b,base+j,none⟩=some (vs j))
  (hv:∀(j:Nat) (c:AV),cs[j]?=some c->AP w fb β cn c (vs j)) (hu:u=wZ sl cs.length off b base):AP w fb β cn (.ablk sl cs off) u
inductive Ef (w:World) (fb:Nat->Prop) (β:Nat->Nat->Value) (cn:Nat->Nat):AY->Value->Prop
 |cells (xs:List AV) (b:Nat) (cur:Array Value) (e:TypeId) (hb:w.heap[b]?=some (.cells cur e (0,0))) (hl:cur.size=xs.length)
  (h1:∀x,x∈xs->x.one=true) (h:∀(i:Nat) (x:AV) (u:Value),xs[i]?=some x->cur[i]?=some u->AP w fb β cn x u) :
  Ef w fb β cn (.cells xs) (.pointer (some ⟨b,0,none⟩))
 |row (ety es nil xs v) (h:B3 w fb ety es nil xs v):Ef w fb β cn (.row ety es nil xs) v
 |rowP (ety es P nl xs v) (hp:P nl xs) (h:B3 w fb ety es nl xs v):Ef w fb β cn (.rowP ety es P) v
 |mat (e1 e2 nil ix rows v) (h:Zw w fb e1 e2 nil ix rows v):Ef w fb β cn (.mat e1 e2 nil ix rows) v
 |map (tys:LW) (kvs:List (D×D)) (b:Nat) (es:Array MapEntry) (hb:w.heap[b]?=some (.map es kvs.length)) (hl:es.size=kvs.length)
  (h:∀(i:Nat) (kv:D×D) (e:MapEntry),kvs[i]?=some kv->es[i]?=some e->Jo tys kv.1=true/\Ar w fb kv.1 e.key/\Ar w fb kv.2 e.val/\e.born=i) :
  Ef w fb β cn (.map tys kvs) (.map (some b))
 |mitD (tys:LW) (kvs:List (D×D)) (seen:List Nat) (b m:Nat) (es:Array MapEntry) (cl:Nat) (sn:List Nat) (hm:¬fb m) (hh:w.heap[m]?=some (.map es cl)) (hl:es.size=kvs.length) (hr:Zv es cl)
  (hb:w.heap[b]?=some (.mapIter (some m) cl sn.toArray cl)) (hs:sn.length=seen.length) (hsn:∀(q i:Nat),seen[q]?=some i->∃e,es[i]?=some e/\sn[q]?=some e.born)
  (h:∀(i:Nat) (kv:D×D) (e:MapEntry),kvs[i]?=some kv->es[i]?=some e->Ar w fb kv.1 e.key/\Ar w fb kv.2 e.val) :
  Ef w fb β cn (.mitD tys kvs seen) (.pointer (some ⟨b,0,none⟩))
 |hist (els n st l):Ef w fb β cn (.hist els n st) (.func (.yield l) #[] #[])
def Fy(β:Nat->Nat->Value)(V:List (Nat×Nat×AY))(b:Nat):Prop:=∃o g x,(o,g,x)∈V/\C4 (β o g) b
structure At (w:World) (fb:Nat->Prop) (β:Nat->Nat->Value) (cn:Nat->Nat) (V:List (Nat×Nat×AY)):Prop where
 objs:∀o g x,(o,g,x)∈V->g<cn o/\Ef w (fun b=>fb b\/Fy β V b) β cn x (β o g)
 sep:∀o g x o' g' x' b,(o,g,x)∈V->(o',g',x')∈V->C4 (β o g) b->C4 (β o' g') b->o=o'/\g=g'
 home:∀o g x b,(o,g,x)∈V->C4 (β o g) b->b<w.heap.size/\¬fb b
open Go.RowKit in
def Eg(E:CW)(f:FuncId)(V0:List (Nat×Nat×AY))(xs:List AV)(V1:List (Nat×Nat×AY))(r:AV):Prop :=
 ∀(w:World) (fb:Nat->Prop) (β:Nat->Nat->Value) (vs:Array Value),(∀b,fb b->b<w.heap.size)->mn E w (fun b=>fb b\/Fy β V0 b) ->
  At w fb β (fun _=>1) V0->vs.size=xs.length ->
  (∀(i:Nat) (x:AV) (v:Value),xs[i]?=some x->vs[i]?=some v->AP w (fun b=>fb b\/Fy β V0 b) β (fun _=>1) x v) ->
  Calls E.P f vs w fun e w'=>∃v β1 cn1,e=.returned v/\w'.os=w.os/\w'.tape=w.tape/\w'.output=w.output/\w.heap.size<=w'.heap.size /\
   (∀k,k<w.heap.size->¬Fy β V0 k->w'.heap[k]?=w.heap[k]?)/\At w' fb β1 cn1 V1 /\
   (∀o g x,(o,g,x)∈V0->Cr<=o->(∃x',(o,g,x')∈V1)/\β1 o g=β o g) /\
   (∀o g x b,(o,g,x)∈V1->C4 (β1 o g) b->w.heap.size<=b\/Fy β V0 b) /\
   AP w' (fun b=>fb b\/Fy β1 V1 b) β1 cn1 r v
abbrev Ren:=List ((Nat×Nat)×(Nat×Nat))
def Ren.get:Ren->Nat->Nat->Option (Nat×Nat)
 |[],_,_=>none
 |(p,q)::l,o,g=>if o=p.1/\g=p.2 then some q else Ren.get l o g
def AV.ren(ρ:Ren):AV->Option AV
 |.ptr o g off=>match ρ.get o g with|some q=>some (.ptr q.1 q.2 off)|none=>none
 |.rptr o g es i off=>match ρ.get o g with|some q=>some (.rptr q.1 q.2 es i off)|none=>none
 |.own o g=>match ρ.get o g with|some q=>some (.own q.1 q.2)|none=>none
 |.map o g=>match ρ.get o g with|some q=>some (.map q.1 q.2)|none=>none
 |.agg cs=>match renL ρ cs with|some l=>some (.agg l)|none=>none
 |.fn f cs=>match renL ρ cs with|some l=>some (.fn f l)|none=>none
 |.tup cs=>match renL ρ cs with|some l=>some (.tup l)|none=>none
 |.bnd ..=>none
 |.mref k o g=>match ρ.get o g with|some q=>some (.mref k q.1 q.2)|none=>none
 |.ablk sl cs off=>match renL ρ cs with|some l=>some (.ablk sl l off)|none=>none
 |v=>some v
where
 renL (ρ:Ren):List AV->Option (List AV)
  |[]=>some []
  |x::xs=>match x.ren ρ with
   |none=>none
   |some y=>match renL ρ xs with
    |none=>none
    |some ys=>some (y::ys)
def AY.ren(ρ:Ren):AY->Option AY
 |.cells xs=>match AV.ren.renL ρ xs with|some l=>some (.cells l)|none=>none
 |.hist ..=>none
 |.rowP ..=>none
 |.rowH ..=>none
 |.mitO ..=>none
 |.mitD ..=>none
 |x=>some x
def AV.sites:AV->List Nat
 |.own o _|.map o _|.ptr o _ _|.rptr o _ _ _ _|.mref _ o _=>[o]
 |.ablk _ cs _=>sitesL cs
 |.agg cs=>sitesL cs
 |.fn _ cs=>sitesL cs
 |.bnd _ cs=>sitesL cs
 |.tup cs=>sitesL cs
 |_=>[]
where
 sitesL:List AV->List Nat
  |[]=>[]
  |x::xs=>x.sites++sitesL xs
def AO.osites(V:AO)(o:Nat):List Nat:=match V.ob o with
 |some (_,.cells xs)=>AV.sites.sitesL xs
 |some (_,.rowH _ _ _ q _)=>[q]
 |some (_,.mitO q _ _ _)=>[q]
 |_=>[]
def AO.reach(V:AO):Nat->List Nat->List Nat
 |0,l=>l
 |n+1,l=>l++V.reach n (l.flatMap V.osites)
def Cn(dst:Option Nat)(V:AO)(xs:List AV):List Nat:=(match dst with|some t=>Jf t|none=>[])++V.reach 3 (AV.sites.sitesL xs)
def wh(ρ:Ren):AV->AV->Prop
 |.d z,x=>x.toD1=some z
 |y,x=>y.ren ρ=some x
def PT(ρ:Ren):List AV->List AV->Prop
 |[],[]=>True
 |y::ys,x::xs=>wh ρ y x/\PT ρ ys xs
 |_,_=>False
def Handed(V:AO)(F:List Nat)(ρ:Ren):List (Nat×Nat×AY)->Prop
 |[]=>True
 |(o,g,x)::l=>(match ρ.get o g,x.ren ρ with
  |some q,some y=>V.get q.1 q.2=some y/\F.contains q.1=true
  |_,_=>False)/\Handed V F ρ l
def HO(ρ ρ2:Ren):List (Nat×Nat×AY)->Option Bs
 |[]=>some .none
 |(o,g,x)::l=>match ρ2.get o g,x.ren ρ2,HO ρ ρ2 l with
  |some q,some y,some c=>some (.seq (match ρ.get o g with|some _=>.keep q.1 q.2 y|none=>.fresh q.1 y) c)
  |_,_,_=>none
def Fh(V:List (Nat×Nat×AY))(o g:Nat):Bool:=V.any fun p=>p.1 == o && p.2.1 == g
def CG:List Nat->Bool
 |[]=>true
 |x::l=>!l.contains x && CG l
def Zj(ρ2:Ren)(o:Nat):Bool:=ρ2.any fun e=>match ρ2.get e.1.1 e.1.2 with|some q=>q.1 == o|none=>false
def Ug(ρ:Ren)(o:Nat):Bool:=ρ.any fun e=>decide (e.1.1<Cr) && (match ρ.get e.1.1 e.1.2 with|some q=>q.1 == o|none=>false)
def ET(cn:Nat->Nat)(dst:Option Nat)(V0 V1:List (Nat×Nat×AY))(ρ ρ2:Ren):Bool :=
 (ρ.all fun e=>e.1.2 == 0 && Fh V0 e.1.1 e.1.2 && (match ρ2.get e.1.1 e.1.2 with
  |some q=>decide (Cr<=e.1.1) && (q.1 == e.2.1 && q.2 == e.2.2)
  |none=>decide (e.1.1<Cr) && Zj ρ2 e.2.1)) &&
 (ρ2.all fun e=>Fh V1 e.1.1 e.1.2 && (match ρ.get e.1.1 e.1.2 with
  |some _=>true
  |none=>decide (e.2.1<Cr) && e.2.2 == cn e.2.1 && ((match dst with|some t=>(Jf t).contains e.2.1|none=>false) || Ug ρ e.2.1))) &&
 CG (ρ.map fun e=>e.2.1) && CG (ρ2.map fun e=>e.2.1) && CG (V1.map (·.1))
def Ah(op:BinOp)(k:IntKind)(x y:Int):Int :=
 match op with
 |.and=>k.wrap ((BitVec.ofInt k.bits x &&& BitVec.ofInt k.bits y).toNat:Int)
 |.or=>k.wrap ((BitVec.ofInt k.bits x ||| BitVec.ofInt k.bits y).toNat:Int)
 |.xor=>k.wrap ((BitVec.ofInt k.bits x ^^^ BitVec.ofInt k.bits y).toNat:Int)
 |_=>k.wrap ((BitVec.ofInt k.bits x &&& ~~~(BitVec.ofInt k.bits y)).toNat:Int)
def Dn(op:BinOp)(k k':IntKind)(a b:Int)(K:AV->Prop):Prop :=
 match op with
 |.add=>k=k'/\K (.d (.int k (k.wrap (a+b))))
 |.sub=>k=k'/\K (.d (.int k (k.wrap (a-b))))
 |.mul=>k=k'/\K (.d (.int k (k.wrap (a*b))))
 |.quo=>k=k'/\b≠0/\K (.d (.int k (k.wrap (a.tdiv b))))
 |.rem=>k=k'/\b≠0/\K (.d (.int k (a.tmod b)))
 |.shl=>0<=b/\K (.d (.int k (k.wrap (a*2^(min b.toNat k.bits)))))
 |.shr=>0<=b/\K (.d (.int k (a.fdiv (2^(min b.toNat k.bits)))))
 |.and|.or|.xor|.andNot=>k=k'/\K (.d (.int k (Ah op k a b)))
 |.eql=>k=k'/\K (.d (.bool (decide (a=b))))
 |.neq=>k=k'/\K (.d (.bool (!decide (a=b))))
 |.lss=>k=k'/\K (.d (.bool (decide (a<b))))
 |.leq=>k=k'/\K (.d (.bool (decide (a<=b))))
 |.gtr=>k=k'/\K (.d (.bool (decide (b<a))))
 |.geq=>k=k'/\K (.d (.bool (decide (b<=a))))
def Cc(es:Nat)(l:List D):Prop:=∀x,x∈l->x.cells.length=es
def DI{α:Type}(ag:Bool)(n:Nat)(cs:List α)(off:Nat)(mk:List α->AV)(one:α->AV)(K:AV->Prop):Prop :=
 if ag then off+n<=cs.length/\K (mk ((cs.drop off).take n))
 else match cs[off]? with
  |some v=>K (one v)
  |none=>False
def BX{α:Type}(cs:List α)(off:Nat)(vs:List α):List α:=cs.take off++vs++cs.drop (off+vs.length)
def PO:List AV->List ((Nat×Nat)×AV)->Option (List AV)
 |cs,[]=>some cs
 |cs,((off,size),v)::rest =>
  match v.cells? with
  |none=>none
  |some vs=>if vs.length=size/\off+size<=cs.length then PO (BX cs off vs) rest else none
def Ga(es:Nat):List D->List (Nat×AV)->Option (List D)
 |xs,[]=>some xs
 |xs,(i,v)::rest =>
  match v.toD1 with
  |none=>none
  |some x=>if x.cells.length=es/\i<xs.length then Ga es (xs.set i x) rest else none
def Ch:Nat:=1073741824
def AV.asList(V:AO):AV->Option (Bool×List D)
 |.d (.list nil xs)=>some (nil,xs)
 |.ex xs=>some (false,xs)
 |.own o g=>match V.get o g with
  |some (.row _ _ nil xs)=>some (nil,xs)
  |_=>none
 |.mref .out o g=>match V.get o g with
  |some (.mat _ _ nil ix rows)=>if Zo ix rows then some (nil,Mw ix rows)else none
  |_=>none
 |.mref (.row j) o g=>match V.get o g with
  |some (.mat _ _ _ _ rows)=>rows[j]?.filter JS
  |_=>none
 |_=>none
def AV.lenL(V:AO):AV->Option Nat
 |.mref (.bs _ n _) _ _=>some n
 |.mref .out o g=>match V.get o g with
  |some (.mat _ _ _ ix _)=>some ix.length
  |_=>none
 |x=>match x.asList V with
  |some (_,l)=>some l.length
  |none=>none
def Dq(V:AO)(zero:Option D)(y:AV):Option (List D) :=
 match zero with
 |none=>match y with
  |.mref .out _ _=>none
  |_=>match y.asList V with|some (_,ys)=>some ys|none=>none
 |some z=>match y with
  |.d (.int .i64 n)=>if 0<=n/\n<=(Ch:Int)then some (cw n.toNat z)else none
  |_=>none
def Pt(lo hi:Bool)(len:Nat)(rest:List AV)(C:Nat->Nat->Prop):Prop :=
 if lo then
  (if hi then(match rest with|[.d (.int _ l),.d (.int _ h)]=>0<=l/\l<=h/\h<=len/\C l.toNat h.toNat|_=>False)
  else(match rest with|[.d (.int _ l)]=>0<=l/\l<=len/\C l.toNat len|_=>False))
 else
  (if hi then(match rest with|[.d (.int _ h)]=>0<=h/\h<=len/\C 0 h.toNat|_=>False)
  else(match rest with|[]=>C 0 len|_=>False))
def uS(a b:Int):Int:=if b<a then b else a
def uT(a b:Int):Int:=if b>a then b else a
def Gv(isMax:Bool)(k:IntKind)(a:Int):List AV->Option Int
 |[]=>some a
 |.d (.int k' b)::rest=>if k=k' then Gv isMax k (if isMax then uT a b else uS a b) rest else none
 |_=>none
def WL(V:AO)(xs:List AV):Option (List D):=Ax (AV.snapN V) xs
def FJ(xs:List AV):Option (List D):=Ax AV.toD1 xs
def up:D->AV
 |.tup xs=>.tup (xs.map .d)
 |x=>.d x
def ABJ(o g:Nat)(nl:Bool)(l:List D):AV->Option D
 |.own o' g'=>if o'=o/\g'=g then some (.list nl l)else none
 |x=>x.toD1
def DW(E:CW)(dst:Option Nat)(V:AO)(f:FuncId)(xs:List AV)(K:AV->Bs->Prop):Prop :=
 (∃ds r,FJ xs=some ds/\BU E f ds r/\K (up r) .none) \/
 (∃ds r,WL V xs=some ds/\BU E f ds r/\r.flat=true/\K (up r) .none) \/
 (∃ds t ety es P x,dst=some t/\t<Cr/\(FJ xs=some ds\/(WL V xs=some ds/\∀nl l,P nl l->MA l=true))/\gq E f ds ety es P/\ABS x ety es P/\K (.own t (V.cn t)) (.fresh t x)) \/
 (∃V0 cxs V1 r r' ch,∃ρ ρ2:Ren,PT ρ cxs xs/\Eg E f V0 cxs V1 r/\Handed V (Cn dst V xs) ρ V0/\ET V.cn dst V0 V1 ρ ρ2=true /\
  r.ren ρ2=some r'/\HO ρ ρ2 V1=some ch/\K r' ch) \/
 (∃o g ety es nl l ds r,V.get o g=some (.row ety es nl l)/\o<Cr/\(Cn dst V xs).contains o=true/\Ax (ABJ o g nl l) xs=some ds/\BU E f ds r/\K (up r) (.fresh o (.row ety es true [])))
def BA(P:Program)(f:FuncId):Bool :=
 match P.funcs[f]? with
 |some fn=>fn.body.isSome && fn.name != "runtime.NumGoroutine"
 |none=>false
def ev(E:CW)(dst:Option Nat)(V:AO)(op:Bx)(xs:List AV)(K:AV->Bs->Prop):Prop :=
 match op with
 |.sub _|.pre|.cpy|.clr _|.beq _|.field ..|.index ..|.mkmapB _|.delete _=>False
 |.mov=>match xs with
  |[x]=>K x .none
  |_=>False
 |.pick=>match xs with
  |[.d (.bool c),a,b]=>JL c (K a .none) (K b .none)
  |_=>False
 |.bin b=>match xs with
  |[.d (.int k x),.d (.int k' y)]=>Dn b k k' x y (K · .none)
  |_=>False
 |.eqv neg tys=>match xs with
  |[x,y]=>match x.toD1,y.toD1 with
   |some a,some b=>Jo tys a=true/\Jo tys b=true/\K (.d (.bool (if neg then !D2 a b else D2 a b))) .none
   |_,_=>False
  |_=>False
 |.eqnil neg=>match xs with
  |[x,.d (.list true [])]=>match x.asList V with
   |some (nil,_)=>K (.d (.bool (if neg then !nil else nil))) .none
   |none=>False
  |_=>False
 |.un u=>match u,xs with
  |.not,[.d (.bool b)]=>K (.d (.bool (!b))) .none
  |.neg,[.d (.int k n)]=>K (.d (.int k (k.wrap (0-n)))) .none
  |.xor,[.d (.int k n)]=>K (.d (.int k (Ah .xor k (if k.signed then -1 else k.max) n))) .none
  |_,_=>False
 |.conv k=>match xs with
  |[.d (.int _ n)]=>K (.d (.int k (k.wrap n))) .none
  |_=>False
 |.load ag n=>match xs with
  |[.ptr o g off]=>match V.get o g with
   |some (.cells cs)=>DI ag n cs off .agg id (K · .none)
   |_=>False
  |[.rptr o g es i off]=>match V.get o g with
   |some (.row _ es' _ l)=>es=es'/\(match l[i]? with
    |some x=>DI ag n x.cells off (fun cs=>.d (.agg cs)) .d (K · .none)
    |none=>False)
   |_=>False
  |[.dptr cs off]=>DI ag n cs off (fun cs=>.d (.agg cs)) .d (K · .none)
  |[.d (.ptr cs)]=>DI ag n cs 0 (fun cs=>.d (.agg cs)) .d (K · .none)
  |[.mref (.xp i) o g]=>match V.get o g with
   |some (.mat _ _ _ ix _)=>(match ix[i]? with
    |some j=>DI ag n [.mref (.row j) o g] 0 .agg id (K · .none)
    |none=>False)
   |_=>False
  |[.mref (.mp j k) o g]=>match V.get o g with
   |some (.mat _ _ _ _ rows)=>(match rows[j]? with
    |some x=>(match x.2[k]? with
      |some y=>DI ag n y.cells 0 (fun cs=>.d (.agg cs)) .d (K · .none)
      |none=>False)
    |none=>False)
   |_=>False
  |[.ablk false cs off]=>DI ag n cs off .agg id (K · .none)
  |_=>False
 |.store n=>match xs with
  |[.ptr o g off,v]=>match V.get o g,v.cells? with
   |some (.cells cs),some vs=>vs.length=n/\off+n<=cs.length/\K .undef (.keep o g (.cells (BX cs off vs)))
   |_,_=>False
  |[.rptr o g es0 i off,v]=>match V.get o g,v.toD1 with
   |some (.row ety es nil l),some y=>es0=es/\(match l[i]? with
    |some x=>y.cells.length=n/\off+n<=x.cells.length/\(n=es\/1<x.cells.length) /\
       K .undef (.keep o g (.row ety es nil (l.set i (if n=es then y else .agg (BX x.cells off y.cells)))))
    |none=>False)
   |_,_=>False
  |[.mref (.xp i) o g,.mref (.row j) o' g']=>match V.get o g with
   |some (.mat e1 e2 nil ix rows)=>n=1/\o'=o/\g'=g/\i<ix.length/\j<rows.length/\K .undef (.keep o g (.mat e1 e2 nil (ix.set i j) rows))
   |_=>False
  |[.mref (.xp i) o g,.own q p]=>match V.get o g,V.get q p with
   |some (.mat e1 e2 nil ix rows),some (.row e2' es2 nl2 l2)=>n=1/\o<Cr/\q<Cr/\o≠q/\es2=1/\e2'=e2/\i<ix.length /\
      K .undef (.seq (.keep o g (.mat e1 e2 nil (ix.set i rows.length) (rows++[(nl2,l2)]))) (.fresh q (.row e2 1 true [])))
   |_,_=>False
  |[.mref (.mp j k) o g,v]=>match V.get o g,v.toD1 with
   |some (.mat e1 e2 nil ix rows),some y=>(match rows[j]? with
    |some x=>n=1/\y.cells.length=1/\k<x.2.length/\K .undef (.keep o g (.mat e1 e2 nil ix (rows.set j (x.1,x.2.set k y))))
    |none=>False)
   |_,_=>False
  |_=>False
 |.nilck=>match xs with
  |[.mref (.xp i) o g]=>K (.mref (.xp i) o g) .none
  |[.mref (.mp j k) o g]=>K (.mref (.mp j k) o g) .none
  |[.ablk false cs off]=>K (.ablk false cs off) .none
  |[.ptr o g off]=>K (.ptr o g off) .none
  |[.rptr o g es i off]=>K (.rptr o g es i off) .none
  |[.dptr cs off]=>K (.dptr cs off) .none
  |[.d (.ptr cs)]=>K (.d (.ptr cs)) .none
  |_=>False
 |.faddr off=>match xs with
  |[.ptr o g a]=>K (.ptr o g (a+off)) .none
  |[.rptr o g es i a]=>K (.rptr o g es i (a+off)) .none
  |[.dptr cs a]=>K (.dptr cs (a+off)) .none
  |[.d (.ptr cs)]=>K (.dptr cs off) .none
  |[.ablk false cs a]=>K (.ablk false cs (a+off)) .none
  |_=>False
 |.iaddrS es=>match xs with
  |[.own o g,.d (.int _ i)]=>match V.get o g with
   |some (.row _ es' _ l)=>es=es'/\0<=i/\i<l.length/\K (.rptr o g es i.toNat 0) .none
   |_=>False
  |[.d (.list _ l),.d (.int _ i)]=>0<=i/\i<l.length/\(match l[i.toNat]? with|some x=>x.cells.length=es/\K (.dptr x.cells 0) .none|none=>False)
  |[.ex l,.d (.int _ i)]=>0<=i/\i<l.length/\(match l[i.toNat]? with|some x=>x.cells.length=es/\K (.dptr x.cells 0) .none|none=>False)
  |[.mref .out o g,.d (.int _ i)]=>match V.get o g with
   |some (.mat _ _ _ ix _)=>es=1/\0<=i/\i<ix.length/\K (.mref (.xp i.toNat) o g) .none
   |_=>False
  |[.mref (.row j) o g,.d (.int _ i)]=>match V.get o g with
   |some (.mat _ _ _ _ rows)=>(match rows[j]? with
    |some x=>es=1/\0<=i/\i<x.2.length/\K (.mref (.mp j i.toNat) o g) .none
    |none=>False)
   |_=>False
  |[.mref (.bs off n _) o g,.d (.int _ i)]=>es=1/\0<=i/\i<n/\K (.ptr o g (off+i.toNat)) .none
  |_=>False
 |.iaddrA len es=>match xs with
  |[.ptr o g off,.d (.int _ i)]=>0<=i/\i<len/\K (.ptr o g (off+i.toNat * es)) .none
  |[.rptr o g es' j off,.d (.int _ i)]=>0<=i/\i<len/\K (.rptr o g es' j (off+i.toNat * es)) .none
  |[.dptr cs off,.d (.int _ i)]=>0<=i/\i<len/\K (.dptr cs (off+i.toNat * es)) .none
  |[.d (.ptr cs),.d (.int _ i)]=>0<=i/\i<len/\K (.dptr cs (i.toNat * es)) .none
  |_=>False
 |.strx s=>match xs with
  |[.d (.int _ i)]=>0<=i/\(match s[i.toNat]? with
   |some b=>K (.d (.int .u8 b.toNat)) .none
   |none=>False)
  |_=>False
 |.build zero places=>match PO (zero.map .d) (places.zip xs)with
  |some cs=>places.length=xs.length/\K (.agg cs) .none
  |none=>False
 |.mkrow es zero len at_=>match xs with
  |[.own q p]=>es=1/\len=1/\at_=[0]/\K (.ablk true [.own q p] 0) .none
  |xs=>match Ga es (cw len zero) (at_.zip xs)with
   |some l=>at_.length=xs.length/\K (.ex l) .none
   |none=>False
 |.mkrowO ety es zero len at_=>match dst,Ga es (cw len zero) (at_.zip xs)with
  |some t,some l=>t<Cr/\at_.length=xs.length/\K (.own t (V.cn t)) (.fresh t (.row ety es false l))
  |_,_=>False
 |.mkfn f=>K (.fn f xs) .none
 |.mkbnd f=>K (.bnd f xs) .none
 |.yld=>False
 |.box=>match dst,xs with
  |some t,[v]=>match v.cells? with
   |some cs=>t<Cr/\K (.ptr t (V.cn t) 0) (.fresh t (.cells cs))
   |none=>False
  |_,_=>False
 |.zero cs=>match dst with
  |some t=>t<Cr/\K (.ptr t (V.cn t) 0) (.fresh t (.cells (cs.map .d)))
  |none=>False
 |.mkmap tys=>match dst with
  |some t=>t<Cr/\K (.map t (V.cn t)) (.fresh t (.map tys []))
  |none=>False
 |.mrange=>match dst,xs with
  |some t,[.d (.map tys kvs)]=>t<Cr/\K (.ptr t (V.cn t) 0) (.fresh t (.mitD tys kvs []))
  |_,_=>False
 |.mentry=>match xs with
  |[.ptr o g 0]=>match V.get o g with
   |some (.mitD tys kvs seen)=>match seen.getLast? with
    |some i=>match kvs[i]? with
      |some kv=>K (.tup [.d kv.1,.d kv.2]) .none
      |none=>False
    |none=>False
   |_=>False
  |_=>False
 |.mksl ety es zero own=>match dst,xs with
  |some t,[.d (.int .i64 n),.d (.int .i64 m)]=>n=m/\0<=n/\n<=(Ch:Int) /\
    (
     if own then t<Cr/\K (.own t (V.cn t)) (.fresh t (.row ety es false (cw n.toNat zero)))
     else K (.d (.list false (cw n.toNat zero))) .none)
  |_,_=>False
 |.slice es lo hi max =>
  if max then(match lo,hi,xs with
   |false,true,[.d (.list false l),.d (.int _ h),.d (.int _ m)]=>Cc es l/\h=m/\0<=h/\h<=l.length/\K (.ex (l.take h.toNat)) .none
   |false,true,[.d (.list true []),.d (.int _ h),.d (.int _ m)]=>h=0/\m=0/\K (.d (.list true [])) .none
   |true,true,[.ptr o g off,.d (.int _ h),.d (.int _ m)]=>0<=h/\h<=m/\K (.mref (.bs off h.toNat m.toNat) o g) .none
   |true,true,[.d (.ptr cs),.d (.int _ h),.d (.int _ m)]=>0<=h/\h<=m/\m<=cs.length/\K (.d (.list false (cs.take h.toNat))) .none
   |true,true,[.dptr cs off,.d (.int _ h),.d (.int _ m)]=>0<=h/\h<=m/\off+m.toNat<=cs.length/\K (.d (.list false ((cs.drop off).take h.toNat))) .none
   |true,true,[.d (.list false l),.d (.int _ a),.d (.int _ h),.d (.int _ m)]=>Cc es l/\h=m/\0<=a/\a<h/\h<=l.length/\K (.ex ((l.drop a.toNat).take (h.toNat-a.toNat))) .none
   |_,_,_=>False)
  else match xs with
  |.d (.list nil l)::rest=>Cc es l/\Pt lo hi l.length rest fun a b=>K (.d (.list nil ((l.drop a).take (b-a)))) .none
  |.ex l::rest=>Cc es l/\Pt lo hi l.length rest fun a b=>K (.d (.list false ((l.drop a).take (b-a)))) .none
  |.own o g::rest=>(match V.get o g with
   |some (.row ety es' nil l)=>o<Cr/\es=es'/\Pt lo hi l.length rest fun a b=>K (.own o (V.cn o)) (.fresh o (.row ety es nil (if hi then(l.drop a).take (b-a)else l.drop a)))
   |_=>False)
  |_=>False
 |.len isMap=>match xs with
  |[x]=>if isMap then(match x with
    |.map o g=>(match V.get o g with
      |some (.map _ kvs)=>kvs.length<=Ch/\K (.d (.int .i64 kvs.length)) .none
      |_=>False)
    |.d (.map _ kvs)=>kvs.length<=Ch/\K (.d (.int .i64 kvs.length)) .none
    |_=>False)
   else(match x.lenL V with
    |some n=>K (.d (.int .i64 n)) .none
    |none=>False)
  |_=>False
 |.cap=>match xs with
  |[.d (.list true [])]=>K (.d (.int .i64 0)) .none
  |_=>False
 |.minmax isMax=>match xs with
  |.d (.int k a)::rest=>(match Gv isMax k a rest with
   |some r=>K (.d (.int k r)) .none
   |none=>False)
  |_=>False
 |.extract i=>match xs with
  |[.tup vs]=>(match vs[i]? with
   |some v=>K v .none
   |none=>False)
  |_=>False
 |.lookup ok tys zero=>match xs with
  |[.map o g,key]=>(match V.get o g,key.toD1 with
   |some (.map tys' kvs),some k=>tys=tys'/\Jo tys k=true/\(match C0 k kvs with
    |some v=>K (if ok then .tup [.d v,.d (.bool true)]else .d v) .none
    |none=>K (if ok then .tup [.d zero,.d (.bool false)]else .d zero) .none)
   |_,_=>False)
  |[.d (.map tys' kvs),key]=>(match key.toD1 with
   |some k=>tys=tys'/\Jo tys k=true/\(match C0 k kvs with
    |some v=>K (if ok then .tup [.d v,.d (.bool true)]else .d v) .none
    |none=>K (if ok then .tup [.d zero,.d (.bool false)]else .d zero) .none)
   |none=>False)
  |[.d .nilmap,key]=>(match key.toD1 with
   |some k=>Jo tys k=true/\K (if ok then .tup [.d zero,.d (.bool false)]else .d zero) .none
   |none=>False)
  |_=>False
 |.mapupd tys=>match xs with
  |[.map o g,key,val]=>(match V.get o g,key.toD1,val.toD1 with
   |some (.map tys' kvs),some k,some v=>tys=tys'/\Jo tys k=true/\K .undef (.keep o g (.map tys (T0 k v kvs)))
   |_,_,_=>False)
  |_=>False
 |.mapent tys zero=>match xs with
  |[.map o g,key]=>(match V.get o g,key.toD1 with
   |some (.map tys' kvs),some k=>tys=tys'/\Jo tys k=true/\kvs.length<=Ch/\(match FH k kvs with
    |some i=>K (.tup [.undef,.d (.int .i64 i)]) .none
    |none=>K (.tup [.undef,.d (.int .i64 kvs.length)]) (.keep o g (.map tys (kvs++[(k,zero)]))))
   |_,_=>False)
  |_=>False
 |.entst=>match xs with
  |[.map o g,.d (.int _ i),val]=>(match V.get o g,val.toD1 with
   |some (.map tys kvs),some v=>0<=i/\v.one=true/\(match kvs[i.toNat]? with
    |some e=>K .undef (.keep o g (.map tys (kvs.set i.toNat (e.1,v))))
    |none=>False)
   |_,_=>False)
  |_=>False
 |.app ety es zero own=>match xs with
  |[.mref k o g,y]=>(match k,V.get o g,y with
   |.out,some (.mat e1 e2 nil ix rows),.ablk true [.own q p] 0=>(match V.get q p with
    |some (.row e2' es2 nl2 l2)=>zero=none/\o<Cr/\q<Cr/\o≠q/\ety=e1/\es=1/\es2=1/\e2'=e2/\ix.length+1<=Ch /\
       K (.mref .out o (V.cn o)) (.seq (.fresh o (.mat e1 e2 false (ix++[rows.length]) (rows++[(nl2,l2)]))) (.fresh q (.row e2 1 true [])))
    |_=>False)
   |.row j,some (.mat e1 e2 nil ix rows),y=>(match rows[j]?,Dq V zero y with
    |some x,some ys=>es=1/\o<Cr/\ety=e2/\JS x=true/\ys≠[]/\Cc es ys/\x.2.length+ys.length<=Ch /\
       K (.mref (.row rows.length) o g) (.keep o g (.mat e1 e2 nil ix (rows.set j (false,[])++[(false,x.2++ys)])))
    |_,_=>False)
   |_,_,_=>False)
  |[x,y]=>(match Dq V zero y with
   |none=>False
   |some ys=>(match x with
    |.own o g=>(match V.get o g with
      |some (.row ety' es' nil l)=>o<Cr/\ety=ety'/\es=es'/\Cc es ys/\l.length+ys.length<=Ch /\
         K (.own o (V.cn o)) (.fresh o (.row ety es (nil && ys.isEmpty) (l++ys)))
      |_=>False)
    |.d (.list true [])=>Cc es ys/\ys.length<=Ch /\
       (if own then(match dst with
         |some t=>t<Cr/\K (.own t (V.cn t)) (.fresh t (.row ety es ys.isEmpty ys))
         |none=>False)
        else K (.d (.list ys.isEmpty ys)) .none)
    |.ex l=>Cc es (l++ys)/\l.length+ys.length<=Ch /\
       (if own then(match dst with
         |some t=>(match ys with
          |[]=>K (.ex l) .none
          |_::_=>t<Cr/\K (.own t (V.cn t)) (.fresh t (.row ety es false (l++ys))))
         |none=>False)
        else K (.d (.list false (l++ys))) .none)
    |_=>False))
  |_=>False
 |.call f=>DW E dst V f xs K
 |.callv=>match xs with
  |.fn f cs::args=>BA E.P f=true/\DW E dst V f (args++cs) K
  |.d (.fn f cs)::args=>BA E.P f=true/\DW E dst V f (args++cs.map .d) K
  |.bnd f cs::args=>BA E.P f=true/\DW E dst V f (cs++args) K
  |.d (.bnd f cs)::args=>BA E.P f=true/\DW E dst V f (cs.map .d++args) K
  |_=>False
end Go.Pw
end
section
namespace Go.Pw
open Go.RowKit
theorem Ar.oneCell{w:World}{fb:Nat->Prop}{d:D}{v:Value}(h:Ar w fb d v)(h1:d.one=true):v.oneCell'=true:=by
 cases h<;>first|rfl|simp[D.one]at h1
theorem AP.mono{w w':World}{fb fb':Nat->Prop}{β β':Nat->Nat->Value}{cn cn':Nat->Nat}(m:Aq fb w w')
  (p:∀b,b<w.heap.size->fb' b->fb b) (hβ:∀o g,g<cn o->β' o g=β o g) (e:∀o,cn o<=cn' o)
  {a:AV}{v:Value}(h:AP w fb β cn a v):AP w' fb' β' cn' a v:=by
 induction h with
 |d x v h=>exact .d x v (h.mono m p)
 |ex xs a h=>exact .ex xs a (h.mono m p)
 |agg cs vs hl h1 h ih=>exact .agg cs vs hl h1 ih
 |ptr o g off b hg h=>exact .ptr o g off b (aa hg (e o)) ((hβ o g hg).trans h)
 |rptr o g es i off b b0 n cap hg h=>exact .rptr o g es i off b b0 n cap (aa hg (e o)) ((hβ o g hg).trans h)
 |dptr cs off b base vs hb hne h1 hc hv =>
  cases cs with
  |nil=>exact absurd rfl hne
  |cons x xs =>
   have l:b<w.heap.size:=CH (hc 0 x (by simp));exact .dptr _ off b base vs (fun hh=>hb (p b l hh)) hne h1 (fun j c h1=>m.cell hb (hc j c h1)) (fun j c h1=>(hv j c h1).mono m p)
 |own o g hg h1=>rw[←hβ o g hg]at h1 ⊢;exact .own o g (aa hg (e o)) h1
 |map o g hg h1=>rw[←hβ o g hg]at h1 ⊢;exact .map o g (aa hg (e o)) h1
 |fn f cs vs hl h ih=>exact .fn f cs vs hl ih
 |tup cs vs hl h ih=>exact .tup cs vs hl ih
 |undef v=>exact .undef v
 |bnd f cs vs hl h ih=>exact .bnd f cs vs hl ih
 |mref k o g u hg h h1=>exact .mref k o g u (aa hg (e o)) (by rw[hβ o g hg];exact h) h1
 |ablk sl cs off b base vs u hb hne h1 hc hv hu ih =>
  cases cs with
  |nil=>exact absurd rfl hne
  |cons x xs =>
   have l:b<w.heap.size:=CH (hc 0 x (by simp));exact .ablk sl _ off b base vs u (fun hh=>hb (p b l hh)) hne h1 (fun j c h1=>m.cell hb (hc j c h1)) ih hu
def z9(β β':Nat->Nat->Value)(o g:Nat):Prop:=β' o g=β o g\/∃l us:List Value,β o g=.tuple l.toArray/\β' o g=.tuple (l++us).toArray
theorem pI{k:MK}{l us:List Value}{u:Value}(h:Ei k (.tuple l.toArray)=some u):Ei k (.tuple (l++us).toArray)=some u:=by
 have key:∀{i:Nat}{x:Value},l[i]?=some x->(l++us)[i]?=some x:=fun {i x} hx=>by
  rw[j0 (ay.1 hx).1];exact hx
 cases k with
 |out=>simp only[Ei,c8]at h ⊢;exact key h
 |row j=>simp only[Ei,c8]at h ⊢;exact key h
 |xp i =>
  simp only[Ei,c8]at h ⊢
  cases hx:l[0]? with
  |none=>rw[hx]at h;simp at h
  |some x=>rw[key hx];rw[hx]at h;exact h
 |mp j k =>
  simp only[Ei,c8]at h ⊢
  cases hx:l[j+1]? with
  |none=>rw[hx]at h;simp at h
  |some x=>rw[key hx];rw[hx]at h;exact h
 |bs off n cap=>simp[Ei]at h
 |rs a es=>simp[Ei]at h
 |rp n=>simp[Ei]at h
theorem AP.monoE{w w':World}{fb fb':Nat->Prop}{β β':Nat->Nat->Value}{cn cn':Nat->Nat}(q:Aq fb w w')
  (r:∀b,b<w.heap.size->fb' b->fb b) (hβ:∀o g,g<cn o->z9 β β' o g) (m:∀o,cn o<=cn' o)
  {a:AV}{v:Value}(h:AP w fb β cn a v):AP w' fb' β' cn' a v:=by
 have one:∀{o g},g<cn o->(β o g).oneCell'=true->β' o g=β o g:=fun {o g} hg h1=>by
  rcases hβ o g hg with h|⟨l,us,h,_⟩
  ·exact h
  ·rw[h]at h1;cases h1
 induction h with
 |d x v h=>exact .d x v (h.mono q r)
 |ex xs a h=>exact .ex xs a (h.mono q r)
 |agg cs vs hl h1 h ih=>exact .agg cs vs hl h1 ih
 |ptr o g off b hg h=>exact .ptr o g off b (aa hg (m o)) ((one hg (by rw[h];rfl)).trans h)
 |rptr o g es i off b b0 n cap hg h=>exact .rptr o g es i off b b0 n cap (aa hg (m o)) ((one hg (by rw[h];rfl)).trans h)
 |dptr cs off b base vs hb hne h1 hc hv =>
  cases cs with
  |nil=>exact absurd rfl hne
  |cons x xs =>
   have p:b<w.heap.size:=CH (hc 0 x (by simp));exact .dptr _ off b base vs (fun hh=>hb (r b p hh)) hne h1 (fun j c h1=>q.cell hb (hc j c h1)) (fun j c h1=>(hv j c h1).mono q r)
 |own o g hg h1 =>
  have e:=one hg h1;rw[←e]at h1 ⊢;exact .own o g (aa hg (m o)) h1
 |map o g hg h1 =>
  have e:=one hg h1;rw[←e]at h1 ⊢;exact .map o g (aa hg (m o)) h1
 |fn f cs vs hl h ih=>exact .fn f cs vs hl ih
 |tup cs vs hl h ih=>exact .tup cs vs hl ih
 |undef v=>exact .undef v
 |bnd f cs vs hl h ih=>exact .bnd f cs vs hl ih
 |mref k o g u hg h h1 =>
  refine .mref k o g u (aa hg (m o)) ?_ h1;rcases hβ o g hg with e|⟨l,us,e,t⟩
  ·rw[e];exact h
  ·rw[t] ;rw[e]at h;exact pI h
 |ablk sl cs off b base vs u hb hne h1 hc hv hu ih =>
  cases cs with
  |nil=>exact absurd rfl hne
  |cons x xs =>
   have p:b<w.heap.size:=CH (hc 0 x (by simp));exact .ablk sl _ off b base vs u (fun hh=>hb (r b p hh)) hne h1 (fun j c h1=>q.cell hb (hc j c h1)) ih hu
structure EG where
 w0:World
 fb:Nat->Prop
 mine:Nat->Prop
 b0:Nat->Value
 may:Nat->Prop:=fun _=>False
 els:Us:=.ofL []
 yl:Nat:=0
 hn:Nat:=0
 sb:Nat->Prop:=fun _=>False
 nr:Bool:=false
 J:Nat->Bool->World->(Nat->Prop)->(Nat->Prop)->Prop:=fun _ _ _ _ _=>False
def DJ(β:Nat->Nat->Value)(V:AO)(b:Nat):Prop:=∃o g x,V.ob o=some (g,x)/\C4 (β o g) b
def EG.bar(c:EG)(β:Nat->Nat->Value)(V:AO)(b:Nat):Prop:=c.fb b\/DJ β V b
structure BG where
 sl:Nat->AV
 V:AO
structure dr (c:EG) (w:World):Prop where
 os:w.os=c.w0.os
 tape:w.tape=c.w0.tape
 output:w.output=c.w0.output
 size:c.w0.heap.size<=w.heap.size
 block:∀k,k<c.w0.heap.size->¬c.mine k->w.heap[k]?=c.w0.heap[k]?
structure BZ (E:CW) (c:EG) (β:Nat->Nat->Value) (s:BG) (tm:Array Value) (w:World):Prop where
 keep:dr c w
 low:∀b,c.fb b->b<c.w0.heap.size/\¬c.mine b
 glob:mn E w (c.bar β s.V)
 slots:∀t,AP w (c.bar β s.V) β s.V.cn (s.sl t) (tm.getD t undef)
 objs:∀o g x,s.V.ob o=some (g,x)->g<s.V.cn o/\Ef w (c.bar β s.V) β s.V.cn x (β o g)
 sep:∀o o' g g' x x' b,s.V.ob o=some (g,x)->s.V.ob o'=some (g',x')->C4 (β o g) b->C4 (β o' g') b->o=o'
 home:∀o g x b,s.V.ob o=some (g,x)->C4 (β o g) b->b<w.heap.size/\(c.w0.heap.size<=b\/c.mine b)/\¬c.fb b
 pin:∀o g x,Cr<=o->s.V.ob o=some (g,x)->β o g=c.b0 o
 hist:∀o g els n st,s.V.ob o=some (g,.hist els n st)->els=c.els/\β o g=.func (.yield c.yl) #[] #[]/\c.J n st c.w0 c.mine c.may/\o=c.hn
theorem Aq.of_below{fb:Nat->Prop}{w w':World}(h:Below w.heap.size w w'):Aq fb w w':=fun b _ e=>h.block b e
theorem B3.mono{w w':World}{fb fb':Nat->Prop}{ety es nil xs v}(m:Aq fb w w')(n:∀b,b<w.heap.size->fb' b->fb b)
  (hv:∀b,C4 v b->b<w.heap.size->w'.heap[b]?=w.heap[b]?) (h:B3 w fb ety es nil xs v):B3 w' fb' ety es nil xs v:=by
 rcases h with⟨h1,h2,h3⟩|⟨h1,b,off,cap,cur,h2,h3,h4,h5,h6,h7,h8,h10,h9⟩
 ·exact .inl ⟨h1,h2,h3⟩
 ·subst h2;have e:b<w.heap.size:=(az.1 h3).1;refine .inr ⟨h1,b,off,cap,cur,rfl,?_,h4,h5,h6,h7,h8,h10,fun i x j c hi l=>?_⟩
  ·rw[hv b rfl e];exact h3
  ·obtain⟨u,hu,hd⟩:=h9 i x j c hi l;exact⟨u,hu,hd.mono m n⟩
theorem B3.blk{w:World}{fb:Nat->Prop}{ety es nil xs v}(h:B3 w fb ety es nil xs v){b:Nat}(hb:C4 v b):A9 v=some b:=by
 rcases h with⟨h1,h2,h3⟩|⟨h1,b,off,cap,cur,h2,h3⟩
 ·subst h3;exact hb
 ·subst h2;exact hb
theorem B3.one{w:World}{fb:Nat->Prop}{ety es nil xs v}(h:B3 w fb ety es nil xs v):v.oneCell'=true:=by
 rcases h with⟨h1,h2,h3⟩|⟨h1,b,off,cap,cur,h2,h3⟩
 ·subst h3;rfl
 ·subst h2;rfl
theorem Bn{e:Value}{vs:List Value}(i:Nat):(e::vs).toArray[i]?=(e::vs)[i]?:=by simp
theorem WP{rows:List (Bool×List D)}:OT rows 0:=fun x h=>by simp at h;subst h;rfl
theorem L3{rows:List (Bool×List D)}{j:Nat}{x:Bool×List D}(hx:rows[j]?=some x)(e:JS x=true):OT rows (j+1):=fun y h=>by
 rw[i5,hx]at h;simp at h;subst h;exact e
theorem OT.of{rows:List (Bool×List D)}{j:Nat}{x:Bool×List D}(h:OT rows (j+1))(hx:rows[j]?=some x):JS x=true:=h x (by rw[i5];exact hx)
theorem OT.left{rows l:List (Bool×List D)}{i:Nat}(h:OT (rows++l) i):OT rows i:=fun x hx=>h x (by
 rw[←List.cons_append,j0 (ay.1 hx).1];exact hx)
theorem JR{x:Bool×List D}(h:0<x.2.length):JS x=true:=by
 obtain⟨b,l⟩:=x;cases l with
 |nil=>simp at h
 |cons a l=>simp[JS]
theorem OT.unset{rows:List (Bool×List D)}{j i:Nat}{x y:Bool×List D}(h:OT (rows.set j y) i)(hx:rows[j]?=some x)(m:JS y=true->JS x=true):OT rows i:=fun z e=>by
 cases i with
 |zero=>simp at e;subst e;rfl
 |succ i =>
  rw[i5]at e
  by_cases l:i=j
  ·subst l;rw[hx]at e;simp at e;subst e;exact m (h.of (by rw[List.getElem?_set_self (ay.1 hx).1]))
  ·exact h.of (by rw[List.getElem?_set_ne (Ne.symm l)];exact e)
theorem Zw.mono{w w':World}{fb fb':Nat->Prop}{e1 e2 nil ix rows v}(o:Aq fb w w')(q:∀b,b<w.heap.size->fb' b->fb b)
  (hv:∀b,C4 v b->b<w.heap.size->w'.heap[b]?=w.heap[b]?) (h:Zw w fb e1 e2 nil ix rows v):Zw w' fb' e1 e2 nil ix rows v:=by
 obtain⟨m,vs,e,hl,h0,hr,hs⟩:=h;subst e;refine⟨m,vs,rfl,hl,?_,fun j x u hx hu=>⟨(hr j x u hx hu).1,fun l=>((hr j x u hx hu).2 l).mono o q fun b hb i=>hv b ⟨j+1,u,by simpa using hu,((hr j x u hx hu).2 l).blk hb⟩ i⟩,hs⟩;rcases h0 with h0|⟨h0,b,off,cap,cur,h2,n,p⟩
 ·exact .inl h0
 ·refine .inr ⟨h0,b,off,cap,cur,h2,?_,p⟩;rw[hv b ⟨0,m,by simp,by rw[h2];rfl⟩ (az.1 n).1];exact n
theorem Ef.mono{w w':World}{fb fb':Nat->Prop}{β β':Nat->Nat->Value}{cn cn':Nat->Nat}(p:Aq fb w w')
  (q:∀b,b<w.heap.size->fb' b->fb b) (hβ:∀o g,g<cn o->β' o g=β o g) (t:∀o,cn o<=cn' o)
  {x:AY}{v:Value}(hv:∀b,C4 v b->b<w.heap.size->w'.heap[b]?=w.heap[b]?) (h:Ef w fb β cn x v):Ef w' fb' β' cn' x v:=by
 cases h with
 |cells xs b cur e hb hl h1 h =>
  have j:b<w.heap.size:=(az.1 hb).1;exact .cells xs b cur e ((hv b rfl j).trans hb) hl h1 fun i x u hx hu=>(h i x u hx hu).mono p q hβ t
 |row ety es nil xs v h=>exact .row _ _ _ _ _ (h.mono p q hv)
 |rowP ety es P nl xs v hp h=>exact .rowP _ _ _ _ _ _ hp (h.mono p q hv)
 |mat e1 e2 nil ix rows v h=>exact .mat _ _ _ _ _ _ (h.mono p q hv)
 |map tys kvs b es hb hl h =>
  have j:b<w.heap.size:=(az.1 hb).1
  exact .map tys kvs b es ((hv b rfl j).trans hb) hl fun i kv e hk y=>by
   obtain⟨h1,h2,A,z⟩:=h i kv e hk y;exact⟨h1,h2.mono p q,A.mono p q,z⟩
 |mitD tys kvs seen b m es cl sn hm hh hl hr hb hs hsn h =>
  have j:b<w.heap.size:=(az.1 hb).1;have r:m<w.heap.size:=(az.1 hh).1
  exact .mitD tys kvs seen b m es cl sn (fun h=>hm (q m r h)) ((p m hm r).trans hh) hl hr ((hv b rfl j).trans hb) hs hsn fun i kv e hk y=>by
   obtain⟨h1,h2⟩:=h i kv e hk y;exact⟨h1.mono p q,h2.mono p q⟩
 |hist els n st l=>exact .hist els n st l
theorem Ef.monoE{w w':World}{fb fb':Nat->Prop}{β β':Nat->Nat->Value}{cn cn':Nat->Nat}(p:Aq fb w w')
  (q:∀b,b<w.heap.size->fb' b->fb b) (hβ:∀o g,g<cn o->z9 β β' o g) (t:∀o,cn o<=cn' o)
  {x:AY}{v:Value}(hv:∀b,C4 v b->b<w.heap.size->w'.heap[b]?=w.heap[b]?) (h:Ef w fb β cn x v):Ef w' fb' β' cn' x v:=by
 cases h with
 |cells xs b cur e hb hl h1 h =>
  have j:b<w.heap.size:=(az.1 hb).1;exact .cells xs b cur e ((hv b rfl j).trans hb) hl h1 fun i x u hx hu=>(h i x u hx hu).monoE p q hβ t
 |row ety es nil xs v h=>exact .row _ _ _ _ _ (h.mono p q hv)
 |rowP ety es P nl xs v hp h=>exact .rowP _ _ _ _ _ _ hp (h.mono p q hv)
 |mat e1 e2 nil ix rows v h=>exact .mat _ _ _ _ _ _ (h.mono p q hv)
 |map tys kvs b es hb hl h =>
  have j:b<w.heap.size:=(az.1 hb).1
  exact .map tys kvs b es ((hv b rfl j).trans hb) hl fun i kv e hk y=>by
   obtain⟨h1,h2,A,z⟩:=h i kv e hk y;exact⟨h1,h2.mono p q,A.mono p q,z⟩
 |mitD tys kvs seen b m es cl sn hm hh hl hr hb hs hsn h =>
  have j:b<w.heap.size:=(az.1 hb).1;have r:m<w.heap.size:=(az.1 hh).1
  exact .mitD tys kvs seen b m es cl sn (fun h=>hm (q m r h)) ((p m hm r).trans hh) hl hr ((hv b rfl j).trans hb) hs hsn fun i kv e hk y=>by
   obtain⟨h1,h2⟩:=h i kv e hk y;exact⟨h1.mono p q,h2.mono p q⟩
 |hist els n st l=>exact .hist els n st l
theorem dr.grow{c:EG}{w w':World}(h:dr c w)(hg:Below w.heap.size w w'):dr c w' :=
 ⟨hg.os.trans h.os,hg.tape.trans h.tape,hg.output.trans h.output,ck h.size hg.size,
  fun k hk hm=>(hg.block k (aa hk h.size)).trans (h.block k hk hm)⟩
theorem mn.mono{E:CW}{w w':World}{fb:Nat->Prop}(h:mn E w fb)(e:Aq fb w w'):mn E w' fb :=
 fun g cs hg=>(h g cs hg).mono e (fun _ _ h=>h)
theorem BZ.grow{E:CW}{c:EG}{β:Nat->Nat->Value}{s:BG}{tm:Array Value}{w w':World}(h:BZ E c β s tm w)(hg:Below w.heap.size w w'):BZ E c β s tm w':=by
 refine⟨h.keep.grow hg,h.low,h.glob.mono (.of_below hg),fun t=>?_,fun o g x hx=>?_,h.sep,fun o g x b hx hb=>?_,h.pin,h.hist⟩
 ·exact(h.slots t).mono (.of_below hg) (fun _ _ h=>h) (fun _ _ _=>rfl) (fun _=>ax _)
 ·obtain⟨h1,h2⟩:=h.objs o g x hx;exact⟨h1,h2.mono (.of_below hg) (fun _ _ h=>h) (fun _ _ _=>rfl) (fun _=>ax _) fun b _ e=>hg.block b e⟩
 ·obtain⟨h1,h2⟩:=h.home o g x b hx hb;exact⟨aa h1 hg.size,h2⟩
theorem qD{tm:Array Value}{t:Nat}{u d:Value}(ht:t<tm.size)(i:Nat):(tm.setIfInBounds t u).getD i d=if i=t then u else tm.getD i d:=by
 by_cases h:i=t
 ·subst h;simp[ea,ht]
 ·simp[ea,Array.getElem?_setIfInBounds_ne (Ne.symm h),h]
theorem BZ.set{E:CW}{c:EG}{β:Nat->Nat->Value}{s:BG}{tm:Array Value}{w:World}(h:BZ E c β s tm w){t:Nat}{v:AV}{u:Value}
  (ht:t<tm.size) (hv:AP w (c.bar β s.V) β s.V.cn v u):BZ E c β { s with sl:=CB s.sl t v } (tm.setIfInBounds t u) w:=by
 refine⟨h.keep,h.low,h.glob,fun i=>?_,h.objs,h.sep,h.home,h.pin,h.hist⟩;rw[qD ht];simp only[CB];split
 ·exact hv
 ·exact h.slots i
def Eh(β:Nat->Nat->Value)(o g:Nat)(v:Value):Nat->Nat->Value:=fun o' g'=>if o'=o/\g'=g then v else β o' g'
theorem BM(β:Nat->Nat->Value)(o g:Nat)(v:Value):Eh β o g v o g=v:=by simp[Eh]
theorem FK{β:Nat->Nat->Value}{cn:Nat->Nat}{o:Nat}{v:Value}(o' g':Nat)(h:g' < cn o'):Eh β o (cn o) v o' g'=β o' g':=by
 simp only[Eh];split
 ·rename_i hh;obtain⟨rfl,rfl⟩:=hh;omega
 ·rfl
structure Hd (v:Value) (w w':World):Prop where
 os:w'.os=w.os
 tape:w'.tape=w.tape
 output:w'.output=w.output
 size:w.heap.size<=w'.heap.size
 block:∀k,k<w.heap.size->¬C4 v k->w'.heap[k]?=w.heap[k]?
theorem Hd.of_below{w w':World}(v:Value)(h:Below w.heap.size w w'):Hd v w w':=⟨h.os,h.tape,h.output,h.size,fun k hk _=>h.block k hk⟩
theorem BZ.fresh{E:CW}{c:EG}{β:Nat->Nat->Value}{s:BG}{tm:Array Value}{w w':World}(h:BZ E c β s tm w){o:Nat}{x:AY}{vo:Value}(O:o<Cr)
  (q:Hd vo w w') (hb:∀b,C4 vo b->b<w'.heap.size/\(w.heap.size<=b\/∃g x,s.V.ob o=some (g,x)/\C4 (β o g) b))
  (ho:∀β' fb',β'=Eh β o (s.V.cn o) vo->fb'=(c.bar β' (s.V.app (.fresh o x)))->(∀b,b<w.heap.size->fb' b->c.bar β s.V b) ->
   Ef w' fb' β' (s.V.app (.fresh o x)).cn x vo) (hnh:x.isHist=false:=by rfl) :
  BZ E c (Eh β o (s.V.cn o) vo) { s with V:=s.V.app (.fresh o x) } tm w':=by
 have l:(s.V.app (.fresh o x)).ob=CB s.V.ob o (some (s.V.cn o,x)):=rfl;have A:(s.V.app (.fresh o x)).cn=CB s.V.cn o (s.V.cn o+1):=rfl;have r:∀k,s.V.cn k<=(s.V.app (.fresh o x)).cn k:=fun k=>by rw[A];simp only[CB];split<;>simp_all
 have hβ:∀k g,g<s.V.cn k->Eh β o (s.V.cn o) vo k g=β k g:=fun k g hk=>FK k g hk
 have j:∀b,b<w.heap.size->c.bar (Eh β o (s.V.cn o) vo) (s.V.app (.fresh o x)) b->c.bar β s.V b:=by
  intro b p hh;rcases hh with hh|⟨o',g',x',h1,h2⟩
  ·exact .inl hh
  ·rw[l]at h1;simp only[CB]at h1;split at h1
   ·rename_i u;simp only[Option.some.injEq,Prod.mk.injEq]at h1;obtain⟨rfl,rfl⟩:=h1;subst u;rw[BM]at h2;rcases(hb b h2).2 with i|⟨g,x,i,e⟩
    ·omega
    ·exact .inr ⟨_,g,x,i,e⟩
   ·have:=(h.objs o' g' x' h1).1;rw[FK o' g' this]at h2;exact .inr ⟨o',g',x',h1,h2⟩
 have y:Aq (c.bar β s.V) w w':=by
  intro b hn p;refine q.block b p fun B=>?_
  rcases(hb b B).2 with i|⟨g,x,i,e⟩
  ·omega
  ·exact hn (.inr ⟨o,g,x,i,e⟩)
 refine⟨⟨q.os.trans h.keep.os,q.tape.trans h.keep.tape,q.output.trans h.keep.output,ck h.keep.size q.size,fun k hk hm=>?_⟩,h.low,?_,fun t=>?_,fun o' g' x' hx=>?_,?_,?_,?_,fun N J els n st h1=>?_⟩
 ·rw[←h.keep.block k hk hm];refine q.block k (aa hk h.keep.size) fun B=>?_
  rcases(hb k B).2 with i|⟨g,x,i,e⟩
  ·have:=h.keep.size;omega
  ·rcases(h.home o g x k i e).2.1 with m|m
   ·omega
   ·exact hm m
 ·intro g cs hg;exact(h.glob g cs hg).mono y j
 ·exact(h.slots t).mono y j hβ r
 ·rw[l]at hx;simp only[CB]at hx;split at hx
  ·rename_i u;simp only[Option.some.injEq,Prod.mk.injEq]at hx;obtain⟨rfl,rfl⟩:=hx;subst u;rw[BM];exact⟨by rw[A];simp[CB],ho _ _ rfl rfl j⟩
  ·rename_i hne;obtain⟨h1,h2⟩:=h.objs o' g' x' hx;rw[FK o' g' h1];refine⟨aa h1 (r _),h2.mono y j hβ r fun b G p=>q.block b p fun B=>?_⟩;rcases(hb b B).2 with i|⟨g,x,i,e⟩
   ·omega
   ·exact hne (h.sep o' o g' g x' x b hx i G e)
 ·intro N T J X R U b h1 h2 i e;rw[l]at h1 h2;simp only[CB]at h1 h2;split at h1<;>split at h2
  ·simp_all
  ·rename_i e1 e2;simp only[Option.some.injEq,Prod.mk.injEq]at h1;obtain⟨rfl,rfl⟩:=h1;subst e1;rw[BM]at i;have m:=(h.objs _ _ _ h2).1;rw[FK _ _ m]at e;rcases(hb b i).2 with z|⟨g,x,z,M⟩
   ·have:=(h.home _ _ _ b h2 e).1;omega
   ·exact(h.sep _ _ _ _ _ _ b z h2 M e)
  ·rename_i e1 e2;simp only[Option.some.injEq,Prod.mk.injEq]at h2;obtain⟨rfl,rfl⟩:=h2;subst e2;rw[BM]at e;have m:=(h.objs _ _ _ h1).1;rw[FK _ _ m]at i;rcases(hb b e).2 with z|⟨g,x,z,M⟩
   ·have:=(h.home _ _ _ b h1 i).1;omega
   ·exact(h.sep _ _ _ _ _ _ b h1 z i M)
  ·have m:=(h.objs _ _ _ h1).1;have z:=(h.objs _ _ _ h2).1;rw[FK _ _ m]at i;rw[FK _ _ z]at e;exact h.sep _ _ _ _ _ _ b h1 h2 i e
 ·intro N J R b h1 h2;rw[l]at h1;simp only[CB]at h1;split at h1
  ·rename_i e1;simp only[Option.some.injEq,Prod.mk.injEq]at h1;obtain⟨rfl,rfl⟩:=h1;subst e1;rw[BM]at h2;obtain⟨i,e⟩:=hb b h2;refine⟨i,?_⟩;rcases e with e|⟨g,x,e,m⟩
   ·refine⟨.inl (ck h.keep.size e),fun S=>?_⟩;have:=(h.low b S).1;have:=h.keep.size;omega
   ·exact(h.home _ g x b e m).2
  ·have i:=(h.objs _ _ _ h1).1;rw[FK _ _ i]at h2;obtain⟨e,m⟩:=h.home _ _ _ b h1 h2;exact⟨aa e q.size,m⟩
 ·intro N J R L h1;rw[l]at h1;simp only[CB]at h1;split at h1
  ·rename_i e1;subst e1;omega
  ·rw[FK _ _ (h.objs _ _ _ h1).1];exact h.pin _ _ _ L h1
 ·rw[l]at h1;simp only[CB]at h1;split at h1
  ·simp only[Option.some.injEq,Prod.mk.injEq]at h1;rw[h1.2]at hnh;cases hnh
  ·rw[FK _ _ (h.objs _ _ _ h1).1];exact h.hist _ _ _ _ _ h1
theorem BZ.fresh2{E:CW}{c:EG}{β:Nat->Nat->Value}{s:BG}{tm:Array Value}{w w':World}(h:BZ E c β s tm w){o:Nat}(q:Nat){x:AY}{vo:Value}(γ:o<Cr)
  (G:Hd vo w w') (hb:∀b,C4 vo b->b<w'.heap.size/\(w.heap.size<=b\/∃l g x,(l=o\/l=q)/\s.V.ob l=some (g,x)/\C4 (β l g) b))
  (ho:∀β' fb',β'=Eh β o (s.V.cn o) vo->fb'=(c.bar β' ((AO.mk (CB s.V.ob q none) s.V.cn).app (.fresh o x)))->(∀b,b<w.heap.size->fb' b->c.bar β s.V b) ->
   Ef w' fb' β' ((AO.mk (CB s.V.ob q none) s.V.cn).app (.fresh o x)).cn x vo) (S:x.isHist=false:=by rfl) :
  BZ E c (Eh β o (s.V.cn o) vo) { s with V:=(AO.mk (CB s.V.ob q none) s.V.cn).app (.fresh o x) } tm w':=by
 obtain⟨V',A⟩:∃V',V'=(AO.mk (CB s.V.ob q none) s.V.cn).app (.fresh o x):=⟨_,rfl⟩
 rw[←A]at ho ⊢;have X:V'.cn=CB s.V.cn o (s.V.cn o+1):=by rw[A];rfl
 have j:∀y,V'.ob o=some y->y=(s.V.cn o,x):=fun y B=>by
  rw[A]at B;simp[AO.app,CB]at B;exact B.symm
 have e:∀o' y,o'≠o->V'.ob o'=some y->s.V.ob o'=some y/\o'≠q:=fun o' y hne B=>by
  rw[A]at B;simp only[AO.app,CB,hne,if_false]at B;split at B
  ·cases B
  ·rename_i T;exact⟨B,T⟩
 have M:∀k,s.V.cn k<=V'.cn k:=fun k=>by rw[X];simp only[CB];split<;>simp_all
 have hβ:∀k g,g<s.V.cn k->Eh β o (s.V.cn o) vo k g=β k g:=fun k g hk=>FK k g hk
 have u:∀b,C4 vo b->b<w.heap.size->DJ β s.V b:=fun b N p=>by
  rcases(hb b N).2 with m|⟨l,g,x,_,m,i⟩
  ·omega
  ·exact⟨l,g,x,m,i⟩
 have r:∀b,b<w.heap.size->c.bar (Eh β o (s.V.cn o) vo) V' b->c.bar β s.V b:=by
  intro b p hh;rcases hh with hh|⟨o',g',x',h1,h2⟩
  ·exact .inl hh
  ·by_cases z:o'=o
   ·subst z;have:=j _ h1;simp only[Prod.mk.injEq]at this;obtain⟨rfl,rfl⟩:=this;rw[BM]at h2;exact .inr (u b h2 p)
   ·obtain⟨m,_⟩:=e _ _ z h1;rw[hβ o' g' (h.objs o' g' x' m).1]at h2;exact .inr ⟨o',g',x',m,h2⟩
 have O:Aq (c.bar β s.V) w w':=fun b hn p=>G.block b p fun z=>hn (.inr (u b z p))
 refine⟨⟨G.os.trans h.keep.os,G.tape.trans h.keep.tape,G.output.trans h.keep.output,ck h.keep.size G.size,fun k hk hm=>?_⟩,h.low,fun g cs hg=>(h.glob g cs hg).mono O r,fun t=>(h.slots t).mono O r hβ M,fun o' g' x' hx=>?_,?_,?_,?_,fun l g1 els n st h1=>?_⟩
 ·rw[←h.keep.block k hk hm];refine G.block k (aa hk h.keep.size) fun z=>?_
  obtain⟨l,g,x,m,i⟩:=u k z (aa hk h.keep.size);rcases(h.home l g x k m i).2.1 with J|J
  ·omega
  ·exact hm J
 ·show g' < V'.cn o'/\Ef w' (c.bar _ V') _ V'.cn x' _
  by_cases z:o'=o
  ·subst z;have:=j _ hx;simp only[Prod.mk.injEq]at this;obtain⟨rfl,rfl⟩:=this;rw[BM];exact⟨by rw[X];simp[CB],ho _ _ rfl rfl r⟩
  ·obtain⟨m,T⟩:=e _ _ z hx;obtain⟨h1,h2⟩:=h.objs o' g' x' m;rw[hβ o' g' h1];refine⟨aa h1 (M _),h2.mono O r hβ M fun b N p=>G.block b p fun hv=>?_⟩;rcases(hb b hv).2 with i|⟨l,g,x,L,i,J⟩
   ·omega
   ·have:=h.sep o' l g' g x' x b m i N J;rcases L with L|L
    ·exact z (this.trans L)
    ·exact T (this.trans L)
 ·intro l R g1 Y x1 Z b h1 h2 m i
  have one:∀{R Y Z},R≠o->V'.ob R=some (Y,Z)->C4 vo b->C4 (Eh β o (s.V.cn o) vo R Y) b->False:=fun {R Y Z} hne k1 k2 k3=>by
   obtain⟨k4,T⟩:=e _ _ hne k1;rw[hβ _ _ (h.objs _ _ _ k4).1]at k3;rcases(hb b k2).2 with L|⟨o3,g,x,U,L,h7⟩
   ·have:=(h.home _ _ _ b k4 k3).1;omega
   ·have:=h.sep _ _ _ _ _ _ b k4 L k3 h7;rcases U with U|U
    ·exact hne (this.trans U)
    ·exact T (this.trans U)
  by_cases e1:l=o<;>by_cases e2:R=o
  ·rw[e1,e2]
  ·have:=j _ (by rw[←e1];exact h1);simp only[Prod.mk.injEq]at this;rw[e1,this.1,BM]at m;exact(one e2 h2 m i).elim
  ·have:=j _ (by rw[←e2];exact h2);simp only[Prod.mk.injEq]at this;rw[e2,this.1,BM]at i;exact(one e1 h1 i m).elim
  ·obtain⟨k1,_⟩:=e _ _ e1 h1;obtain⟨k2,_⟩:=e _ _ e2 h2;rw[hβ _ _ (h.objs _ _ _ k1).1]at m;rw[hβ _ _ (h.objs _ _ _ k2).1]at i;exact h.sep _ _ _ _ _ _ b k1 k2 m i
 ·intro l g1 x1 b h1 h2
  by_cases e1:l=o
  ·have:=j _ (by rw[←e1];exact h1);simp only[Prod.mk.injEq]at this;rw[e1,this.1,BM]at h2;obtain⟨m,i⟩:=hb b h2;refine⟨m,?_⟩;rcases i with i|⟨l,g,x,_,i,J⟩
   ·refine⟨.inl (ck h.keep.size i),fun hf=>?_⟩;have:=(h.low b hf).1;have:=h.keep.size;omega
   ·exact(h.home _ g x b i J).2
  ·obtain⟨k1,_⟩:=e _ _ e1 h1;rw[hβ _ _ (h.objs _ _ _ k1).1]at h2;obtain⟨i,J⟩:=h.home _ _ _ b k1 h2;exact⟨aa i G.size,J⟩
 ·intro l g1 x1 α h1;have e1:l≠o:=by omega
  obtain⟨k1,_⟩:=e _ _ e1 h1;rw[hβ _ _ (h.objs _ _ _ k1).1];exact h.pin _ _ _ α k1
 ·by_cases e1:l=o
  ·have:=j _ (by rw[←e1];exact h1);simp only[Prod.mk.injEq]at this;rw[←this.2]at S;cases S
  ·obtain⟨k1,_⟩:=e _ _ e1 h1;rw[hβ _ _ (h.objs _ _ _ k1).1];exact h.hist _ _ _ _ _ k1
theorem BZ.kept{E:CW}{c:EG}{β:Nat->Nat->Value}{s:BG}{tm:Array Value}{w w':World}(h:BZ E c β s tm w){o g:Nat}{x A:AY}
  (j:s.V.ob o=some (g,A)) (l:Hd (β o g) w w')
  (ho:∀fb',(∀b,b<w.heap.size->fb' b->c.bar β s.V b)->fb'=c.bar β (s.V.app (.keep o g x))->Ef w' fb' β s.V.cn x (β o g)) (z:x.isHist=false:=by rfl) :
  BZ E c β { s with V:=s.V.app (.keep o g x) } tm w':=by
 have m:(s.V.app (.keep o g x)).ob=CB s.V.ob o (some (g,x)):=rfl;have S:(s.V.app (.keep o g x)).cn=s.V.cn:=rfl
 have e:∀u p y,(s.V.app (.keep o g x)).ob u=some (p,y)->∃G,s.V.ob u=some (p,G):=by
  intro u p y h1;rw[m]at h1;simp only[CB]at h1;split at h1
  ·rename_i e1;subst e1;simp only[Option.some.injEq,Prod.mk.injEq]at h1;obtain⟨rfl,rfl⟩:=h1;exact⟨A,j⟩
  ·exact⟨y,h1⟩
 have i:∀b,c.bar β (s.V.app (.keep o g x)) b->c.bar β s.V b:=by
  intro b hh;rcases hh with hh|⟨o',g',x',h1,h2⟩
  ·exact .inl hh
  ·obtain⟨G,O⟩:=e _ _ _ h1;exact .inr ⟨o',g',G,O,h2⟩
 have q:Aq (c.bar β s.V) w w':=fun b hn r=>l.block b r fun B=>hn (.inr ⟨o,g,A,j,B⟩)
 refine⟨⟨l.os.trans h.keep.os,l.tape.trans h.keep.tape,l.output.trans h.keep.output,ck h.keep.size l.size,fun k hk hm=>?_⟩,h.low,fun g cs hg=>(h.glob g cs hg).mono q fun b _=>i b,fun t=>?_,fun o' g' x' hx=>?_,?_,?_,?_,fun u p els n st h1=>?_⟩
 ·rw[←h.keep.block k hk hm];refine l.block k (aa hk h.keep.size) fun B=>?_
  rcases(h.home o g A k j B).2.1 with J|J
  ·omega
  ·exact hm J
 ·exact(h.slots t).mono q (fun b _=>i b) (fun _ _ _=>rfl) (fun _=>ax _)
 ·rw[m]at hx;simp only[CB]at hx;split at hx
  ·rename_i e1;subst e1;simp only[Option.some.injEq,Prod.mk.injEq]at hx;obtain⟨rfl,rfl⟩:=hx;exact⟨(h.objs _ _ _ j).1,ho _ (fun b _=>i b) rfl⟩
  ·rename_i hne;obtain⟨h1,h2⟩:=h.objs o' g' x' hx;exact⟨h1,h2.mono q (fun b _=>i b) (fun _ _ _=>rfl) (fun _=>ax _) fun b L r=>l.block b r fun B=>hne (h.sep o' o g' g x' A b hx j L B)⟩
 ·intro u T p X y G b h1 h2 O N;obtain⟨R,k1⟩:=e _ _ _ h1;obtain⟨U,k2⟩:=e _ _ _ h2;exact h.sep _ _ _ _ _ _ b k1 k2 O N
 ·intro u p y b h1 h2;obtain⟨R,k1⟩:=e _ _ _ h1;obtain⟨N,J⟩:=h.home _ _ _ b k1 h2;exact⟨aa N l.size,J⟩
 ·intro u p y M h1;obtain⟨R,k1⟩:=e _ _ _ h1;exact h.pin _ _ _ M k1
 ·rw[m]at h1;simp only[CB]at h1;split at h1
  ·simp only[Option.some.injEq,Prod.mk.injEq]at h1;rw[h1.2]at z;cases z
  ·exact h.hist _ _ _ _ _ h1
theorem BZ.absorb{E:CW}{c:EG}{β:Nat->Nat->Value}{s:BG}{tm:Array Value}{w w':World}(h:BZ E c β s tm w){o g q p:Nat}{x x0 y:AY}{l us:List Value}
  (B:s.V.ob o=some (g,x0)) (γ:s.V.ob q=some (p,y)) (ι:o≠q) (κ:o<Cr) (hv:β o g=.tuple l.toArray) (O:Hd (.tuple l.toArray) w w')
  (hb:∀b u,u∈us->A9 u=some b->C4 (β q p) b)
  (ho:∀β' fb',(∀b,b<w.heap.size->fb' b->c.bar β s.V b)->Ef w' fb' β' s.V.cn x (.tuple (l++us).toArray)) (α:x.isHist=false:=by rfl) :
  BZ E c (Eh β o g (.tuple (l++us).toArray)) { s with V:=(AO.mk (CB s.V.ob q none) s.V.cn).app (.keep o g x) } tm w':=by
 obtain⟨V',R⟩:∃V',V'=(AO.mk (CB s.V.ob q none) s.V.cn).app (.keep o g x):=⟨_,rfl⟩
 obtain⟨T,hT⟩:∃T,T=Value.tuple (l++us).toArray:=⟨_,rfl⟩
 rw[←hT]at ho;rw[←R,←hT];have δ:V'.cn=s.V.cn:=by rw[R];rfl
 have j:∀z,V'.ob o=some z->z=(g,x):=fun z N=>by
  rw[R]at N;simp[AO.app,CB]at N;exact N.symm
 have e:∀o' z,o'≠o->V'.ob o'=some z->s.V.ob o'=some z/\o'≠q:=fun o' z hne N=>by
  rw[R]at N;simp only[AO.app,CB,hne,if_false]at N;split at N
  ·cases N
  ·rename_i hq;exact⟨N,hq⟩
 have hβ:∀k m,m<s.V.cn k->z9 β (Eh β o g T) k m:=fun k m _=>by
  unfold z9;simp only[Eh];split
  ·rename_i hh;obtain⟨rfl,rfl⟩:=hh;exact .inr ⟨l,us,hv,hT⟩
  ·exact .inl rfl
 have hβo:∀k m,k≠o->Eh β o g T k m=β k m:=fun k m hk=>by simp[Eh,hk]
 have ε:∀b,C4 T b->C4 (β o g) b\/C4 (β q p) b:=fun b G=>by
  rw[hT]at G;obtain⟨i,u,hi,hu⟩:=G;rw[c8]at hi
  by_cases η:i<l.length
  ·rw[j0 η]at hi;exact .inl (by rw[hv];exact⟨i,u,by rw[c8];exact hi,hu⟩)
  ·rw[pv (by omega)]at hi;exact .inr (hb b u (cp hi) hu)
 have A:∀b,c.bar (Eh β o g T) V' b->c.bar β s.V b:=by
  intro b hh;rcases hh with hh|⟨o',g',x',h1,h2⟩
  ·exact .inl hh
  ·by_cases J:o'=o
   ·subst J;have:=j _ h1;simp only[Prod.mk.injEq]at this;obtain⟨rfl,rfl⟩:=this;rw[BM]at h2;rcases ε b h2 with r|r
    ·exact .inr ⟨_,_,_,B,r⟩
    ·exact .inr ⟨_,_,_,γ,r⟩
   ·rw[hβo _ _ J]at h2;exact .inr ⟨o',g',x',(e _ _ J h1).1,h2⟩
 have U:Aq (c.bar β s.V) w w':=fun b hn X=>O.block b X fun J=>hn (.inr ⟨o,g,x0,B,by rw[hv];exact J⟩)
 have S:∀b,C4 T b->∃L g1 x1,(L=o\/L=q)/\s.V.ob L=some (g1,x1)/\C4 (β L g1) b:=fun b G =>
  (ε b G).elim (fun r=>⟨_,_,_,.inl rfl,B,r⟩) fun r=>⟨_,_,_,.inr rfl,γ,r⟩
 refine⟨⟨O.os.trans h.keep.os,O.tape.trans h.keep.tape,O.output.trans h.keep.output,ck h.keep.size O.size,fun k hk hm=>?_⟩,h.low,fun g cs hg=>(h.glob g cs hg).mono U fun b _=>A b,fun t=>?_,fun o' g' x' hx=>?_,?_,?_,?_,fun L g1 els n st h1=>?_⟩
 ·rw[←h.keep.block k hk hm];refine O.block k (aa hk h.keep.size) fun J=>?_
  rcases(h.home o g x0 k B (by rw[hv];exact J)).2.1 with Y|Y
  ·omega
  ·exact hm Y
 ·show AP w' (c.bar _ V') _ V'.cn _ _;rw[δ];exact(h.slots t).monoE U (fun b _=>A b) hβ (fun _=>ax _)
 ·show g' < V'.cn o'/\Ef w' (c.bar _ V') _ V'.cn x' _;rw[δ]
  by_cases J:o'=o
  ·subst J;have:=j _ hx;simp only[Prod.mk.injEq]at this;obtain⟨rfl,rfl⟩:=this;rw[BM];exact⟨(h.objs _ _ _ B).1,ho _ _ fun b _=>A b⟩
  ·obtain⟨r,hq⟩:=e _ _ J hx;obtain⟨h1,h2⟩:=h.objs o' g' x' r;rw[hβo _ _ J];exact⟨h1,h2.monoE U (fun b _=>A b) hβ (fun _=>ax _) fun b G X=>O.block b X fun θ=>J (h.sep o' o g' g x' x0 b r B G (by rw[hv];exact θ))⟩
 ·intro L Z g1 g2 x1 x2 b h1 h2 r M
  have one:∀{Z g2 x2},Z≠o->V'.ob Z=some (g2,x2)->C4 T b->C4 (Eh β o g T Z g2) b->False:=fun {Z g2 x2} hne k1 k2 k3=>by
   obtain⟨k4,hq⟩:=e _ _ hne k1;rw[hβo _ _ hne]at k3;obtain⟨o3,g3,x3,h8,h6,h7⟩:=S b k2;have:=h.sep _ _ _ _ _ _ b k4 h6 k3 h7;rcases h8 with h8|h8
   ·exact hne (this.trans h8)
   ·exact hq (this.trans h8)
  by_cases e1:L=o<;>by_cases e2:Z=o
  ·rw[e1,e2]
  ·have:=j _ (by rw[←e1];exact h1);simp only[Prod.mk.injEq]at this;rw[e1,this.1,BM]at r;exact(one e2 h2 r M).elim
  ·have:=j _ (by rw[←e2];exact h2);simp only[Prod.mk.injEq]at this;rw[e2,this.1,BM]at M;exact(one e1 h1 M r).elim
  ·obtain⟨k1,_⟩:=e _ _ e1 h1;obtain⟨k2,_⟩:=e _ _ e2 h2;rw[hβo _ _ e1]at r;rw[hβo _ _ e2]at M;exact h.sep _ _ _ _ _ _ b k1 k2 r M
 ·intro L g1 x1 b h1 h2
  by_cases e1:L=o
  ·have:=j _ (by rw[←e1];exact h1);simp only[Prod.mk.injEq]at this;rw[e1,this.1,BM]at h2;obtain⟨o3,g3,x3,_,h6,h7⟩:=S b h2;obtain⟨M,Y⟩:=h.home _ _ _ b h6 h7;exact⟨aa M O.size,Y⟩
  ·obtain⟨k1,_⟩:=e _ _ e1 h1;rw[hβo _ _ e1]at h2;obtain⟨M,Y⟩:=h.home _ _ _ b k1 h2;exact⟨aa M O.size,Y⟩
 ·intro L g1 x1 ζ h1;have e1:L≠o:=by omega
  obtain⟨k1,_⟩:=e _ _ e1 h1;rw[hβo _ _ e1];exact h.pin _ _ _ ζ k1
 ·by_cases e1:L=o
  ·have:=j _ (by rw[←e1];exact h1);simp only[Prod.mk.injEq]at this;rw[←this.2]at α;cases α
  ·obtain⟨k1,_⟩:=e _ _ e1 h1;rw[hβo _ _ e1];exact h.hist _ _ _ _ _ k1
theorem BZ.extend{E:CW}{c:EG}{β:Nat->Nat->Value}{s:BG}{tm:Array Value}{w w':World}(h:BZ E c β s tm w){o g:Nat}{x Z:AY}{l us:List Value}
  (p:s.V.ob o=some (g,Z)) (ε:o<Cr) (hv:β o g=.tuple l.toArray) (A:Hd (.tuple l.toArray) w w')
  (hb:∀b u,u∈us->A9 u=some b->(w.heap.size<=b\/C4 (β o g) b)/\b<w'.heap.size)
  (ho:∀β' fb',(∀b,b<w.heap.size->fb' b->c.bar β s.V b)->Ef w' fb' β' s.V.cn x (.tuple (l++us).toArray)) (U:x.isHist=false:=by rfl) :
  BZ E c (Eh β o g (.tuple (l++us).toArray)) { s with V:=s.V.app (.keep o g x) } tm w':=by
 obtain⟨V',B⟩:∃V',V'=s.V.app (.keep o g x):=⟨_,rfl⟩
 obtain⟨T,hT⟩:∃T,T=Value.tuple (l++us).toArray:=⟨_,rfl⟩
 rw[←hT]at ho;rw[←B,←hT];have Y:V'.cn=s.V.cn:=by rw[B];rfl
 have j:∀z,V'.ob o=some z->z=(g,x):=fun z R=>by
  rw[B]at R;simp[AO.app,CB]at R;exact R.symm
 have e:∀o' z,o'≠o->V'.ob o'=some z->s.V.ob o'=some z:=fun o' z hne R=>by
  rw[B]at R;simpa only[AO.app,CB,hne,if_false]using R
 have hβ:∀k m,m<s.V.cn k->z9 β (Eh β o g T) k m:=fun k m _=>by
  unfold z9;simp only[Eh];split
  ·rename_i hh;obtain⟨rfl,rfl⟩:=hh;exact .inr ⟨l,us,hv,hT⟩
  ·exact .inl rfl
 have hβo:∀k m,k≠o->Eh β o g T k m=β k m:=fun k m hk=>by simp[Eh,hk]
 have O:∀b,C4 T b->(w.heap.size<=b\/C4 (β o g) b)/\b<w'.heap.size:=fun b G=>by
  rw[hT]at G;obtain⟨i,u,hi,hu⟩:=G;rw[c8]at hi
  by_cases γ:i<l.length
  ·rw[j0 γ]at hi;have h9:C4 (β o g) b:=by rw[hv];exact⟨i,u,by rw[c8];exact hi,hu⟩
   exact⟨.inr h9,aa (h.home _ _ _ b p h9).1 A.size⟩
  ·rw[pv (by omega)]at hi;exact hb b u (cp hi) hu
 have q:∀b,b<w.heap.size->c.bar (Eh β o g T) V' b->c.bar β s.V b:=by
  intro b J hh;rcases hh with hh|⟨o',g',x',h1,h2⟩
  ·exact .inl hh
  ·by_cases r:o'=o
   ·subst r;have:=j _ h1;simp only[Prod.mk.injEq]at this;obtain⟨rfl,rfl⟩:=this;rw[BM]at h2;rcases(O b h2).1 with y|y
    ·omega
    ·exact .inr ⟨_,_,_,p,y⟩
   ·rw[hβo _ _ r]at h2;exact .inr ⟨o',g',x',e _ _ r h1,h2⟩
 have M:Aq (c.bar β s.V) w w':=fun b hn J=>A.block b J fun r=>hn (.inr ⟨o,g,Z,p,by rw[hv];exact r⟩)
 refine⟨⟨A.os.trans h.keep.os,A.tape.trans h.keep.tape,A.output.trans h.keep.output,ck h.keep.size A.size,fun k hk hm=>?_⟩,h.low,fun g cs hg=>(h.glob g cs hg).mono M q,fun t=>?_,fun o' g' x' hx=>?_,?_,?_,?_,fun N g1 els n st h1=>?_⟩
 ·rw[←h.keep.block k hk hm];refine A.block k (aa hk h.keep.size) fun r=>?_
  rcases(h.home o g Z k p (by rw[hv];exact r)).2.1 with h5|h5
  ·omega
  ·exact hm h5
 ·show AP w' (c.bar _ V') _ V'.cn _ _;rw[Y];exact(h.slots t).monoE M (q) hβ (fun _=>ax _)
 ·show g' < V'.cn o'/\Ef w' (c.bar _ V') _ V'.cn x' _;rw[Y]
  by_cases r:o'=o
  ·subst r;have:=j _ hx;simp only[Prod.mk.injEq]at this;obtain⟨rfl,rfl⟩:=this;rw[BM];exact⟨(h.objs _ _ _ p).1,ho _ _ q⟩
  ·have y:=e _ _ r hx;obtain⟨h1,h2⟩:=h.objs o' g' x' y;rw[hβo _ _ r];exact⟨h1,h2.monoE M (q) hβ (fun _=>ax _) fun b G J=>A.block b J fun δ=>r (h.sep o' o g' g x' Z b y p G (by rw[hv];exact δ))⟩
 ·intro N S g1 g2 x1 x2 b h1 h2 y L
  have one:∀{S g2 x2},S≠o->V'.ob S=some (g2,x2)->C4 T b->C4 (Eh β o g T S g2) b->False:=fun {S g2 x2} hne k1 k2 k3=>by
   have k4:=e _ _ hne k1;rw[hβo _ _ hne]at k3;rcases(O b k2).1 with h8|h8
   ·have:=(h.home _ _ _ b k4 k3).1;omega
   ·exact hne (h.sep _ _ _ _ _ _ b k4 p k3 h8)
  by_cases e1:N=o<;>by_cases e2:S=o
  ·rw[e1,e2]
  ·have:=j _ (by rw[←e1];exact h1);simp only[Prod.mk.injEq]at this;rw[e1,this.1,BM]at y;exact(one e2 h2 y L).elim
  ·have:=j _ (by rw[←e2];exact h2);simp only[Prod.mk.injEq]at this;rw[e2,this.1,BM]at L;exact(one e1 h1 L y).elim
  ·have k1:=e _ _ e1 h1;have k2:=e _ _ e2 h2;rw[hβo _ _ e1]at y;rw[hβo _ _ e2]at L;exact h.sep _ _ _ _ _ _ b k1 k2 y L
 ·intro N g1 x1 b h1 h2
  by_cases e1:N=o
  ·have:=j _ (by rw[←e1];exact h1);simp only[Prod.mk.injEq]at this;rw[e1,this.1,BM]at h2;obtain⟨X,h7⟩:=O b h2;rcases X with X|X
   ·exact⟨h7,.inl (ck h.keep.size X),fun hf=>by have:=(h.low b hf).1;have:=h.keep.size;omega⟩
   ·exact⟨h7,(h.home _ _ _ b p X).2⟩
  ·have k1:=e _ _ e1 h1;rw[hβo _ _ e1]at h2;obtain⟨L,h5⟩:=h.home _ _ _ b k1 h2;exact⟨aa L A.size,h5⟩
 ·intro N g1 x1 α h1;have e1:N≠o:=by omega
  have k1:=e _ _ e1 h1;rw[hβo _ _ e1];exact h.pin _ _ _ α k1
 ·by_cases e1:N=o
  ·have:=j _ (by rw[←e1];exact h1);simp only[Prod.mk.injEq]at this;rw[←this.2]at U;cases U
  ·have k1:=e _ _ e1 h1;rw[hβo _ _ e1];exact h.hist _ _ _ _ _ k1
theorem BZ.drop{E:CW}{c:EG}{β:Nat->Nat->Value}{s:BG}{tm:Array Value}{w:World}(h:BZ E c β s tm w){s':BG}
  (l:s'.sl=s.sl) (j:s'.V.cn=s.V.cn) (e:∀o y,s'.V.ob o=some y->s.V.ob o=some y):BZ E c β s' tm w:=by
 have i:∀b,c.bar β s'.V b->c.bar β s.V b:=by
  intro b hh;rcases hh with hh|⟨o',g',x',h1,h2⟩
  ·exact .inl hh
  ·exact .inr ⟨o',g',x',e _ _ h1,h2⟩
 refine⟨h.keep,h.low,fun g cs hg=>(h.glob g cs hg).mono (Aq.refl _ _) fun b _=>i b,fun t=>?_,fun o' g' x' hx=>?_,fun z m r q u p b h1 h2=>h.sep _ _ _ _ _ _ b (e _ _ h1) (e _ _ h2),fun o g x b hx=>h.home o g x b (e _ _ hx),fun o g x ho hx=>h.pin o g x ho (e _ _ hx),fun o g els n st hx=>h.hist o g els n st (e _ _ hx)⟩
 ·rw[l,j];exact(h.slots t).mono (Aq.refl _ _) (fun b _=>i b) (fun _ _ _=>rfl) (fun _=>ax _)
 ·obtain⟨h1,h2⟩:=h.objs o' g' x' (e _ _ hx);rw[j];exact⟨h1,h2.mono (Aq.refl _ _) (fun b _=>i b) (fun _ _ _=>rfl) (fun _=>ax _) fun _ _ _=>rfl⟩
theorem AO.get_some{V:AO}{o g:Nat}{x:AY}(h:V.get o g=some x):V.ob o=some (g,x):=by
 unfold AO.get at h;split at h
 ·rename_i g' x' hh;split at h
  ·rename_i e;subst e;simp_all
  ·cases h
 ·cases h
theorem AP.own_new{w:World}{fb:Nat->Prop}{β:Nat->Nat->Value}{cn cn':Nat->Nat}{o:Nat}{v:Value}(hv:v.oneCell'=true)(e:cn o<cn' o):AP w fb (Eh β o (cn o) v) cn' (.own o (cn o)) v:=by
 have:=AP.own (w:=w) (fb:=fb) (β:=Eh β o (cn o) v) (cn:=cn') o (cn o) e (by rw[BM];exact hv);rwa [BM]at this
theorem AP.map_new{w:World}{fb:Nat->Prop}{β:Nat->Nat->Value}{cn cn':Nat->Nat}{o:Nat}{v:Value}(hv:v.oneCell'=true)(e:cn o<cn' o):AP w fb (Eh β o (cn o) v) cn' (.map o (cn o)) v:=by
 have:=AP.map (w:=w) (fb:=fb) (β:=Eh β o (cn o) v) (cn:=cn') o (cn o) e (by rw[BM];exact hv);rwa [BM]at this
theorem AP.oneCell{w:World}{fb:Nat->Prop}{β:Nat->Nat->Value}{cn:Nat->Nat}{a:AV}{v:Value}(h:AP w fb β cn a v)(h1:a.one=true):v.oneCell'=true:=by
 cases h with
 |d x v h=>exact h.oneCell h1
 |own o g hg hh=>exact hh
 |map o g hg hh=>exact hh
 |mref k o g u hg hh h2=>exact h2
 |ablk sl cs off b base vs u hb hne h1 hc hv hu=>subst hu;cases sl<;>rfl
 |_=>first|rfl|simp[AV.one]at h1
theorem G1(V:AO)(o:Nat)(x:AY):V.cn o<(V.app (.fresh o x)).cn o:=by simp[AO.app,CB]
end Go.Pw
end
section
namespace Go.Pw
def inK(k:IntKind)(n:Int):Bool:=decide (k.min<=n) && decide (n<=k.max)
def Rq:Value->Option D
 |.int k n=>if inK k n then some (.int k n)else none
 |.bool b=>some (.bool b)
 |.slice none 0 0=>some (.list true [])
 |.pointer none=>some .nilptr
 |.map none=>some .nilmap
 |.nilFunc=>some .nilfn
 |_=>none
def UO(E:CW):Operand->Option Jk
 |.tmp t=>some (.t t)
 |.const v=>(Rq v).map fun d=>.k (.d d)
 |.global g=>(E.G g).map fun cs=>.k (.d (.ptr cs))
 |.func f=>some (.k (.fn f []))
def HT(P:Program)(t:TypeId):Option Nat:=(P.info? t).map (·.size)
def Ln(P:Program)(t:TypeId):Option Bool :=
 match P.underlying t with
 |some (.struct _)|some (.array _ _)=>some true
 |some _=>some false
 |none=>none
def LY(P:Program)(t:TypeId):Option (List D) :=
 match (P.info? t).bind (·.zero)with
 |some v=>Ax Rq v.cells.toList
 |none=>none
def F4(P:Program)(t:TypeId):Option D :=
 match (P.info? t).bind (·.zero)with
 |some (.agg cs)=>(Ax Rq cs.toList).map .agg
 |some v=>Rq v
 |none=>none
def Ea(P:Program)(t:TypeId):Option (Option IntKind) :=
 match P.underlying t with
 |some (.int k)=>some (some k)
 |some .bool=>some none
 |_=>none
def C5(P:Program)(t:TypeId):Option LW :=
 match P.underlying t with
 |some (.int k)=>some (false,[some k])
 |some .bool=>some (false,[none])
 |some (.struct fs)=>if P.stoodInHeld t=false/\P.eqGuardType P.depth t=false/\(fs.toList.zipIdx.all fun(f,i)=>f.name != "_" && f.offset == i)=true then
  (Ax (fun f=>Ea P f.type) fs.toList).map fun l=>(true,l)else none
 |some (.array n e)=>if P.eqGuardType P.depth t=false/\HT P e=some 1 then(Ea P e).map fun k=>(true,cw n k)else none
 |_=>none
def X8(E:CW)(xs:List Operand):Option (List Jk):=Ax (UO E) xs
def V3(E:CW)(draw:Bool)(b:Builtin)(argTypes:Array TypeId)(args:List Operand):Option (Bx×List Operand) :=
 let P:=E.P
 match b with
 |.len=>match args with
  |[x]=>match (argTypes[0]?).bind P.underlying with
   |some (.slice _)=>some (.len false,[x])
   |some (.map ..)=>some (.len true,[x])
   |_=>none
  |_=>none
 |.cap=>match args with
  |[x]=>match (argTypes[0]?).bind P.underlying with
   |some (.slice _)=>some (.cap,[x])
   |_=>none
  |_=>none
 |.min=>match args with
  |x::xs=>some (.minmax false,x::xs)
  |_=>none
 |.max=>match args with
  |x::xs=>some (.minmax true,x::xs)
  |_=>none
 |.append=>match args with
  |[x,y]=>match (argTypes[0]?).bind P.underlying,(argTypes[1]?).bind P.underlying with
   |some (.slice e),some ty=>match P.info? e,F4 P e with
    |some i,some z=>if 0<i.size/\i.bytes<=65536/\(i.zero.map (·.cells.size))=some i.size then(match ty with
     |.slice e'=>if e=e' then some (.app e i.size none (!draw),[x,y])else none
     |.int .i64=>if z.cells.length=i.size then some (.app e i.size (some z) (!draw),[x,y])else none
     |_=>none)else none
    |_,_=>none
   |_,_=>none
  |_=>none
 |_=>none
def Lu(E:CW)(draw:Bool)(c:Call):Option (Bx×List Operand) :=
 match c.callee with
 |.value (.func f)=>if BA E.P f then some (.call f,c.args.toList)else none
 |.value x=>some (.callv,x::c.args.toList)
 |.builtin b=>V3 E draw b c.argTypes c.args.toList
 |_=>none
def qs:BinOp->Option Bool
 |.eql=>some false
 |.neq=>some true
 |_=>none
def rD(E:CW)(b:BinOp)(t:TypeId)(x y:Operand):Option (Bx×List Operand) :=
 match E.P.underlying t with
 |some (.int _)=>some (.bin b,[x,y])
 |some (.struct _)=>(qs b).bind fun n=>(C5 E.P t).map fun tys=>(.eqv n tys,[x,y])
 |some (.array _ _)=>(qs b).bind fun n=>(C5 E.P t).map fun tys=>(.eqv n tys,[x,y])
 |some (.slice _)=>(qs b).map fun n=>(.eqnil n,[x,y])
 |_=>none
def jB(E:CW)(draw:Bool)(used:Bool)(op:Op):Option (Bx×List Operand) :=
 let P:=E.P
 match op with
 |.move x|.assign x=>some (.mov,[x])
 |.pick c a b=>some (.pick,[c,a,b])
 |.box _ x=>some (.box,[x])
 |.alloc e=>(LY P e).map fun cs=>(.zero cs,[])
 |.build t parts=>match LY P t,P.underlying t with
  |some z,some (.struct fs) =>
   match fs.toList.mapM (fun f=>(P.info? f.type).map fun i=>(f.offset,i.size))with
   |some places=>(match Ax (fun(p:Nat×Operand)=>places[p.1]?) parts.toList with
    |some pl=>some (.build z pl,parts.toList.map (·.2))
    |none=>none)
   |none=>none
  |some z,some (.array _ e)=>match HT P e with
   |some s=>some (.build z (parts.toList.map fun p=>(p.1*s,s)),parts.toList.map (·.2))
   |none=>none
  |_,_=>none
 |.buildSlice t len parts=>match P.underlying t with
  |some (.slice e)=>match F4 P e,HT P e with
   |some z,some s=>if 0<s/\s=z.cells.length/\len*s<=16777216 then
     some (if used && !draw then .mkrowO e s z len (parts.toList.map (·.1))else .mkrow s z len (parts.toList.map (·.1)),parts.toList.map (·.2))else none
   |_,_=>none
  |_=>none
 |.load t a=>match Ln P t,HT P t with
  |some ag,some n=>if 0<n/\(ag\/n=1)then some (.load ag n,[a])else none
  |_,_=>none
 |.store t a x=>match HT P t with
  |some n=>if 0<n then some (.store n,[a,x])else none
  |none=>none
 |.nilCheck x=>some (.nilck,[x])
 |.binOp b t x y _=>rD E b t x y
 |.unOp u _ x=>some (.un u,[x])
 |.convert s t x=>match P.underlying s,P.underlying t with
  |some (.int _),some (.int k)=>some (.conv k,[x])
  |_,_=>none
 |.makeFunc (.func f) first captured=>if first.size=0/\BA P f then some (.mkfn f,captured.toList)else if captured.size=0/\BA P f then some (.mkbnd f,first.toList)else none
 |.makeMap t none=>match P.underlying t with
  |some (.map k _)=>(C5 P k).map fun tys=>(.mkmap tys,[])
  |_=>none
 |.makeSlice t l c=>match P.underlying t with
  |some (.slice e)=>match P.info? e,F4 P e with
   |some i,some z=>if 0<i.size/\i.bytes<=131072/\z.cells.length=i.size then some (.mksl e i.size z (!draw),[l,c])else none
   |_,_=>none
  |_=>none
 |.slice t x lo hi mx=>match P.underlying t with
  |some (.slice e)=>match HT P e with
   |some s=>if 0<s then some (.slice s lo.isSome hi.isSome mx.isSome,x::(lo.toList++hi.toList++mx.toList))else none
   |none=>none
  |some (.array n e)=>match lo,mx with
   |none,none=>if HT P e=some 1/\n<=4096 then some (.slice 1 true true true,[x,hi.getD (.const (.int .i64 n)),.const (.int .i64 n)])else none
   |_,_=>none
  |_=>none
 |.fieldAddr t x f=>match P.underlying t with
  |some (.struct fs)=>(fs[f]?).bind fun f=>match HT P f.type with
   |some n=>if 0<n then some (.faddr f.offset,[x])else none
   |none=>none
  |_=>none
 |.indexAddr t x i=>match P.underlying t with
  |some (.slice e)=>match HT P e with
   |some s=>if 0<s then some (.iaddrS s,[x,i])else none
   |none=>none
  |some (.array n e)=>match HT P e with
   |some s=>if 0<s then some (.iaddrA n s,[x,i])else none
   |none=>none
  |_=>none
 |.index t x i=>match P.underlying t with
  |some .string=>match x with
   |.const (.string s)=>some (.strx s,[i])
   |_=>none
  |_=>none
 |.range t m=>match P.underlying t with
  |some (.map _ _)=>some (.mrange,[m])
  |_=>none
 |.entry it=>some (.mentry,[it])
 |.lookup t x k ok=>match P.underlying t with
  |some (.map kt e)=>match C5 P kt,F4 P e with
   |some tys,some z=>some (.lookup ok tys z,[x,k])
   |_,_=>none
  |_=>none
 |.mapUpdate t m k v=>match P.underlying t with
  |some (.map kt _)=>(C5 P kt).map fun tys=>(.mapupd tys,[m,k,v])
  |_=>none
 |.mapEntry t m k=>match P.underlying t with
  |some (.map kt e)=>match C5 P kt,F4 P e with
   |some tys,some z=>if z.one then some (.mapent tys z,[m,k])else none
   |_,_=>none
  |_=>none
 |.entryStore _ m s v=>some (.entst,[m,s,v])
 |.extract x i=>some (.extract i,[x])
 |.call c=>Lu E draw c
 |_=>none
def rB(E:CW)(op:Op):Option (Bx×List Operand):=none
def TB(E:CW)(sp draw used:Bool)(op:Op):Option (Bx×List Operand):=if sp then rB E op else jB E draw used op
def AAb(fl:List Nat):Option Tmp->Bool
 |some t=>fl.contains (t+3000000)
 |none=>false
def ABd(fl:List Nat):Option Tmp->Bool
 |some t=>fl.contains (t+2000000)
 |none=>false
def xh(ops:List Oper)(d:Option Tmp):Bool :=
 match d with
 |some t=>ops.any fun o=>match o.op with|.assign (.tmp u)=>u == t|.store _ _ (.tmp u)=>u == t|_=>false
 |none=>false
def xW(n:Nat):Option Tmp->Bool
 |some t=>decide (t<n)
 |none=>true
def AA'(n:Nat)(ops:List Oper):Option (Nat×Bool)->Option (Option (Nat×Bool))
 |none=>some none
 |some (j,b)=>match (ops[j]?).bind (·.dst)with
  |some t=>if t<n then some (some (t,b))else none
  |none=>none
def AA5(fl:List Nat):Option Tmp->Bool
 |some t=>fl.contains t
 |none=>false
def Nv(E:CW)(draw:Bool)(fl:List Nat)(n:Nat)(ops:List Oper)(o:Oper):Option Fu :=
 match TB E (ABd fl o.dst) ((draw != AA5 fl o.dst) && !AAb fl o.dst) (xh ops o.dst || AA5 fl o.dst || AAb fl o.dst) o.op with
 |none=>none
 |some (op,xs)=>match X8 E xs with
  |none=>none
  |some ys=>match xW n o.dst,AA' n ops o.guard with
   |true,some g=>some ⟨o.dst,g,op,ys⟩
   |_,_=>none
end Go.Pw
end
section
namespace Go.Pw
open Go.RowKit
theorem LZ(k:IntKind)(n:Int):N7 k (k.wrap n):=by
 cases k<;>simp only[N7,IntKind.min,IntKind.max,IntKind.wrap,IntKind.signed,IntKind.bits]<;>simp<;>(repeat' split)<;>omega
theorem JH{w fb}{v:Value}{d:D}(h:Rq v=some d):Ar w fb d v:=by
 unfold Rq at h;split at h
 ·split at h
  ·rename_i hk;simp at h;subst h;exact .int _ _ (by simpa[inK,N7]using hk)
  ·cases h
 all_goals first|(simp at h;subst h;constructor)|cases h
def dt(E:CW)(c:EG)(s:BG)(tm:Array Value)(K:AV->Bs->Prop)(r:Result Next):Prop :=
 (∃u w' v ch β',(r=.ok (.value u) w'\/(r=.ok .skip w'/\v=.undef))/\K v ch/\BZ E c β' ⟨s.sl,s.V.app ch⟩ tm w' /\
  AP w' (c.bar β' (s.V.app ch)) β' (s.V.app ch).cn v u) \/
 (∃f args w',r=.ok (.enter f args) w'/\Calls E.P f args w' fun e w''=>∃u v ch β',e=.returned u/\K v ch/\BZ E c β' ⟨s.sl,s.V.app ch⟩ tm w'' /\
  AP w'' (c.bar β' (s.V.app ch)) β' (s.V.app ch).cn v u)
section
variable {E:CW}{c:EG}{β:Nat->Nat->Value}{s:BG}{tm:Array Value}{w:World}{K:AV->Bs->Prop}
theorem C1(h:BZ E c β s tm w){v:AV}{u:Value}{r:Result Next}(e:K v .none)(hr:r=.ok (.value u) w)(hv:AP w (c.bar β s.V) β s.V.cn v u):dt E c s tm K r :=
 .inl ⟨u,w,v,.none,β,.inl hr,e,h,hv⟩
theorem BQ{fb β' cn k n}{u:Value}(h:AP w fb β' cn (.d (.int k n)) u):u=.int k n/\N7 k n:=by
 cases h with|d _ _ h=>cases h with|int _ _ h=>exact⟨rfl,h⟩
theorem Qn{fb β' cn b}{u:Value}(h:AP w fb β' cn (.d (.bool b)) u):u=.bool b:=by
 cases h with|d _ _ h=>cases h;rfl
theorem Ew{fb β' cn k n}(h:N7 k n):AP w fb β' cn (.d (.int k n)) (.int k n):=.d _ _ (.int _ _ h)
theorem Ly{fb β' cn b}:AP w fb β' cn (.d (.bool b)) (.bool b):=.d _ _ (.bool _)
theorem sW{k:IntKind}{a b:Int}(l:N7 k a)(hb:N7 k b)(h0:b≠0):N7 k (a.tmod b):=by
 have h1:(a.tmod b).natAbs<=a.natAbs:=by rw[Int.natAbs_tmod];exact Nat.mod_le _ _
 have h2:0<=a->0<=a.tmod b:=fun h=>q7 b h
 have j:a<=0->a.tmod b<=0:=fun h=>by
  have:=q7 b (show 0<=-a by omega);rw[Int.neg_tmod]at this;omega
 unfold N7 at *;have e:k.min<=0:=by cases k<;>decide
 have i:0<=k.max:=by cases k<;>decide
 rcases Int.le_total 0 a with h|h
 ·have:=h2 h;omega
 ·have:=j h;omega
theorem vI{k:IntKind}{a:Int}(m:N7 k a)(n:Nat):N7 k (a.fdiv (2^n)):=by
 have hp:(0:Int)<2^n:=Int.pow_pos (by decide);rw[Int.fdiv_eq_ediv_of_nonneg _ (ra hp)];unfold N7 at *;have e:k.min<=0:=by cases k<;>decide
 have i:0<=k.max:=by cases k<;>decide
 have h1:0<=a->a/2^n<=a:=fun h=>Int.ediv_le_self _ h
 have h2:0<=a->0<=a/2^n:=fun h=>Int.ediv_nonneg h (ra hp)
 have l:a<0->a/2^n<0:=fun h=>Int.ediv_neg_of_neg_of_pos h hp
 have j:a<0->a<=a/2^n:=fun h=>by
  have:a*2^n<=a:=by
   have:a*2^n<=a*1:=Int.mul_le_mul_of_nonpos_left (by omega) (by omega);omega
  exact Int.le_ediv_of_mul_le hp this
 rcases Int.lt_or_le a 0 with h|h
 ·have:=l h;have:=j h;omega
 ·have:=h1 h;have:=h2 h;omega
theorem Ud(a b:Int):(a == b)=decide (a=b):=by rw[Bool.eq_iff_iff];simp
theorem jq(h:BZ E c β s tm w){op:BinOp}{t:TypeId}{x y:Operand}{k k':IntKind}{a b:Int}{u v:Value}
  (hu:AP w (c.bar β s.V) β s.V.cn (.d (.int k a)) u) (hv:AP w (c.bar β s.V) β s.V.cn (.d (.int k' b)) v)
  (i:Dn op k k' a b (K · .none)) {l:Sem Value->Sem Next}(j:l=fun s=>do pure (.value (←s))) :
  dt E c s tm K ((l (do eqGuard op t x y u v;binOp op t u v)).run E.P w):=by
 obtain⟨rfl,m⟩:=BQ hu;obtain⟨rfl,hb⟩:=BQ hv;subst j
 have hg:(eqGuard op t x y (.int k a) (.int k' b)).run E.P w=.ok () w:=by
  unfold eqGuard;cases op<;>simp
 cases op<;>simp only[Dn]at i
 case shl =>
  obtain⟨h0,e⟩:=i;exact C1 h e (by simp[hg,binOp,Op.shift,rb.2 h0]) (Ew (LZ _ _))
 case shr =>
  obtain⟨h0,e⟩:=i;exact C1 h e (by simp[hg,binOp,Op.shift,rb.2 h0]) (Ew (vI m _))
 case quo =>
  obtain⟨rfl,h0,e⟩:=i;exact C1 h e (by simp[hg,binOp,Op.intDiv,h0]) (Ew (LZ _ _))
 case rem =>
  obtain⟨rfl,h0,e⟩:=i;exact C1 h e (by simp[hg,binOp,Op.intDiv,h0]) (Ew (sW m hb h0))
 all_goals(obtain⟨rfl,e⟩:=i)
 case add|sub|mul=>exact C1 h e (by simp[hg,binOp,Op.intArith]) (Ew (LZ _ _))
 case and|or|xor|andNot=>exact C1 h e (by simp[hg,binOp,Op.intBits,Ah]) (Ew (LZ _ _))
 case eql=>exact C1 h e (by simp[hg,binOp,Op.intCmp,Ud]) Ly
 case neq=>exact C1 h e (by simp[hg,binOp,Op.intCmp,bne,Ud]) Ly
 all_goals exact C1 h e (by simp[hg,binOp,Op.intCmp]) Ly
theorem SY{P:Program}{t:TypeId}{ag:Bool}(h:Ln P t=some ag)(w:World):(isAgg t).run P w=.ok ag w:=by
 unfold Ln at h;split at h
 ·rename_i fs hu;simp at h;subst h;simp[isAgg,run_underlying hu]
 ·rename_i n e hu;simp at h;subst h;simp[isAgg,run_underlying hu]
 ·rename_i d h1 h2 hu;simp at h;subst h;simp only[isAgg,Sem.run_bind,run_underlying hu,Result.andThen_ok]
  cases d<;>simp_all
 ·cases h
theorem CE{P:Program}{t:TypeId}{n:Nat}(h:HT P t=some n)(w:World):(sizeOf t).run P w=.ok n w:=by
 unfold HT at h
 cases hi:P.info? t with
 |none=>simp[hi]at h
 |some i=>simp[hi]at h;subst h;simp[sizeOf,typeInfo,hi]
def CV{α:Type}(R:α->Value->Prop)(cs:List α)(vs:Array Value):Prop:=vs.size=cs.length/\∀(i:Nat) (c:α) (v:Value),cs[i]?=some c->vs[i]?=some v->R c v
theorem Zq{fb β' cn cs}{u:Value}(h:AP w fb β' cn (.agg cs) u):∃vs,u=.agg vs/\CV (AP w fb β' cn) cs vs/\∀x,x∈cs->x.one=true:=by
 cases h with|agg _ vs hl h1 h=>exact⟨vs,rfl,⟨hl,h⟩,h1⟩
theorem rE{fb β' cn cs}{u:Value}(h:AP w fb β' cn (.d (.agg cs)) u):∃vs,u=.agg vs/\CV (Ar w fb) cs vs/\∀x,x∈cs->x.one=true:=by
 cases h with|d _ _ h=>cases h with|agg _ vs hl h1 h=>exact⟨vs,rfl,⟨hl,h⟩,h1⟩
theorem WQ{fb β' cn cs vs}(h:CV (AP w fb β' cn) cs vs)(h1:∀x,x∈cs->x.one=true):AP w fb β' cn (.agg cs) (.agg vs):=.agg _ _ h.1 h1 h.2
theorem Ul{fb β' cn cs vs}(h:CV (Ar w fb) cs vs)(h1:∀x,x∈cs->x.one=true):AP w fb β' cn (.d (.agg cs)) (.agg vs):=.d _ _ (.agg _ _ h.1 h1 h.2)
theorem Fa{α:Type}{R:α->Value->Prop}(h:BZ E c β s tm w){cs:List α}{b base off:Nat}{vs:Nat->Value}
  (hc:∀(j:Nat) (x:α),cs[j]?=some x->w.cell? ⟨b,base+j,none⟩=some (vs j)) (hv:∀(j:Nat) (x:α),cs[j]?=some x->R x (vs j))
  {mk:List α->AV}{one:α->AV}{t:TypeId}{ag:Bool}{n:Nat}
  (m:Ln E.P t=some ag) (r:HT E.P t=some n)
  (q:∀l (us:Array Value),(∀x,x∈l->x∈cs)->CV R l us->AP w (c.bar β s.V) β s.V.cn (mk l) (.agg us))
  (p:∀x u,R x u->AP w (c.bar β s.V) β s.V.cn (one x) u)
  (e:DI ag n cs off mk one (K · .none)):∃u,(loadVar t ⟨b,base+off,none⟩).run E.P w=.ok u w/\∃v,K v .none/\AP w (c.bar β s.V) β s.V.cn v u:=by
 unfold DI at e
 cases ag with
 |true =>
  simp only[if_true]at e;obtain⟨h1,h2⟩:=e
  have hl:=run_loadCells (P:=E.P) w ⟨b,base+off,none⟩ n (fun j=>vs (off+j)) (fun j y=>by
   rw[Addr.add_lit,f0];obtain⟨x,hx⟩:∃x,cs[off+j]?=some x:=⟨_,i7 (by omega)⟩
   exact hc _ x hx)
  refine⟨.agg ((List.range n).map fun j=>vs (off+j)).toArray,by simp[loadVar,SY m,CE r,hl],_,h2,q _ _ (fun x hx=>hY (eb hx)) ⟨by simp;omega,fun i x v hx o=>?_⟩⟩;rw[j4]at hx;split at hx
  ·rename_i hi;rw[kk]at hx;simp[hi]at o;subst o;exact hv _ x hx
  ·cases hx
 |false =>
  simp only[la,if_false]at e;split at e
  ·rename_i x hx;exact⟨vs off,by simp[loadVar,SY m,run_load,hc off x hx],_,e,p x _ (hv off x hx)⟩
  ·exact e.elim
theorem CI{w:World}{b:Nat}{cur:Array Value}{e:TypeId}{fr}(hb:w.heap[b]?=some (.cells cur e fr))(j:Nat):w.cell? ⟨b,j,none⟩=cur[j]?:=by
 simp[World.cell?,hb]
theorem VD(h:BZ E c β s tm w){t:TypeId}{ag:Bool}{n:Nat}(B:Ln E.P t=some ag)(J:HT E.P t=some n){dst:Option Nat}{p:AV}{u:Value}
  (hp:AP w (c.bar β s.V) β s.V.cn p u) (m:ev E dst s.V (.load ag n) [p] K) :
  ∃r,(Instr.loadAt t u).run E.P w=.ok r w/\∃v,K v .none/\AP w (c.bar β s.V) β s.V.cn v r:=by
 unfold ev at m;simp only at m
 cases p with
 |ptr o g off =>
  simp only at m;split at m
  ·rename_i cs hg;have G:=AO.get_some hg
   cases hp with|ptr _ _ _ b z hβ =>
   have ho:=(h.objs _ _ _ G).2;rw[hβ]at ho
   cases ho with|cells _ _ cur e hb hl h1 hx =>
   have:=Fa (R:=AP w (c.bar β s.V) β s.V.cn) h (cs:=cs) (b:=b) (base:=0) (off:=off) (vs:=fun j=>cur.getD j undef) (fun j x S=>by
     have z:j<cur.size:=by rw[hl];exact(ay.1 S).1
     rw[Nat.zero_add,CI hb,et z];simp[ea,z])
    (fun j x S=>by
     have z:j<cur.size:=by rw[hl];exact(ay.1 S).1
     exact hx j x _ S (by rw[et z];simp[ea,z]))
    B J (fun l us hm hc=>WQ hc fun x hx=>h1 x (hm x hx)) (fun x u hx=>hx) m
   obtain⟨r,hr,A⟩:=this;exact⟨r,by simpa[Instr.loadAt,Instr.sureAddr]using hr,A⟩
  ·exact m.elim
 |rptr o g es i off =>
  simp only at m;split at m
  ·rename_i es' nl l hg;obtain⟨rfl,m⟩:=m;split at m
   ·rename_i x T;have G:=AO.get_some hg
    cases hp with|rptr _ _ _ _ _ b b0 len cap z hβ =>
    have ho:=(h.objs _ _ _ G).2;rw[hβ]at ho
    cases ho with|row _ _ _ _ _ ho =>
    rcases ho with⟨_,_,A⟩|⟨_,b',off',cap',cur,h2,A,h4,h5,h6,h7,h8,h10,h9⟩
    ·cases A
    ·simp only[Value.slice.injEq,Option.some.injEq,Addr.mk.injEq]at h2;obtain⟨⟨rfl,rfl,_⟩,rfl,rfl⟩:=h2;have N:∀c,c∈x.cells->c.one=true:=fun c hc=>h10 x c (cp T) hc
     have:=Fa (R:=Ar w (c.bar β s.V)) h (cs:=x.cells) (b:=b) (base:=b0+i*es) (off:=off) (vs:=fun j=>cur.getD (b0+i*es+j) undef) (fun j c S=>by
       obtain⟨u,hu,_⟩:=h9 i x j c T S
       rw[CI A,hu];simp[ea,hu])
      (fun j c S=>by
       obtain⟨u,hu,hd⟩:=h9 i x j c T S
       simpa[ea,hu]using hd)
      B J (fun l us hm hc=>Ul hc fun x hx=>N x (hm x hx)) (fun x u hx=>.d _ _ hx) m
     obtain⟨r,hr,A⟩:=this;exact⟨r,by simpa[Instr.loadAt,Instr.sureAddr]using hr,A⟩
   ·exact m.elim
  ·exact m.elim
 |dptr cs off =>
  simp only at m
  cases hp with|dptr _ _ b base vs hb hne h1 hc hv =>
  obtain⟨r,hr,A⟩:=Fa (R:=Ar w (c.bar β s.V)) h (cs:=cs) (b:=b) (base:=base) (off:=off) (vs:=vs) hc hv B J
   (fun l us hm hc=>Ul hc fun x hx=>h1 x (hm x hx)) (fun x u hx=>.d _ _ hx) m
  exact⟨r,by simpa[Instr.loadAt,Instr.sureAddr]using hr,A⟩
 |d x =>
  cases x with
  |ptr cs =>
   simp only at m
   cases hp with|d _ _ hp=>cases hp with|ptr _ b base vs hb hne h1 hc hv =>
   obtain⟨r,hr,A⟩:=Fa (R:=Ar w (c.bar β s.V)) h (cs:=cs) (b:=b) (base:=base) (off:=0) (vs:=vs) hc hv B J
    (fun l us hm hc=>Ul hc fun x hx=>h1 x (hm x hx)) (fun x u hx=>.d _ _ hx) m
   exact⟨r,by simpa[Instr.loadAt,Instr.sureAddr]using hr,A⟩
  |_=>simp at m
 |mref k o g =>
  cases k with
  |xp i =>
   simp only at m;split at m
   ·rename_i e1 e2 nl ix rows hg;split at m
    ·rename_i j X;have G:=AO.get_some hg;obtain⟨v,hv⟩:∃v,β o g=v:=⟨_,rfl⟩
     cases hp with|mref _ _ _ u z hm hu1 =>
     have ho:=(h.objs _ _ _ G).2;rw[hv]at ho
     cases ho with|mat _ _ _ _ _ _ ho =>
     obtain⟨v0,vs,U,Z,h0,hr,α⟩:=ho;have L:=hv;rw[U]at L;rw[L]at hm;rcases h0 with⟨_,h01,_⟩|⟨_,b,off,cap,cur,h2,A,h4,h5,h6,h7⟩
     ·rw[h01]at X;simp at X
     ·obtain⟨uj,M,γ⟩:=h7 i j X;subst h2;simp only[Ei,Bn,ro,Option.bind_some,VC,Option.some.injEq]at hm;subst hm;obtain⟨x,hx⟩:∃x,rows[j]?=some x:=⟨_,i7 (by have:=(ay.1 M).1;omega)⟩
      have:=Fa (R:=AP w (c.bar β s.V) β s.V.cn) h (cs:=[.mref (.row j) o g]) (b:=b) (base:=off+i) (off:=0) (vs:=fun _=>uj) (fun q y O=>by
        cases q with
        |zero=>rw[CI A];simpa using γ
        |succ q=>simp at O)
       (fun q y O=>by
        cases q with
        |zero=>simp at O;subst O;exact .mref _ _ _ _ z (by rw[L];simp[Ei,M]) (hr j x uj hx M).1
        |succ q=>simp at O)
       B J (fun l us hm hc=>WQ hc fun x hx=>by
        have:=hm x hx;simp at this;subst this;rfl) (fun x u hx=>hx) m
      obtain⟨r,hr,A⟩:=this;exact⟨r,by simpa[Instr.loadAt,Instr.sureAddr]using hr,A⟩
    ·exact m.elim
   ·exact m.elim
  |mp j k =>
   simp only at m;split at m
   ·rename_i e1 e2 nl ix rows hg;split at m
    ·rename_i x hx;split at m
     ·rename_i y Y;have G:=AO.get_some hg;obtain⟨v,hv⟩:∃v,β o g=v:=⟨_,rfl⟩
      cases hp with|mref _ _ _ u z hm hu1 =>
      have ho:=(h.objs _ _ _ G).2;rw[hv]at ho
      cases ho with|mat _ _ _ _ _ _ ho =>
      obtain⟨v0,vs,U,Z,h0,hr,α⟩:=ho;have L:=hv;rw[U]at L;rw[L]at hm;obtain⟨uj,M⟩:∃u,vs[j]?=some u:=⟨_,i7 (by have:=(ay.1 hx).1;omega)⟩
      rcases(hr j x uj hx M).2 (JR (by have:=(ay.1 Y).1;omega))with⟨_,h01,_⟩|⟨_,b,off,cap,cur,h2,A,h4,h5,h6,h7,h8,h10,h9⟩
      ·rw[h01]at Y;simp at Y
      ·subst h2;simp only[Ei,Bn,i5,M,Option.bind_some,VC,Option.some.injEq]at hm;subst hm;have N:∀c,c∈y.cells->c.one=true:=fun c hc=>h10 y c (cp Y) hc
       have:=Fa (R:=Ar w (c.bar β s.V)) h (cs:=y.cells) (b:=b) (base:=off+k) (off:=0) (vs:=fun q=>cur.getD (off+k+q) undef) (fun q cc O=>by
         obtain⟨u,hu,_⟩:=h9 k y q cc Y O;rw[hU]at hu
         rw[CI A,hu];simp[ea,hu])
        (fun q cc O=>by
         obtain⟨u,hu,hd⟩:=h9 k y q cc Y O;rw[hU]at hu
         simpa[ea,hu]using hd)
        B J (fun l us hm hc=>Ul hc fun x hx=>N x (hm x hx)) (fun x u hx=>.d _ _ hx) m
       obtain⟨r,hr,A⟩:=this;exact⟨r,by simpa[Instr.loadAt,Instr.sureAddr]using hr,A⟩
     ·exact m.elim
    ·exact m.elim
   ·exact m.elim
  |_=>simp at m
 |ablk sl cs off =>
  cases sl with
  |true=>simp at m
  |false =>
   simp only at m
   cases hp with|ablk _ _ _ b base vs u hb hne h1 hc hv hu =>
   subst hu
   obtain⟨r,hr,A⟩:=Fa (R:=AP w (c.bar β s.V) β s.V.cn) h (cs:=cs) (b:=b) (base:=base) (off:=off) (vs:=vs) hc hv B J
    (fun l us hm hc=>WQ hc fun x hx=>h1 x (hm x hx)) (fun x u hx=>hx) m
   exact⟨r,by simpa[Instr.loadAt,Instr.sureAddr,wZ]using hr,A⟩
 |_=>simp at m
end
end Go.Pw
end
section
namespace Go.Pw
open Go.RowKit
section
variable {E:CW}{c:EG}{β:Nat->Nat->Value}{s:BG}{tm:Array Value}{w:World}{K:AV->Bs->Prop}
theorem eS{dst:Option Nat}{x y z:AV}{u v t:Value}(hx:AP w (c.bar β s.V) β s.V.cn x u)(j:AP w (c.bar β s.V) β s.V.cn y v)
  (i:AP w (c.bar β s.V) β s.V.cn z t) (e:ev E dst s.V .pick [x,y,z] K) :
  ∃b,u=.bool b/\∃r,K r .none/\AP w (c.bar β s.V) β s.V.cn r (if b then v else t):=by
 unfold ev at e;simp only at e;split at e
 ·rename_i b m l h;simp only[List.cons.injEq,and_true]at h;obtain⟨rfl,rfl,rfl⟩:=h;obtain rfl:=Qn hx;refine⟨b,rfl,?_⟩
  cases b
  ·exact⟨_,e.2 rfl,by simpa using i⟩
  ·exact⟨_,e.1 rfl,by simpa using j⟩
 ·exact e.elim
theorem aw{t:TypeId}{f:Nat}{fs:Array Field}{j:Field}{n:Nat}(ht:E.P.underlying t=some (.struct fs))(m:fs[f]?=some j)(hn:HT E.P j.type=some n)(l:0<n)
  {dst:Option Nat}{p:AV}{u:Value}(hp:AP w (c.bar β s.V) β s.V.cn p u) (h:ev E dst s.V (.faddr j.offset) [p] K) :
  ∃r,(Instr.fieldAt t u f).run E.P w=.ok r w/\∃v,K v .none/\AP w (c.bar β s.V) β s.V.cn v r:=by
 have key:∀b off,(Instr.fieldAt t (.pointer (some ⟨b,off,none⟩)) f).run E.P w=.ok (.pointer (some ⟨b,off+j.offset,none⟩)) w:=by
  intro b off;have:n≠0:=by omega
  simp[Instr.fieldAt,run_underlying ht,m,Instr.sureAddr,fieldPlace,CE hn,this,Addr.add_lit]
 unfold ev at h;simp only at h;split at h
 ·rename_i o g a e;simp only[List.cons.injEq,and_true]at e;subst e
  cases hp with|ptr _ _ _ b hlt hβ=>exact⟨_,key _ _,_,h,.ptr _ _ _ b hlt hβ⟩
 ·rename_i o g es i a e;simp only[List.cons.injEq,and_true]at e;subst e
  cases hp with|rptr _ _ _ _ _ b b0 n cap hlt hβ=>exact⟨_,key _ _,_,h,by rw[f0];exact .rptr _ _ _ _ _ b b0 n cap hlt hβ⟩
 ·rename_i cs a e;simp only[List.cons.injEq,and_true]at e;subst e
  cases hp with|dptr _ _ b base vs hb hne h1 hc hv=>exact⟨_,key _ _,_,h,by rw[f0];exact .dptr _ _ b base vs hb hne h1 hc hv⟩
 ·rename_i cs e;simp only[List.cons.injEq,and_true]at e;subst e
  cases hp with|d _ _ hp=>cases hp with|ptr _ b base vs hb hne h1 hc hv=>exact⟨_,key _ _,_,h,.dptr _ _ b base vs hb hne h1 hc hv⟩
 ·rename_i cs a e;simp only[List.cons.injEq,and_true]at e;subst e
  cases hp with|ablk _ _ _ b base vs u hb hne h1 hc hv hu =>
  subst hu;exact⟨_,key _ _,_,h,.ablk false _ _ b base vs _ hb hne h1 hc hv (by simp[wZ,f0])⟩
 ·exact h.elim
theorem dE{fb β' cn}{nil:Bool}{l:List D}{a:Addr}{len cap:Nat}(h:Ar w fb (.list nil l) (.slice (some a) len cap)){i es:Nat}{x:D}(hx:l[i]?=some x)(hes:x.cells.length=es) :
  len=l.length/\AP w fb β' cn (.dptr x.cells 0) (.pointer (some (a.add (i*es)))):=by
 cases h with
 |empty=>simp at hx
 |list _ es' b off _ vs hcap hm hb n hs h1 hc hv =>
  have e:=cp hx;have:es=es':=hes.symm.trans (hs x e);subst this;refine⟨rfl,?_⟩;rw[Addr.add_lit];exact .dptr x.cells 0 b (off+i*es) (vs i) hb (fun h0=>by rw[h0]at hes;simp at hes;omega) (fun c hc=>h1 x c e hc) (fun j c m=>hc i x j c hx m) (fun j c m=>hv i x j c hx m)
theorem ic{off n cap:Nat}{v u:Value}(h:Ei (.bs off n cap) v=some u):∃b,v=.pointer (some ⟨b,0,none⟩)/\u=.slice (some ⟨b,off,none⟩) n cap/\n<=4096:=by
 unfold Ei at h;split at h<;>first|(rename_i e;cases e;done)|skip
 ·rename_i b e
  cases e
  split at h
  ·simp only[Option.some.injEq]at h;exact⟨_,rfl,h.symm,by assumption⟩
  ·cases h
 ·cases h
theorem Yl{t e:TypeId}{es:Nat}(ht:E.P.underlying t=some (.slice e))(R:HT E.P e=some es)(h:BZ E c β s tm w)
  {dst:Option Nat}{p q:AV}{u v:Value}(hp:AP w (c.bar β s.V) β s.V.cn p u) (L:AP w (c.bar β s.V) β s.V.cn q v) (y:ev E dst s.V (.iaddrS es) [p,q] K) :
  ∃r,(Instr.indexAt t u v).run E.P w=.ok r w/\∃x,K x .none/\AP w (c.bar β s.V) β s.V.cn x r:=by
 have N:E.P.elem t=e:=by simp[Program.elem,ht]
 have key:∀(a:Addr) (len cap:Nat) (k:IntKind) (i:Int),0<=i->i<len->(Instr.indexAt t (.slice (some a) len cap) (.int k i)).run E.P w=.ok (.pointer (some (a.add (i.toNat * es)))) w:=by
  intro a len cap k i h0 h1;rw[run_indexAt_slice w t a len cap k i (by rw[N];exact ht),if_pos ⟨h0,h1⟩,N,CE R];rfl
 unfold ev at y;simp only at y;split at y
 ·rename_i o g k i m;simp only[List.cons.injEq,and_true]at m;obtain⟨rfl,rfl⟩:=m;split at y
  ·rename_i ety es' nl l hg;obtain⟨rfl,h0,h1,B⟩:=y;obtain⟨rfl,_⟩:=BQ L;have G:=AO.get_some hg;obtain⟨z,ho⟩:=h.objs _ _ _ G
   cases ho with|row _ _ _ _ _ ho =>
   cases hp with|own _ _ _ _ =>
   rcases ho with⟨_,h2,h3⟩|⟨_,b,off,cap,cur,h2,_⟩
   ·subst h2;simp at h1;omega
   ·rw[h2];refine⟨_,key _ _ _ _ _ h0 h1,_,B,?_⟩;rw[Addr.add_lit];exact .rptr _ _ _ _ 0 _ _ _ _ z h2
  ·exact y.elim
 ·rename_i nl l k i m;simp only[List.cons.injEq,and_true]at m;obtain⟨rfl,rfl⟩:=m;obtain⟨h0,h1,y⟩:=y;split at y
  ·rename_i x hx;obtain⟨hes,B⟩:=y;obtain⟨rfl,_⟩:=BQ L
   cases hp with|d _ _ hp =>
   have hl:∃a cap,u=.slice (some a) l.length cap:=by cases hp<;>first|exact⟨_,_,rfl⟩|simp at hx
   obtain⟨a,cap,rfl⟩:=hl;exact⟨_,key _ _ _ _ _ h0 h1,_,B,(dE hp hx hes).2⟩
  ·exact y.elim
 ·rename_i l k i m;simp only[List.cons.injEq,and_true]at m;obtain⟨rfl,rfl⟩:=m;obtain⟨h0,h1,y⟩:=y;split at y
  ·rename_i x hx;obtain⟨hes,B⟩:=y;obtain⟨rfl,_⟩:=BQ L
   cases hp with|ex _ a hp =>
   exact⟨_,key _ _ _ _ _ h0 h1,_,B,(dE hp hx hes).2⟩
  ·exact y.elim
 ·rename_i o g k i m;simp only[List.cons.injEq,and_true]at m;obtain⟨rfl,rfl⟩:=m;split at y
  ·rename_i e1 e2 nl ix rows hg;obtain⟨rfl,h0,h1,B⟩:=y;obtain⟨rfl,_⟩:=BQ L;have G:=AO.get_some hg;obtain⟨z,ho⟩:=h.objs _ _ _ G;obtain⟨v,hv⟩:∃v,β o g=v:=⟨_,rfl⟩
   cases hp with|mref _ _ _ u z hm hu1 =>
   rw[hv]at ho
   cases ho with|mat _ _ _ _ _ _ ho =>
   obtain⟨S,vs,J,M,hc,hr,O⟩:=ho;have A:=hv;rw[J]at A;rw[A]at hm;simp only[Ei,Bn,ro,Option.some.injEq]at hm;subst hm;rcases hc with⟨_,h01,_⟩|⟨_,b,off,cap,cur,h2,_⟩
   ·subst h01;simp at h1;omega
   ·subst h2;refine⟨_,key _ _ _ _ _ h0 h1,_,B,?_⟩;rw[Addr.add_lit];exact .mref _ _ _ _ z (by rw[A];simp[Ei,VC]) rfl
  ·exact y.elim
 ·rename_i j o g k i m;simp only[List.cons.injEq,and_true]at m;obtain⟨rfl,rfl⟩:=m;split at y
  ·rename_i e1 e2 nl ix rows hg;split at y
   ·rename_i x hx;obtain⟨rfl,h0,h1,B⟩:=y;obtain⟨rfl,_⟩:=BQ L;have G:=AO.get_some hg;obtain⟨z,ho⟩:=h.objs _ _ _ G;obtain⟨v,hv⟩:∃v,β o g=v:=⟨_,rfl⟩
    cases hp with|mref _ _ _ u z hm hu1 =>
    rw[hv]at ho
    cases ho with|mat _ _ _ _ _ _ ho =>
    obtain⟨S,vs,J,M,hc,hr,O⟩:=ho;have A:=hv;rw[J]at A;rw[A]at hm;simp only[Ei,Bn,i5]at hm;rcases(hr j x u hx hm).2 (JR (by omega))with⟨_,h01,_⟩|⟨_,b,off,cap,cur,h2,_⟩
    ·rw[h01]at h1;simp at h1;omega
    ·subst h2;refine⟨_,key _ _ _ _ _ h0 h1,_,B,?_⟩;rw[Addr.add_lit];exact .mref _ _ _ _ z (by rw[A];simp[Ei,hm,VC]) rfl
   ·exact y.elim
  ·exact y.elim
 ·rename_i off n cap o g k i m;simp only[List.cons.injEq,and_true]at m;obtain⟨rfl,rfl⟩:=m;obtain⟨rfl,h0,h1,B⟩:=y;obtain⟨rfl,_⟩:=BQ L
  cases hp with|mref _ _ _ u z hm hu1 =>
  obtain⟨b,hb,hu,_⟩:=ic hm;subst hu;refine⟨_,key _ _ _ _ _ h0 h1,_,B,?_⟩;rw[Addr.add_lit,hU];exact .ptr _ _ _ b z hb
 ·exact y.elim
theorem Ym{t e:TypeId}{n es:Nat}(ht:E.P.underlying t=some (.array n e))(B:HT E.P e=some es)
  {dst:Option Nat}{p q:AV}{u v:Value}(hp:AP w (c.bar β s.V) β s.V.cn p u) (A:AP w (c.bar β s.V) β s.V.cn q v) (m:ev E dst s.V (.iaddrA n es) [p,q] K) :
  ∃r,(Instr.indexAt t u v).run E.P w=.ok r w/\∃x,K x .none/\AP w (c.bar β s.V) β s.V.cn x r:=by
 have z:E.P.elem t=e:=by simp[Program.elem,ht]
 have l:E.P.arrayLen t=n:=by simp[Program.arrayLen,ht]
 have key:∀(b off:Nat) (k:IntKind) (i:Int),0<=i->i<n->(Instr.indexAt t (.pointer (some ⟨b,off,none⟩)) (.int k i)).run E.P w=.ok (.pointer (some ⟨b,off+i.toNat * es,none⟩)) w:=by
  intro b off k i h0 h1;rw[run_indexAt_array w t _ k i (by rw[z,l];exact ht),if_pos ⟨h0,by rw[l];exact h1⟩,z,CE B];simp[Addr.add_lit]
 unfold ev at m;simp only at m;split at m
 ·rename_i o g off k i h;simp only[List.cons.injEq,and_true]at h;obtain⟨rfl,rfl⟩:=h;obtain⟨h0,h1,y⟩:=m;obtain⟨rfl,_⟩:=BQ A
  cases hp with|ptr _ _ _ b hlt hβ=>exact⟨_,key _ _ _ _ h0 h1,_,y,.ptr _ _ _ b hlt hβ⟩
 ·rename_i o g es' j off k i h;simp only[List.cons.injEq,and_true]at h;obtain⟨rfl,rfl⟩:=h;obtain⟨h0,h1,y⟩:=m;obtain⟨rfl,_⟩:=BQ A
  cases hp with|rptr _ _ _ _ _ b b0 n cap hlt hβ=>exact⟨_,key _ _ _ _ h0 h1,_,y,by rw[f0];exact .rptr _ _ _ _ _ b b0 n cap hlt hβ⟩
 ·rename_i cs off k i h;simp only[List.cons.injEq,and_true]at h;obtain⟨rfl,rfl⟩:=h;obtain⟨h0,h1,y⟩:=m;obtain⟨rfl,_⟩:=BQ A
  cases hp with|dptr _ _ b base vs hb hne h2 hc hv=>exact⟨_,key _ _ _ _ h0 h1,_,y,by rw[f0];exact .dptr _ _ b base vs hb hne h2 hc hv⟩
 ·rename_i cs k i h;simp only[List.cons.injEq,and_true]at h;obtain⟨rfl,rfl⟩:=h;obtain⟨h0,h1,y⟩:=m;obtain⟨rfl,_⟩:=BQ A
  cases hp with|d _ _ hp=>cases hp with|ptr _ b base vs hb hne h2 hc hv=>exact⟨_,key _ _ _ _ h0 h1,_,y,.dptr _ _ b base vs hb hne h2 hc hv⟩
 ·exact m.elim
theorem eR{t:TypeId}{sb:ByteArray}(h:BZ E c β s tm w)(ht:E.P.underlying t=some .string)
  {dst:Option Nat}{q:AV}{v:Value}(m:AP w (c.bar β s.V) β s.V.cn q v) (j:ev E dst s.V (.strx sb) [q] K) :
  ∃r,(Instr.index t (.string sb) v).run E.P w=.ok r w/\∃x,K x .none/\AP w (c.bar β s.V) β s.V.cn x r:=by
 unfold ev at j;simp only at j;split at j
 ·rename_i k i e;simp only[List.cons.injEq,and_true]at e;subst e;obtain⟨h0,l⟩:=j;obtain⟨rfl,_⟩:=BQ m;split at l
  ·rename_i b hb;exact⟨.int .u8 b.toNat,by simp[Instr.index,asIntOf,run_underlying ht,h0,hb],_,l,.d _ _ (.int _ _ (by unfold N7;have:=b.toNat_lt;simp[IntKind.min,IntKind.max,IntKind.bits,IntKind.signed];omega))⟩
  ·exact l.elim
 ·exact j.elim
end
end Go.Pw
end
section
namespace Go.Pw
open Go.RowKit
section
variable {E:CW}{c:EG}{β:Nat->Nat->Value}{s:BG}{tm:Array Value}{w:World}{K:AV->Bs->Prop}
theorem Qb{w:World}{fb}{nil:Bool}{l:List D}{a:Option Addr}{len cap:Nat}(h:Ar w fb (.list nil l) (.slice a len cap)){es x y:Nat}(hes:0<es)(hu:Cc es l)(m:x<=y)(t:y<=l.length) :
  len=l.length/\len<=cap/\Ar w fb (.list nil ((l.drop x).take (y-x))) (sliced a x y cap es):=by
 cases h with
 |nil =>
  simp at t;subst t;simp at m;subst m;exact⟨rfl,by omega,by simp[sliced];exact .nil⟩
 |empty a _ hm =>
  simp at t;subst t;simp at m;subst m;exact⟨rfl,by omega,by simp[sliced];split<;>exact .empty _ _ hm⟩
 |list _ es' b off _ vs hcap hm hb B hs h1 hc hv =>
  refine⟨rfl,hcap,?_⟩;have n:((l.drop x).take (y-x)).length=y-x:=by simp;omega
  unfold sliced
  by_cases A:cap=x
  ·rw[if_pos A];have:y=x:=by omega
   subst this;simp;exact .empty _ _ (by omega)
  ·rw[if_neg A]
   by_cases u:x=y
   ·subst u;simp;exact .empty _ _ (by omega)
   have r:es=es':=by
    cases l with
    |nil=>simp at t;omega
    |cons z zs=>exact(hu z (by simp)).symm.trans (hs z (by simp))
   subst r;simp only[Option.map_some,Addr.add_lit];rw[show y-x=((l.drop x).take (y-x)).length by omega];have q:∀z,z∈((l.drop x).take (y-x))->z∈l:=fun z e=>hY (eb e)
   have o:∀(i:Nat) (z:D),((l.drop x).take (y-x))[i]?=some z->l[x+i]?=some z:=by
    intro i z e;rw[j4]at e;split at e
    ·rwa [kk]at e
    ·cases e
   rw[n]
   have p:=Ar.list (w:=w) (fb:=fb) ((l.drop x).take (y-x)) es b (off+x*es) (cap-x) (fun i j=>vs (x+i) j) (by omega) (by omega) hb B
    (fun z e=>hs z (q z e)) (fun z c e hc=>h1 z c (q z e) hc)
    (fun i z j c e G=>by rw[show off+x*es+i*es+j=off+(x+i)*es+j by rw[na];omega];exact hc _ z j c (o i z e) G)
    (fun i z j c e G=>hv _ z j c (o i z e) G)
   rwa [n]at p
theorem P6{fb}{nil:Bool}{l:List D}{u:Value}(h:Ar w fb (.list nil l) u):∃a cap,u=.slice a l.length cap:=by
 cases h<;>exact⟨_,_,rfl⟩
theorem Lg{t e:TypeId}{es:Nat}(ht:E.P.underlying t=some (.slice e))(q:HT E.P e=some es){a:Option Addr}{len cap:Nat}(A:len<=cap){lo hi:Bool}{m:List AV}{r p:Option Value}
  (hlo:r.isSome=lo) (hhi:p.isSome=hi) {fb β' cn}
  (u:∃vs:List Value,vs=r.toList++p.toList/\vs.length=m.length/\∀(i:Nat) (x:AV) (v:Value),m[i]?=some x->vs[i]?=some v->AP w fb β' cn x v)
  {C:Nat->Nat->Prop}(n:Pt lo hi len m C) :
  ∃x y,x<=y/\y<=len/\C x y/\(hi=false->y=len)/\(Instr.sliceAt t (.slice a len cap) r p none).run E.P w=.ok (sliced a x y cap es) w:=by
 have o:E.P.elem t=e:=by simp[Program.elem,ht]
 have j:E.P.underlying t=some (.slice (E.P.elem t)):=by rw[o];exact ht
 obtain⟨vs,z,hl,hr⟩:=u;subst z;rcases r with _|lv<;>rcases p with _|hv<;>simp only[Option.isSome_some,Option.isSome_none]at hlo hhi<;>subst hlo hhi<;>simp only[Pt,if_true,if_false,la]at n
 ·cases m with
  |nil=>exact⟨0,len,by omega,by omega,n,fun _=>rfl,by rw[run_sliceAt_slice w t _ _ _ _ j,run_slice_all w t a len cap j,o,CE q];rfl⟩
  |cons=>exact n.elim
 ·split at n
  ·rename_i k l;obtain⟨rfl,_⟩:=BQ (hr 0 _ hv rfl rfl);obtain⟨h0,h1,h2⟩:=n;exact⟨0,l.toNat,by omega,by omega,h2,by simp,by rw[run_sliceAt_slice w t _ _ _ _ j,run_slice_h w t a len cap j k l h0 (by omega),o,CE q];rfl⟩
  ·exact n.elim
 ·split at n
  ·rename_i k l;obtain⟨rfl,_⟩:=BQ (hr 0 _ lv rfl rfl);obtain⟨h0,h1,h2⟩:=n;exact⟨l.toNat,len,by omega,by omega,h2,fun _=>rfl,by rw[run_sliceAt_slice w t _ _ _ _ j,run_slice_l w t a len cap j k l h0 h1,o,CE q];rfl⟩
  ·exact n.elim
 ·split at n
  ·rename_i k1 l k2 h;obtain⟨rfl,_⟩:=BQ (hr 0 _ lv rfl rfl);obtain⟨rfl,_⟩:=BQ (hr 1 _ hv rfl rfl);obtain⟨h0,h1,h2,B⟩:=n;exact⟨l.toNat,h.toNat,by omega,by omega,B,by simp,by rw[run_sliceAt_slice w t _ _ _ _ j,run_slice_lh w t a len cap j k1 k2 l h h0 h1 (by omega),o,CE q];rfl⟩
  ·exact n.elim
end
end Go.Pw
end
section
namespace Go.Pw
open Go.RowKit
section
variable {E:CW}{c:EG}{β:Nat->Nat->Value}{s:BG}{tm:Array Value}{w:World}{K:AV->Bs->Prop}
def JU(E:CW)(c:EG)(s:BG)(tm:Array Value)(K:AV->Bs->Prop)(r:Result Value):Prop :=
 ∃u w' v ch β',r=.ok u w'/\K v ch/\BZ E c β' ⟨s.sl,s.V.app ch⟩ tm w'/\AP w' (c.bar β' (s.V.app ch)) β' (s.V.app ch).cn v u
theorem CP(h:BZ E c β s tm w){v:AV}{u:Value}{r:Result Value}(e:K v .none)(hr:r=.ok u w)(hv:AP w (c.bar β s.V) β s.V.cn v u):JU E c s tm K r :=
 ⟨u,w,v,.none,β,hr,e,h,hv⟩
theorem Hd.refl(v:Value)(w:World):Hd v w w:=⟨rfl,rfl,rfl,ax _,fun _ _ _=>rfl⟩
theorem aq(h:BZ E c β s tm w){t e:TypeId}{es:Nat}(ht:E.P.underlying t=some (.slice e))(A:HT E.P e=some es)(hes:0<es)
  {x:AV}{u:Value}{y:List AV}{lov hiv:Option Value}{dst:Option Nat}
  (hx:AP w (c.bar β s.V) β s.V.cn x u)
  (m:∃vs:List Value,vs=lov.toList++hiv.toList/\vs.length=y.length/\∀(i:Nat) (x:AV) (v:Value),y[i]?=some x->vs[i]?=some v->AP w (c.bar β s.V) β s.V.cn x v)
  (r:ev E dst s.V (.slice es lov.isSome hiv.isSome false) (x::y) K):JU E c s tm K ((Instr.sliceAt t u lov hiv none).run E.P w):=by
 unfold ev at r;simp only[la,if_false]at r;split at r
 ·rename_i nl l rest' n;simp only[List.cons.injEq]at n;obtain⟨rfl,rfl⟩:=n;obtain⟨hu,r⟩:=r
  cases hx with|d _ _ hx =>
  obtain⟨a,cap,rfl⟩:=P6 hx;have X:l.length<=cap:=(Qb hx hes hu (ax 0) (ne _)).2.1;obtain⟨p,q,h1,h2,B,_,hr⟩:=Lg ht A (a:=a) (cap:=cap) X rfl rfl m r;exact CP h B hr (.d _ _ (Qb hx hes hu h1 h2).2.2)
 ·rename_i l rest' n;simp only[List.cons.injEq]at n;obtain⟨rfl,rfl⟩:=n;obtain⟨hu,r⟩:=r
  cases hx with|ex _ a hx =>
  obtain⟨p,q,h1,h2,B,_,hr⟩:=Lg ht A (a:=some a) (cap:=l.length) (ax _) rfl rfl m r;exact CP h B hr (.d _ _ (Qb hx hes hu h1 h2).2.2)
 ·rename_i o g rest' n;simp only[List.cons.injEq]at n;obtain⟨rfl,rfl⟩:=n;split at r
  ·rename_i ety es' nl l hg;obtain⟨O,rfl,r⟩:=r;have G:=AO.get_some hg;obtain⟨γ,ho⟩:=h.objs _ _ _ G
   cases ho with|row _ _ _ _ _ ho =>
   cases hx with|own _ _ _ _ =>
   rcases ho with⟨h1,h2,h3⟩|⟨h1,b,off,cap,cur,h2,h3,h4,h5,h6,h7,h8,h10,h9⟩
   ·subst h2;rw[h3];obtain⟨p,q,hp,hq,B,L,hr⟩:=Lg ht A (a:=none) (cap:=0) (len:=0) (ax _) rfl rfl m r;have:p=0:=by omega
    subst this;have:q=0:=by omega
    subst this;have hv:sliced none 0 0 0 es=.slice none 0 0:=by simp[sliced]
    rw[hv]at hr;refine⟨_,w,_,_,_,hr,B,h.fresh (vo:=.slice none 0 0) O (.refl _ _) (fun b hb=>by simp[C4,A9]at hb) (fun β' fb' _ _ _=>.row _ _ _ _ _ (.inl ⟨h1,by split<;>simp,rfl⟩)),?_⟩;exact AP.own_new rfl (G1 _ _ _)
   ·rw[h2];obtain⟨p,q,hp,hq,B,L,hr⟩:=Lg ht A (a:=some ⟨b,off,none⟩) (cap:=cap) (len:=l.length) h4 rfl rfl m r
    have U:(if hiv.isSome=true then(l.drop p).take (q-p)else l.drop p)=(l.drop p).take (q-p):=by
     split
     ·rfl
     ·rename_i hh;have α:q=l.length:=L (by simpa using hh);rw[List.take_of_length_le (by simp;omega)]
    rw[U]at B;have J:((l.drop p).take (q-p)).length=q-p:=by simp;omega
    obtain⟨off',cap',hv,hcap,N,M⟩:∃off' cap',sliced (some ⟨b,off,none⟩) p q cap es=.slice (some ⟨b,off',none⟩) (q-p) cap'/\cap'=cap-p/\(p<q->off'=off+p*es)/\off'+cap'*es<=cur.size:=by
     unfold sliced
     by_cases hc:cap=p
     ·rw[if_pos hc];refine⟨off,cap-p,rfl,rfl,fun h=>by omega,?_⟩;have:cap-p=0:=by omega
      rw[this];have:=ne (cap*es);omega
     ·rw[if_neg hc];simp only[Option.map_some,Addr.add_lit];refine⟨_,_,rfl,rfl,fun _=>rfl,?_⟩;have:cap*es=p*es+(cap-p)*es:=by rw[←na];congr 1;omega
      omega
    rw[hv]at hr;have R:C4 (β o g) b:=by rw[h2];exact rfl
    have S:b<w.heap.size:=(az.1 h3).1
    refine⟨_,w,_,_,_,hr,B,h.fresh (vo:=.slice (some ⟨b,off',none⟩) (q-p) cap') O (.refl _ _) (fun b' hb=>by
      simp[C4,A9]at hb;subst hb;exact⟨S,.inr ⟨g,_,G,R⟩⟩) (fun β' fb' _ _ hf=>.row _ _ _ _ _ (.inr ⟨h1,b,off',cap',cur,by rw[J],h3,by rw[J];omega,by omega,M,h7,
       fun z T=>h8 z (hY (eb T)),fun z c T hc=>h10 z c (hY (eb T)) hc,fun i z j c hi hj=>?_⟩)),?_⟩
    ·have Y:i<q-p:=by have:=(ay.1 hi).1;omega
     rw[List.getElem?_take_of_lt Y,kk]at hi;have Z:p+i<l.length:=(ay.1 hi).1;obtain⟨u,hu,hd⟩:=h9 (p+i) z j c hi hj;refine⟨u,?_,hd.mono (Aq.refl _ _) hf⟩;rw[N (by omega),show off+p*es+i*es+j=off+(p+i)*es+j by rw[na];omega];exact hu
    ·exact AP.own_new rfl (G1 _ _ _)
  ·exact r.elim
 ·exact r.elim
theorem Ye(h:BZ E c β s tm w){t e:TypeId}{es:Nat}(ht:E.P.underlying t=some (.slice e))(L:HT E.P e=some es)(hes:0<es)
  {x:AV}{u:Value}{B:List AV}{lov hiv:Option Value}{mv:Value}{dst:Option Nat}
  (hx:AP w (c.bar β s.V) β s.V.cn x u)
  (M:∃vs:List Value,vs=lov.toList++hiv.toList++[mv]/\vs.length=B.length/\∀(i:Nat) (x:AV) (v:Value),B[i]?=some x->vs[i]?=some v->AP w (c.bar β s.V) β s.V.cn x v)
  (O:ev E dst s.V (.slice es lov.isSome hiv.isSome true) (x::B) K):JU E c s tm K ((Instr.sliceAt t u lov hiv (some mv)).run E.P w):=by
 have J:E.P.elem t=e:=by simp[Program.elem,ht]
 have A:E.P.underlying t=some (.slice (E.P.elem t)):=by rw[J];exact ht
 unfold ev at O;simp only[if_true]at O;obtain⟨vs,Y,hl,hr⟩:=M;subst Y;split at O
 ·rename_i l k1 hh k2 m hlo hhi j;simp only[List.cons.injEq]at j;obtain⟨rfl,rfl⟩:=j;obtain⟨hu,rfl,h0,h1,S⟩:=O
  cases lov with
  |some _=>simp at hlo
  |none =>
  cases hiv with
  |none=>simp at hhi
  |some hv =>
  obtain⟨rfl,_⟩:=BQ (hr 0 _ hv rfl rfl);obtain⟨rfl,_⟩:=BQ (hr 1 _ mv rfl rfl)
  cases hx with|d _ _ hx =>
  obtain⟨a,cap,rfl⟩:=P6 hx;obtain⟨_,X,p⟩:=Qb hx hes hu (ne hh.toNat) (show hh.toNat<=l.length by omega);refine CP h S (u:=sliced a 0 hh.toNat hh.toNat es) (by rw[run_sliceAt_slice w t _ _ _ _ A,run_slice_hm w t a l.length cap A k1 k2 hh hh h0 (lb _) (by omega),J,CE L];rfl) ?_;have hne:∃ad,a=some ad:=by cases hx<;>exact⟨_,rfl⟩
  obtain⟨ad,rfl⟩:=hne;have n:(l.take hh.toNat).length=hh.toNat:=by simp;omega
  have q:∃ad',sliced (some ad) 0 hh.toNat hh.toNat es=.slice (some ad') (l.take hh.toNat).length (l.take hh.toNat).length:=by
   rw[n];unfold sliced;split
   ·rename_i h0;exact⟨ad,by simp[h0]⟩
   ·exact⟨ad.add (0*es),by simp⟩
  obtain⟨ad',q⟩:=q;rw[q];refine .ex _ _ ?_;have r:Ar w (c.bar β s.V) (.list false (l.take hh.toNat)) (sliced (some ad) 0 hh.toNat cap es):=by simpa using p
  have R:sliced (some ad) 0 hh.toNat cap es=.slice (some ad) hh.toNat cap:=by
   unfold sliced;split
   ·rename_i h0;simp
   ·simp[Addr.add]
  have T:(l.take hh.toNat).length≠0->ad'=ad:=by
   intro hne;rw[n]at hne;unfold sliced at q;rw[if_neg hne]at q;simp[Addr.add]at q;exact q.1.symm
  rw[R]at r
  cases hll:l.take hh.toNat with
  |nil=>exact .empty _ _ (by simp[maxLen])
  |cons z zs =>
   rw[hll]at T r n;rw[T (by simp)];rw[←n]at r
   cases r with
   |list _ es' b off _ vs hcap hm hb G hs N hc hv=>exact .list _ es' b off _ vs (ax _) (by omega) hb G hs N hc hv
 ·rename_i k1 hh k2 m hlo hhi j;simp only[List.cons.injEq]at j;obtain⟨rfl,rfl⟩:=j;obtain⟨rfl,rfl,S⟩:=O
  cases lov with
  |some _=>simp at hlo
  |none =>
  cases hiv with
  |none=>simp at hhi
  |some hv =>
  obtain⟨rfl,_⟩:=BQ (hr 0 _ hv rfl rfl);obtain⟨rfl,_⟩:=BQ (hr 1 _ mv rfl rfl)
  cases hx with|d _ _ hx =>
  cases hx with|nil =>
  refine CP h S (u:=.slice none 0 0) (by rw[run_sliceAt_slice w t _ _ _ _ A,run_slice_hm w t none 0 0 A k1 k2 0 0 (lb _) (lb _) (by omega),J,CE L];rfl) (.d _ _ .nil)
 ·rename_i o g off k1 hh k2 m hlo hhi j;exfalso;have U:=congrArg no j
  cases lov with
  |none=>simp at hlo
  |some _=>cases hiv with
   |none=>simp at hhi
   |some _=>simp at hl U;omega
 ·rename_i cs k1 hh k2 m hlo hhi j;exfalso;have U:=congrArg no j
  cases lov with
  |none=>simp at hlo
  |some _=>cases hiv with
   |none=>simp at hhi
   |some _=>simp at hl U;omega
 ·rename_i cs off k1 hh k2 m hlo hhi j;exfalso;have U:=congrArg no j
  cases lov with
  |none=>simp at hlo
  |some _=>cases hiv with
   |none=>simp at hhi
   |some _=>simp at hl U;omega
 ·rename_i l Z y k1 hh k2 m hlo hhi j;simp only[List.cons.injEq]at j;obtain⟨rfl,rfl⟩:=j;obtain⟨hu,rfl,h0,h1,h2,S⟩:=O
  cases lov with
  |none=>simp at hlo
  |some lv =>
  cases hiv with
  |none=>simp at hhi
  |some hv =>
  obtain⟨rfl,_⟩:=BQ (hr 0 _ lv rfl rfl);obtain⟨rfl,_⟩:=BQ (hr 1 _ hv rfl rfl);obtain⟨rfl,_⟩:=BQ (hr 2 _ mv rfl rfl)
  cases hx with|d _ _ hx =>
  obtain⟨a,cap,rfl⟩:=P6 hx;obtain⟨_,X,p⟩:=Qb hx hes hu (show y.toNat<=hh.toNat by omega) (show hh.toNat<=l.length by omega);refine CP h S (u:=sliced a y.toNat hh.toNat hh.toNat es) (by rw[run_sliceAt_slice w t _ _ _ _ A,run_slice_lhm w t a l.length cap A Z k1 k2 y hh hh h0 (by omega) (lb _) (by omega),J,CE L];rfl) ?_;have hne:∃ad,a=some ad:=by cases hx<;>exact⟨_,rfl⟩
  obtain⟨ad,rfl⟩:=hne;have n:((l.drop y.toNat).take (hh.toNat-y.toNat)).length=hh.toNat-y.toNat:=by simp;omega
  have e1:sliced (some ad) y.toNat hh.toNat hh.toNat es=.slice (some (ad.add (y.toNat * es))) (hh.toNat-y.toNat) (hh.toNat-y.toNat):=by
   unfold sliced;rw[if_neg (by omega)];rfl
  have e2:sliced (some ad) y.toNat hh.toNat cap es=.slice (some (ad.add (y.toNat * es))) (hh.toNat-y.toNat) (cap-y.toNat):=by
   unfold sliced;rw[if_neg (by omega)];rfl
  rw[e1];rw[e2]at p;generalize (l.drop y.toNat).take (hh.toNat-y.toNat)=zs at p n ⊢;rw[←n]at p ⊢;generalize ad.add (y.toNat * es)=ad' at p ⊢;refine .ex _ _ ?_
  cases zs with
  |nil=>simp at n;omega
  |cons z zs =>
   cases p with
   |list _ es' b off _ vs hcap hm hb G hs N hc hv=>exact .list _ es' b off _ vs (ax _) (by omega) hb G hs N hc hv
 ·exact O.elim
theorem Yd(h:BZ E c β s tm w){t e:TypeId}{n:Nat}(ht:E.P.underlying t=some (.array n e))(T:HT E.P e=some 1)(hn:n<=4096)
  {x:AV}{u:Value}{y z:AV}{hv:Value}{hiv:Option Value}{dst:Option Nat}(hhi:hiv=some hv\/hiv=none/\hv=.int .i64 n)
  (hx:AP w (c.bar β s.V) β s.V.cn x u) (X:AP w (c.bar β s.V) β s.V.cn y hv) (U:AP w (c.bar β s.V) β s.V.cn z (.int .i64 n))
  (N:ev E dst s.V (.slice 1 true true true) [x,y,z] K):JU E c s tm K ((Instr.sliceAt t u none hiv none).run E.P w):=by
 have J:E.P.elem t=e:=by simp[Program.elem,ht]
 have B:E.P.arrayLen t=n:=by simp[Program.arrayLen,ht]
 have S:E.P.underlying t=some (.array (E.P.arrayLen t) (E.P.elem t)):=by rw[J,B];exact ht
 have key:∀(b off:Nat) (k:IntKind) (i:Int),0<=i->i<=n->hv=.int k i->(Instr.sliceAt t (.pointer (some ⟨b,off,none⟩)) none hiv none).run E.P w=.ok (.slice (some ⟨b,off,none⟩) i.toNat n) w:=by
  intro b off k i h0 h1 r;have Z:(Addr.add ⟨b,off,none⟩ (0*1))=⟨b,off,none⟩:=by simp[Addr.add_lit]
  rcases hhi with hh|⟨hh,Y⟩
  ·rw[hh,r,run_sliceAt_array_h w t _ S k i h0 (by rw[B];exact h1),J,CE T,B];show Result.ok (slicedAt _ _ _ _ _) w=_;simp only[slicedAt,Z,ite_self,ox]
  ·rw[r]at Y;injection Y with hw1 hw2;subst hw2;rw[hh,run_sliceAt_array_all w t _ S,J,CE T,B];show Result.ok (slicedAt _ _ _ _ _) w=_;simp only[slicedAt,Z,ite_self,ox,Int.toNat_natCast]
 unfold ev at N;simp only[if_true]at N;split at N
 ·rename_i h1 h2 O;cases h1
 ·rename_i h1 h2 O;cases h1
 ·rename_i o g off k1 hh k2 m hlo _ p;simp only[List.cons.injEq,and_true]at p;obtain⟨rfl,rfl,rfl⟩:=p;obtain⟨h0,h1,R⟩:=N;obtain⟨r,_⟩:=BQ X;obtain⟨hm,_⟩:=BQ U;injection hm with _ hm;subst hm
  cases hx with|ptr _ _ _ b hlt hβ =>
  exact CP h R (key _ _ _ _ h0 h1 r) (.mref _ _ _ _ hlt (by rw[hβ];simp only[Ei];rw[if_pos (by omega)];rfl) rfl)
 ·rename_i cs k1 hh k2 m hlo _ p;simp only[List.cons.injEq,and_true]at p;obtain⟨rfl,rfl,rfl⟩:=p;obtain⟨h0,h1,h2,R⟩:=N;obtain⟨r,_⟩:=BQ X;obtain⟨hm,_⟩:=BQ U;injection hm with _ hm;subst hm
  cases hx with|d _ _ hx =>
  cases hx with|ptr _ b off vs hb hne h1' hc hv' =>
  refine CP h R (key _ _ _ _ h0 h1 r) (.d _ _ ?_);have hl:(cs.take hh.toNat).length=hh.toNat:=by rw[rz];omega
  have hg:∀(i:Nat) (x:D),(cs.take hh.toNat)[i]?=some x->cs[i]?=some x:=fun i x hi=>by
   rw[j4]at hi;split at hi
   ·exact hi
   ·cases hi
  have l:∀(i:Nat) (x:D) (j:Nat) (c:D),(cs.take hh.toNat)[i]?=some x->x.cells[j]?=some c->cs[i]?=some c/\j=0:=fun i x j c hi q=>by
   have O:=hg i x hi;have G:=h1' x (cp O);have L:x.cells=[x]:=by cases x<;>first|rfl|simp[D.one]at G
   rw[L]at q
   cases j with
   |zero=>simp at q;subst q;exact⟨O,rfl⟩
   |succ j=>simp at q
  conv=>arg 4;rw[←hl]
  refine .list _ 1 b off n (fun i _=>vs i) (by omega) (by unfold maxLen;omega) hb (by omega) (fun x hx=>?_) (fun x c hx A=>?_) (fun i x j c hi q=>?_) (fun i x j c hi q=>?_)
  ·have G:=h1' x (eb hx)
   cases x<;>first|rfl|simp[D.one]at G
  ·have G:=h1' x (eb hx);have L:x.cells=[x]:=by cases x<;>first|rfl|simp[D.one]at G
   rw[L]at A;simp at A;subst A;exact G
  ·obtain⟨M,rfl⟩:=l i x j c hi q;rw[hU,r3];exact hc i c M
  ·obtain⟨M,_⟩:=l i x j c hi q;exact hv' i c M
 ·rename_i cs off0 k1 hh k2 m hlo _ p;simp only[List.cons.injEq,and_true]at p;obtain⟨rfl,rfl,rfl⟩:=p;obtain⟨h0,h1,h2,R⟩:=N;obtain⟨r,_⟩:=BQ X;obtain⟨hm,_⟩:=BQ U;injection hm with _ hm;subst hm
  cases hx with|dptr _ _ b base vs hb hne h1' hc hv' =>
  refine CP h R (key _ _ _ _ h0 h1 r) (.d _ _ ?_);have hl:((cs.drop off0).take hh.toNat).length=hh.toNat:=by rw[rz,List.length_drop];omega
  have hg:∀(i:Nat) (x:D),((cs.drop off0).take hh.toNat)[i]?=some x->cs[off0+i]?=some x:=fun i x hi=>by
   rw[j4]at hi;split at hi
   ·rw[kk]at hi;exact hi
   ·cases hi
  have l:∀(i:Nat) (x:D) (j:Nat) (c:D),((cs.drop off0).take hh.toNat)[i]?=some x->x.cells[j]?=some c->cs[off0+i]?=some c/\j=0:=fun i x j c hi q=>by
   have O:=hg i x hi;have G:=h1' x (cp O);have L:x.cells=[x]:=by cases x<;>first|rfl|simp[D.one]at G
   rw[L]at q
   cases j with
   |zero=>simp at q;subst q;exact⟨O,rfl⟩
   |succ j=>simp at q
  conv=>arg 4;rw[←hl]
  refine .list _ 1 b (base+off0) n (fun i _=>vs (off0+i)) (by omega) (by unfold maxLen;omega) hb (by omega) (fun x hx=>?_) (fun x c hx A=>?_) (fun i x j c hi q=>?_) (fun i x j c hi q=>?_)
  ·have G:=h1' x (hY (eb hx))
   cases x<;>first|rfl|simp[D.one]at G
  ·have G:=h1' x (hY (eb hx));have L:x.cells=[x]:=by cases x<;>first|rfl|simp[D.one]at G
   rw[L]at A;simp at A;subst A;exact G
  ·obtain⟨M,rfl⟩:=l i x j c hi q;rw[hU,r3,f0];exact hc _ c M
  ·obtain⟨M,_⟩:=l i x j c hi q;exact hv' _ c M
 ·rename_i p;simp at p
 ·exact N.elim
end
end Go.Pw
end
section
namespace Go.Pw
open Go.RowKit
section
variable {P:Program}{w:World}
theorem Af{α γ:Type}{f:α->Option γ}:∀{l:List α}{r:List γ},Ax f l=some r->r.length=l.length
 |[],r,h=>by simp[Ax]at h;subst h;rfl
 |x::xs,r,h=>by
  simp only[Ax]at h;split at h
  ·cases h
  ·split at h
   ·cases h
   ·rename_i y i ys e;simp at h;subst h;simp[Af e]
theorem C7{α γ:Type}{f:α->Option γ}:∀{l:List α}{r:List γ}{i:Nat}{x:α},Ax f l=some r->l[i]?=some x->∃y,r[i]?=some y/\f x=some y
 |[],r,i,x,h,hx=>by simp at hx
 |z::zs,r,i,x,h,hx=>by
  simp only[Ax]at h;split at h
  ·cases h
  ·split at h
   ·cases h
   ·rename_i y j _ ys e;simp at h;subst h
    cases i with
    |zero=>simp at hx;subst hx;exact⟨y,by simp,j⟩
    |succ i=>simp at hx ⊢;exact C7 e hx
theorem Js{t:TypeId}{k:Option IntKind}(hk:Ea P t=some k){a b:D}{fb:Nat->Prop}{u v:Value}(e:Dk [k] [a]=true)(hb:Dk [k] [b]=true)
  (hu:Ar w fb a u) (hv:Ar w fb b v) (d:Nat):(Op.equalIn (d+1) t u v).run P w=.ok (GM a b) w:=by
 unfold Ea at hk;split at hk
 ·rename_i k' ht;simp at hk;subst hk
  cases hu<;>simp[Dk]at e
  cases hv<;>simp[Dk]at hb
  subst e hb;rw[run_equalIn_int w d t _ _ _ _ ht];simp[GM,Ud]
 ·rename_i ht;simp at hk;subst hk
  cases hu<;>simp[Dk]at e
  cases hv<;>simp[Dk]at hb
  rw[run_equalIn_bool w d t _ _ ht];simp[GM]
 ·cases hk
theorem Cf{k:Option IntKind}{ks:List (Option IntKind)}{c:D}{cs:List D}(h:Dk (k::ks) (c::cs)=true):Dk [k] [c]=true/\Dk ks cs=true:=by
 cases k<;>cases c<;>simp_all[Dk]
theorem BS:∀{ks:List (Option IntKind)}{cs:List D},Dk ks cs=true->cs.length=ks.length
 |[],[],_=>rfl
 |[],_::_,h=>by simp[Dk]at h
 |some _::_,[],h=>by simp[Dk]at h
 |none::_,[],h=>by simp[Dk]at h
 |k::ks,c::cs,h=>by simp[BS (Cf h).2]
theorem VX{t:TypeId}{k:Option IntKind}(hk:Ea P t=some k):Ln P t=some false:=by
 unfold Ea at hk;split at hk<;>first|cases hk;done|skip
 ·rename_i ht;simp[Ln,ht]
 ·rename_i ht;simp[Ln,ht]
theorem E8{t:TypeId}{k:Option IntKind}(hk:Ea P t=some k){vs:Array Value}{i:Nat}{v:Value}(hv:vs[i]?=some v):(part t vs i).run P w=.ok v w:=by
 simp[part,SY (VX hk),hv]
theorem Qj{fb:Nat->Prop}{l bs:List D}{us vs:Array Value}(hu:CV (Ar w fb) l us)(hv:CV (Ar w fb) bs vs)(d:Nat) :
  ∀(fs:List Field) (ks:List (Option IntKind)) (i:Nat) (as' bs':List D),Ax (fun f=>Ea P f.type) fs=some ks->((fs.zipIdx i).all fun(f,i)=>f.name != "_" && f.offset == i)=true ->
   (∀j,as'[j]?=l[i+j]?)->(∀j,bs'[j]?=bs[i+j]?)->Dk ks as'=true->Dk ks bs'=true ->
   (Op.eqFields (d+1) us vs fs).run P w=.ok (Fl as' bs') w
 |[],ks,i,as',bs',hk,hn,ha,hb,ta,tb=>by
  simp[Ax]at hk;subst hk;have:=BS ta;have h2:=BS tb;simp at this h2;subst this h2;simp[Op.eqFields,Fl]
 |f::fs,ks,i,as',bs',hk,hn,ha,hb,ta,tb=>by
  simp only[Ax]at hk;split at hk
  ·cases hk
  ·rename_i k e;split at hk
   ·cases hk
   ·rename_i ks' r;simp at hk;subst hk;simp only[List.zipIdx_cons,List.all_cons,oy,bne_iff_ne,ne_eq,beq_iff_eq]at hn;obtain⟨⟨q,p⟩,o⟩:=hn;have z:=BS ta;have y:=BS tb
    match as',bs',z,y with
    |a::as'',b::bs'',_,_ =>
     have x:l[i]?=some a:=by have:=ha 0;simpa using this.symm
     have t:bs[i]?=some b:=by have:=hb 0;simpa using this.symm
     obtain⟨u,n⟩:∃u,us[i]?=some u:=⟨_,et (by have:=hu.1;have:=(ay.1 x).1;omega)⟩
     obtain⟨v,m⟩:∃v,vs[i]?=some v:=⟨_,et (by have:=hv.1;have:=(ay.1 t).1;omega)⟩
     have h:=Js e (Cf ta).1 (Cf tb).1 (hu.2 i a u x n) (hv.2 i b v t m) d
     have ih:=Qj hu hv d fs ks' (i+1) as'' bs'' r o
      (fun j=>by have:=ha (j+1);simp at this;rw[this];congr 1;omega) (fun j=>by have:=hb (j+1);simp at this;rw[this];congr 1;omega) (Cf ta).2 (Cf tb).2
     simp only[Op.eqFields];rw[if_pos q];rw[p];simp only[Sem.run_bind,E8 e n,E8 e m,Result.andThen_ok,h]
     cases hp:GM a b
     ·simp[Fl,hp]
     ·simp[Fl,hp,ih]
theorem TU{e:TypeId}{k:Option IntKind}(hk:Ea P e=some k){fb:Nat->Prop}{l bs:List D}{us vs:Array Value}(hu:CV (Ar w fb) l us)(hv:CV (Ar w fb) bs vs)(d:Nat) :
  ∀(n i:Nat) (as' bs':List D),(∀j,as'[j]?=l[i+j]?)->(∀j,bs'[j]?=bs[i+j]?)->Dk (cw n k) as'=true->Dk (cw n k) bs'=true ->
   ((forIn (m:=Sem) (List.range' i n) ((none,()):Option Bool×PUnit) fun j r=>do
     let a ←part e us (j*1)
     let b ←part e vs (j*1)
     let r ←Op.equalIn (d+1) e a b
     if(!r)=true then pure (.done (some false,()))else pure (.yield (none,()))):Sem (Option Bool×PUnit)).run P w =
    .ok (if Fl as' bs' then(none,())else(some false,())) w
 |0,i,as',bs',ha,hb,ta,tb=>by
  have t:=BS ta;have q:=BS tb;simp at t q;subst t q;simp[Fl]
 |n+1,i,as',bs',ha,hb,ta,tb=>by
  have t:=BS ta;have q:=BS tb;rw[List.replicate_succ]at ta tb
  match as',bs',t,q with
  |a::as'',b::bs'',_,_ =>
   have y:l[i]?=some a:=by have:=ha 0;simpa using this.symm
   have x:bs[i]?=some b:=by have:=hb 0;simpa using this.symm
   obtain⟨u,p⟩:∃u,us[i]?=some u:=⟨_,et (by have:=hu.1;have:=(ay.1 y).1;omega)⟩
   obtain⟨v,o⟩:∃v,vs[i]?=some v:=⟨_,et (by have:=hv.1;have:=(ay.1 x).1;omega)⟩
   have h:=Js hk (Cf ta).1 (Cf tb).1 (hu.2 i a u y p) (hv.2 i b v x o) d
   have ih:=TU hk hu hv d n (i+1) as'' bs''
    (fun j=>by have:=ha (j+1);simp at this;rw[this];congr 1;omega) (fun j=>by have:=hb (j+1);simp at this;rw[this];congr 1;omega) (Cf ta).2 (Cf tb).2
   simp only[List.range'_succ,List.forIn_cons,Sem.run_bind,hU,E8 hk p,E8 hk o,Result.andThen_ok,h]
   cases hp:GM a b
   ·simp[Fl,hp]
   ·simp only[Bool.not_true,la,if_false,Sem.run_pure,Result.andThen_ok];simp only[hU]at ih;rw[ih];simp[Fl,hp]
theorem Qi{t:TypeId}{tys:LW}(ht:C5 P t=some tys){a b:D}{fb:Nat->Prop}{u v:Value}
  (h:Jo tys a=true) (hb:Jo tys b=true) (hu:Ar w fb a u) (hv:Ar w fb b v) (d:Nat) :
  (Op.equalIn (d+2) t u v).run P w=.ok (D2 a b) w:=by
 unfold C5 at ht;simp only[Jo,oy,beq_iff_eq]at h hb;split at ht
 ·rename_i k hk;simp at ht;subst ht;have e1:a.cells=[a]:=by cases a<;>simp_all[D.cells,D.isAgg]
  have e2:b.cells=[b]:=by cases b<;>simp_all[D.cells,D.isAgg]
  rw[e1]at h;rw[e2]at hb;rw[Js (by simp[Ea,hk]) h.2 hb.2 hu hv (d+1)];simp[D2,e1,e2,Fl]
 ·rename_i hk;simp at ht;subst ht;have e1:a.cells=[a]:=by cases a<;>simp_all[D.cells,D.isAgg]
  have e2:b.cells=[b]:=by cases b<;>simp_all[D.cells,D.isAgg]
  rw[e1]at h;rw[e2]at hb;rw[Js (by simp[Ea,hk]) h.2 hb.2 hu hv (d+1)];simp[D2,e1,e2,Fl]
 ·rename_i fs hk;split at ht
  ·rename_i hc
   cases hl:Ax (fun f=>Ea P f.type) fs.toList with
   |none=>simp[hl]at ht
   |some l =>
    simp[hl]at ht;subst ht;obtain⟨cs,rfl⟩:∃cs,a=.agg cs:=by cases a<;>simp_all[D.isAgg]
    obtain⟨ds,rfl⟩:∃cs,b=.agg cs:=by cases b<;>simp_all[D.isAgg]
    cases hu with|agg _ us hl1 h11 hr1 =>
    cases hv with|agg _ vs hl2 h12 hr2 =>
    have i:P.fieldsOf t=fs:=by simp[Program.fieldsOf,hk]
    rw[run_equalIn_struct w (d+1) t us vs (by rw[i];exact hk) hc.1,i];exact Qj ⟨hl1,hr1⟩ ⟨hl2,hr2⟩ d fs.toList l 0 cs ds hl hc.2.2 (fun j=>by simp) (fun j=>by simp) h.2 hb.2
  ·cases ht
 ·rename_i n e hk;split at ht
  ·rename_i hc
   cases hke:Ea P e with
   |none=>simp[hke]at ht
   |some k =>
    simp[hke]at ht;subst ht;obtain⟨cs,rfl⟩:∃cs,a=.agg cs:=by cases a<;>simp_all[D.isAgg]
    obtain⟨ds,rfl⟩:∃cs,b=.agg cs:=by cases b<;>simp_all[D.isAgg]
    cases hu with|agg _ us hl1 h11 hr1 =>
    cases hv with|agg _ vs hl2 h12 hr2 =>
    have:=TU hke (us:=us) (vs:=vs) ⟨hl1,hr1⟩ ⟨hl2,hr2⟩ d n 0 cs ds (fun j=>by simp) (fun j=>by simp) h.2 hb.2;rw[Op.equalIn];simp only[Sem.run_bind,run_underlying hk,Result.andThen_ok,CE hc.2];rw[Std.Legacy.Range.forIn_eq_forIn_range'];simp only[Std.Legacy.Range.size,ox,Nat.add_sub_cancel,Nat.div_one]at this ⊢;rw[this];simp only[Result.andThen_ok,D2,D.cells]
    cases Fl cs ds<;>simp
  ·cases ht
 ·cases ht
theorem L7{t:TypeId}{tys:LW}(ht:C5 P t=some tys){a b:D}{fb:Nat->Prop}{u v:Value}
 (e:Jo tys a=true) (hb:Jo tys b=true) (hu:Ar w fb a u) (hv:Ar w fb b v) :
 (Op.equal t u v).run P w=.ok (D2 a b) w:=Qi ht e hb hu hv 9998
theorem W2{t:TypeId}{tys:LW}(ht:C5 P t=some tys){a b:D}{fb:Nat->Prop}{u v:Value}
  (h:Jo tys a=true) (hb:Jo tys b=true) (hu:Ar w fb a u) (hv:Ar w fb b v) (e:tys.1=true) (op:BinOp) (x y:Operand):∃us vs,u=.agg us/\v=.agg vs/\(eqGuard op t x y u v).run P w=.ok () w:=by
 simp only[Jo,oy,beq_iff_eq,e]at h hb;obtain⟨cs,rfl⟩:∃cs,a=.agg cs:=by cases a<;>simp_all[D.isAgg]
 obtain⟨ds,rfl⟩:∃cs,b=.agg cs:=by cases b<;>simp_all[D.isAgg]
 cases hu with|agg _ us hl1 h11 hr1 =>
 cases hv with|agg _ vs hl2 h12 hr2 =>
 refine⟨us,vs,rfl,rfl,run_eqGuard_agg w op t x y us vs ?_⟩;unfold C5 at ht;split at ht
 ·simp at ht;subst ht;simp at e
 ·simp at ht;subst ht;simp at e
 ·split at ht
  ·rename_i hc;exact hc.2.1
  ·cases ht
 ·split at ht
  ·rename_i hc;exact hc.1
  ·cases ht
 ·cases ht
end
end Go.Pw
end
