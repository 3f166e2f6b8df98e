/- Part. -/
import Derived.Test.YtmdklgapccickaaGreatDoorPkT
import Derived.RangeFuncSeq
set_option linter.all false
open Nat renaming lt_of_lt_of_le->aa,le_trans->ax,le_refl->az
open List renaming mem_of_getElem?->ay
namespace Go.Pw
open Go.RowKit
structure Di (M:Nat->Prop) (w w':World):Prop where
 os:w'.os=w.os
 tape:w'.tape=w.tape
 output:w'.output=w.output
 size:w.heap.size<=w'.heap.size
 block:∀k,k<w.heap.size->¬M k->w'.heap[k]?=w.heap[k]?
theorem Di.refl(M:Nat->Prop)(w:World):Di M w w:=⟨rfl,rfl,rfl,az _,fun _ _ _=>rfl⟩
theorem Di.trans{M M':Nat->Prop}{a b d:World}(h:Di M a b)(k:Di M' b d)(hm:∀i,i<a.heap.size->M' i->M i):Di M a d :=
 ⟨k.os.trans h.os,k.tape.trans h.tape,k.output.trans h.output,ax h.size k.size,
  fun i hi hn=>(k.block i (aa hi h.size) fun h'=>hn (hm i hi h')).trans (h.block i hi hn)⟩
theorem Di.mono{M M':Nat->Prop}{a b:World}(h:Di M a b)(hm:∀i,i<a.heap.size->M i->M' i):Di M' a b :=
 ⟨h.os,h.tape,h.output,h.size,fun i hi hn=>h.block i hi fun h'=>hn (hm i hi h')⟩
theorem dr.upto{c:EG}{w:World}(h:dr c w):Di c.mine c.w0 w:=⟨h.os,h.tape,h.output,h.size,h.block⟩
theorem Di.keep{c:EG}{w:World}(h:Di c.mine c.w0 w):dr c w:=⟨h.os,h.tape,h.output,h.size,h.block⟩
def We(J:Nat->Bool->World->(Nat->Prop)->(Nat->Prop)->Prop):Prop :=
 ∀n st W M G W' M',J n st W M G->Di M W W'->(∀b,M' b->M b\/W.heap.size<=b)->(∀b,M' b->b<W'.heap.size)->J n st W' M' G
def WW(E:CW)(l:Nat)(els:Us)(J:Nat->Bool->World->(Nat->Prop)->(Nat->Prop)->Prop)(S:Nat->Prop):Prop :=
 ∀(m n k:Nat) (W:World) (M G:Nat->Prop) (x:List D) (vs:Array Value),J n false W M G->els.nx n x k->(∀b,M b->b<W.heap.size/\¬G b)->(∀b,G b->b<W.heap.size)->vs.size=x.length ->
  (∀(i:Nat) (d:D) (v:Value),x[i]?=some d->vs[i]?=some v->Ar W (fun b=>(G b\/M b)\/S b) d v) ->
  YieldAt Fence.wide m E.P l vs W fun e W'=>∃b G',e=.returned (.bool b)/\J k (!b) W' M G'/\Di G W W'/\∀k,G' k->(G k\/W.heap.size<=k)/\k<W'.heap.size
structure Z_ (E:CW) (c:EG):Prop where
 abide:We c.J
 yield:WW E c.yl c.els c.J c.sb
 mayfb:∀b,c.may b->c.fb b
 sub:∀b,c.sb b->c.fb b
 smay:∀b,c.sb b->¬c.may b
theorem Z_.pure{E:CW}{c:EG}(hJ:c.J=fun _ _ _ _ _=>False)(hm:c.may=fun _=>False)(hs:c.sb=fun _=>False:=by rfl):Z_ E c :=
 ⟨fun n st W M G W' M' h=>by rw[hJ]at h;exact h.elim,fun m n k W M G x vs h=>by rw[hJ]at h;exact h.elim,fun b hb=>by rw[hm]at hb;exact hb.elim,fun b hb=>by rw[hs]at hb;exact hb.elim,fun b hb=>by rw[hs]at hb;exact hb.elim⟩
structure Z3 (c c':EG):Prop where
 size:c.w0.heap.size<=c'.w0.heap.size
 b0:∀o,o<5000000\/c.nr=true->c'.b0 o=c.b0 o
 els:c'.els=c.els
 yl:c'.yl=c.yl
 hn:c'.hn=c.hn
 J:c'.J=c.J
 nr:c'.nr=c.nr
 keep:∀v,Di (fun b=>c'.mine b\/c'.may b) c'.w0 v->Di (fun b=>c.mine b\/c.may b) c.w0 v
 mine:∀b,(c'.w0.heap.size<=b\/c'.mine b)->(c.w0.heap.size<=b\/c.mine b)
 fb:∀b,c.fb b->c'.fb b\/c.may b
 may:∀b,c'.may b->c.may b\/c.w0.heap.size<=b
theorem Z3.refl(c:EG):Z3 c c:=⟨az _,fun _ _=>rfl,rfl,rfl,rfl,rfl,rfl,fun _ h=>h,fun _ h=>h,fun _ h=>.inl h,fun _ h=>.inl h⟩
theorem Z3.trans{a b d:EG}(h:Z3 a b)(k:Z3 b d)(hb:∀x,b.fb x->x<b.w0.heap.size)(i:∀x,a.fb x->x<a.w0.heap.size):Z3 a d :=
 ⟨ax h.size k.size,fun o ho=>(k.b0 o (ho.imp id h.nr.trans)).trans (h.b0 o ho),k.els.trans h.els,k.yl.trans h.yl,k.hn.trans h.hn,k.J.trans h.J,k.nr.trans h.nr,fun v hv=>h.keep v (k.keep v hv),fun x hx=>h.mine x (k.mine x hx),
  fun x hx=>by
   rcases h.fb x hx with h1|h1
   ·rcases k.fb x h1 with h2|h2
    ·exact .inl h2
    ·rcases h.may x h2 with e|e
     ·exact .inr e
     ·have:=i x hx;omega
   ·exact .inr h1,
  fun x hx=>by
   rcases k.may x hx with h1|h1
   ·exact h.may x h1
   ·exact .inr (ax h.size h1)⟩
section
variable {E:CW}{c:EG}{β:Nat->Nat->Value}{s:BG}{a:Act}{w:World}
theorem df{V:AO}{o g:Nat}{els:Us}{n:Nat}{st:Bool}{j m:Nat}{i:AY}(h0:∃x,V.ob o=some (g,x))(h:(V.app (.keep o g (.hist els n st))).ob j=some (m,i)):∃l,V.ob j=some (m,l)/\(j≠o->i=l)/\(j=o->i=.hist els n st):=by
 simp only[AO.app,CB]at h;split at h
 ·rename_i e;subst e;simp only[Option.some.injEq,Prod.mk.injEq]at h;obtain⟨rfl,rfl⟩:=h;obtain⟨x,hx⟩:=h0;exact⟨x,hx,fun hn=>absurd rfl hn,fun _=>rfl⟩
 ·rename_i e;exact⟨i,h,fun _=>rfl,fun p=>absurd p e⟩
theorem Xv(h:BZ E c β s a.tmps w)(z:Z_ E c){o g:Nat}{n:Nat}(G:s.V.ob o=some (g,.hist c.els n false))(hβ:β o g=.func (.yield c.yl) #[] #[])(T:o=c.hn)
  (m:∀b,DJ β s.V b->b<w.heap.size/\(c.w0.heap.size<=b\/c.mine b)/\¬c.fb b) {n1:Nat}{st1:Bool}{G':Nat->Prop}{W':World}(α:c.J n1 st1 W' (DJ β s.V) G') (x:Di c.may w W')
  (S:∀k,G' k->(c.may k\/w.heap.size<=k)/\k<W'.heap.size):∃c',Z3 c c'/\Z_ E c'/\BZ E c' β ⟨s.sl,s.V.app (.keep o g (.hist c.els n1 st1))⟩ a.tmps W':=by
 obtain⟨c',r⟩:∃c':EG,c'={ c with w0:=W',fb:=fun b=>(c.fb b/\¬c.may b)\/G' b,mine:=DJ β s.V,may:=G' }:=⟨_,rfl⟩
 have l:∀{p y B},(s.V.app (.keep o g (.hist c.els n1 st1))).ob p=some (y,B)->∃L,s.V.ob p=some (y,L)/\(p≠o->B=L)/\(p=o->B=.hist c.els n1 st1):=fun h1=>df ⟨_,G⟩ h1
 have γ:∀{p y B},s.V.ob p=some (y,B)->∃L,(s.V.app (.keep o g (.hist c.els n1 st1))).ob p=some (y,L):=fun {p y B} h1=>by
  simp only[AO.app,CB];split
  ·rename_i e;subst e;rw[G]at h1;simp at h1;obtain⟨rfl,_⟩:=h1;exact⟨_,rfl⟩
  ·exact⟨_,h1⟩
 have O:∀b',DJ β (s.V.app (.keep o g (.hist c.els n1 st1))) b'->DJ β s.V b':=fun b' j=>by
  obtain⟨p,y,B,h1,h2⟩:=j;obtain⟨L,q,_⟩:=l h1;exact⟨p,y,L,q,h2⟩
 have A:∀b',b' < w.heap.size->c'.bar β (s.V.app (.keep o g (.hist c.els n1 st1))) b'->c.bar β s.V b':=fun b' M j=>by
  subst r;rcases j with(j|j)|j
  ·exact .inl j.1
  ·rcases(S b' j).1 with h1|h1
   ·exact .inl (z.mayfb b' h1)
   ·omega
  ·exact .inr (O b' j)
 have R:Aq (c.bar β s.V) w W':=fun b' hn M=>x.block b' M fun hm=>hn (.inl (z.mayfb b' hm))
 refine⟨c',?_,?_,?_⟩
 ·subst r;refine⟨ax h.keep.size x.size,fun _ _=>rfl,rfl,rfl,rfl,rfl,rfl,fun v hv=>?_,fun b' j=>?_,fun b' j=>?_,fun b' j=>?_⟩
  ·have h1:Di (fun b=>c.mine b\/c.may b) c.w0 w:=h.keep.upto.mono fun i _ hi=>.inl hi
   have h2:=h1.trans x fun i _ hi=>.inr hi
   refine h2.trans hv fun i hi hh=>?_
   rcases hh with hh|hh
   ·rcases(m i hh).2.1 with q|q
    ·omega
    ·exact .inl q
   ·rcases(S i hh).1 with q|q
    ·exact .inr q
    ·have:=h.keep.size;omega
  ·rcases j with j|j
   ·exact .inl (ax (ax h.keep.size x.size) j)
   ·exact(m b' j).2.1
  ·by_cases hm:c.may b'
   ·exact .inr hm
   ·exact .inl (.inl ⟨j,hm⟩)
  ·rcases(S b' j).1 with h1|h1
   ·exact .inl h1
   ·exact .inr (ax h.keep.size h1)
 ·subst r;refine⟨z.abide,z.yield,fun b' j=>.inr j,fun b' j=>.inl ⟨z.sub b' j,z.smay b' j⟩,fun b' j Z=>?_⟩;rcases(S b' Z).1 with h1|h1
  ·exact z.smay b' j h1
  ·have:=aa (h.low b' (z.sub b' j)).1 h.keep.size;omega
 ·have N:dr c' W':=by subst r;exact(Di.refl _ _).keep
  refine⟨N,fun b' j=>?_,fun gg cs Y=>(h.glob gg cs Y).mono R A,fun t=>?_,fun p y B h1=>?_,fun p o2 y g2 B L b' h1 h2 q h4=>?_,fun p y B b' h1 h2=>?_,fun p y B hl h1=>?_,fun p y els' n' st' h1=>?_⟩
  ·subst r;rcases j with j|j
   ·exact⟨aa (h.low b' j.1).1 (ax h.keep.size x.size),fun ho=>(m b' ho).2.2 j.1⟩
   ·refine⟨(S b' j).2,fun ho=>?_⟩;rcases(S b' j).1 with h1|h1
    ·exact(m b' ho).2.2 (z.mayfb b' h1)
    ·have:=(m b' ho).1;omega
  ·exact(h.slots t).mono R A (fun _ _ _=>rfl) (fun _=>az _)
  ·obtain⟨L,q,h4,h5⟩:=l h1;obtain⟨h6,h7⟩:=h.objs p y L q;refine⟨h6,?_⟩
   by_cases ho:p=o
   ·rw[h5 ho];subst ho;rw[G]at q;simp at q;obtain⟨rfl,_⟩:=q;show Ef W' _ β s.V.cn _ (β p g);rw[hβ];exact .hist _ _ _ _
   ·rw[h4 ho];exact h7.mono R A (fun _ _ _=>rfl) (fun _=>az _) fun b' j M=>x.block b' M fun hm=>(h.home _ _ _ b' q j).2.2 (z.mayfb b' hm)
  ·obtain⟨X,k1,_⟩:=l h1;obtain⟨y2,k2,_⟩:=l h2;exact h.sep _ _ _ _ _ _ b' k1 k2 q h4
  ·obtain⟨X,k1,_⟩:=l h1;have u:DJ β s.V b':=⟨p,y,X,k1,h2⟩
   subst r;refine⟨aa (m b' u).1 x.size,.inr u,fun U=>?_⟩;rcases U with U|U
   ·exact(m b' u).2.2 U.1
   ·rcases(S b' U).1 with q|q
    ·exact(m b' u).2.2 (z.mayfb b' q)
    ·have:=(m b' u).1;omega
  ·obtain⟨X,k1,_⟩:=l h1;subst r;exact h.pin _ _ _ hl k1
  ·obtain⟨X,k1,k2,k3⟩:=l h1
   by_cases ho:p=o
   ·have:=k3 ho;simp only[AY.hist.injEq]at this;obtain⟨rfl,rfl,rfl⟩:=this;subst ho;rw[G]at k1;simp at k1;obtain⟨rfl,_⟩:=k1;subst r;exact⟨rfl,hβ,α,T⟩
   ·have:=k2 ho;subst this;obtain⟨e1,e2,e3,e4⟩:=h.hist _ _ _ _ _ k1;exact absurd (e4.trans T.symm) ho
theorem jR(h:BZ E c β s a.tmps w)(l:Z_ E c){o g:Nat}{els:Us}{n k:Nat}(p:s.V.ob o=some (g,.hist els n false)){ds:List D}(z:els.nx n ds k){us:Array Value}(t:us.size=ds.length)
  (q:∀(i:Nat) (d:D) (v:Value),ds[i]?=some d->us[i]?=some v->Ar w (c.bar β s.V) d v) (m:Nat) :
  YieldAt Fence.wide m E.P c.yl us w fun e W'=>∃b c',e=.returned (.bool b)/\Z3 c c'/\Z_ E c'/\BZ E c' β ⟨s.sl,s.V.app (.keep o g (.hist els k (!b)))⟩ a.tmps W':=by
 obtain⟨L,hβ,M,B⟩:=h.hist _ _ _ _ _ p;subst L
 have j:∀b,DJ β s.V b->b<w.heap.size/\(c.w0.heap.size<=b\/c.mine b)/\¬c.fb b:=fun b hb=>by
  obtain⟨o',g',x',h1,h2⟩:=hb;exact h.home _ _ _ b h1 h2
 have A:=l.abide n false c.w0 c.mine c.may w (DJ β s.V) M h.keep.upto (fun b hb=>(j b hb).2.1.symm) (fun b hb=>(j b hb).1);have u:∀b,c.may b->b<w.heap.size:=fun b hb=>aa (h.low b (l.mayfb b hb)).1 h.keep.size
 obtain⟨fn,tmps,assign,body,r,hround⟩:=l.yield m n k w (DJ β s.V) c.may ds us A z (fun b hb=>⟨(j b hb).1,fun hm=>(j b hb).2.2 (l.mayfb b hm)⟩) u t
  (fun i d v h1 h2=>(q i d v h1 h2).mono (Aq.refl _ _) fun b _ hb=>by
   rcases hb with(hb|hb)|hb
   ·exact .inl (l.mayfb b hb)
   ·exact .inr hb
   ·exact .inl (l.sub b hb))
 refine⟨fn,tmps,assign,body,r,hround.mono fun e W'=>?_⟩;rintro⟨b,G',rfl,y,x,G⟩;obtain⟨c',k1,k2,J⟩:=Xv h l p hβ B j y x G;exact⟨b,c',rfl,k1,k2,J⟩
def AV.onlyH(o:Nat):AV->Bool
 |.d _|.ex _|.undef=>true
 |.own o' g=>o' == o && g == 0
 |.fn _ cs|.bnd _ cs|.ablk _ cs _|.agg cs=>allH o cs
 |_=>false
where
 allH (o:Nat):List AV->Bool
  |[]=>true
  |x::xs=>x.onlyH o && allH o xs
theorem LJ{o:Nat}:∀{cs:List AV},AV.onlyH.allH o cs=true->∀x,x∈cs->x.onlyH o=true
 |[],_,x,hx=>by cases hx
 |y::ys,h,x,hx=>by
  simp only[AV.onlyH.allH,Bool.and_eq_true]at h;rcases List.mem_cons.1 hx with rfl|hx
  ·exact h.1
  ·exact LJ h.2 x hx
theorem AP.onlyH{w:World}{fb:Nat->Prop}{β:Nat->Nat->Value}{cn:Nat->Nat}{o:Nat}{a:AV}{v:Value}(h:AP w fb β cn a v):a.onlyH o=true->AP w fb (fun _ _=>β o 0) (fun _=>1) a v:=by
 induction h with
 |d x v h=>exact fun _=>.d x v h
 |ex xs a h=>exact fun _=>.ex xs a h
 |agg cs vs hl h1 h ih =>
  intro ho;exact .agg cs vs hl h1 fun i c v hc hv=>ih i c v hc hv (LJ ho c (ay hc))
 |ptr=>intro ho;simp[AV.onlyH]at ho
 |rptr=>intro ho;simp[AV.onlyH]at ho
 |dptr=>intro ho;simp[AV.onlyH]at ho
 |own o' g hg h1 =>
  intro ho;simp only[AV.onlyH,Bool.and_eq_true,beq_iff_eq]at ho;obtain⟨rfl,rfl⟩:=ho;exact AP.own (β:=fun _ _=>β o' 0) (cn:=fun _=>1) o' 0 (by decide) h1
 |map=>intro ho;simp[AV.onlyH]at ho
 |fn f cs vs hl h ih =>
  intro ho;exact .fn f cs vs hl fun i c v hc hv=>ih i c v hc hv (LJ ho c (ay hc))
 |tup=>intro ho;simp[AV.onlyH]at ho
 |undef v=>exact fun _=>.undef v
 |bnd f cs vs hl h ih =>
  intro ho;exact .bnd f cs vs hl fun i c v hc hv=>ih i c v hc hv (LJ ho c (ay hc))
 |mref=>intro ho;simp[AV.onlyH]at ho
 |ablk sl cs off b base vs u hb hne h1 hc hv hu ih =>
  intro ho;exact .ablk sl cs off b base vs u hb hne h1 hc (fun j c e=>ih j c e (LJ ho c (ay e))) hu
def ABR(E:CW)(f:FuncId)(o:Nat)(xs:List AV)(els:Us)(n:Nat)(Post:Nat->Bool->D->Prop):Prop :=
 ∀(l:Nat) (J:Nat->Bool->World->(Nat->Prop)->(Nat->Prop)->Prop) (w:World) (fb G S:Nat->Prop) (vs:Array Value),
  We J->WW E l els J S->J n false w (fun _=>False) G->(∀b,fb b->b<w.heap.size)->(∀b,G b->fb b)->(∀b,S b->fb b)->(∀b,S b->¬G b)->mn E w fb ->
  vs.size=xs.length->(∀(i:Nat) (x:AV) (v:Value),xs[i]?=some x->vs[i]?=some v->AP w fb (fun _ _=>.func (.yield l) #[] #[]) (fun _=>1) x v) ->
  Calls E.P f vs w fun e w'=>∃v n1 st1 r G',e=.returned v/\Post n1 st1 r/\Ar w' (fun _=>False) r v/\J n1 st1 w' (fun _=>False) G'/\Di G w w'/\∀k,G' k->(G k\/w.heap.size<=k)/\k<w'.heap.size
theorem dU(h:BZ E c β s a.tmps w)(l:Z_ E c){o:Nat}{els:Us}{n:Nat}(L:s.V.ob o=some (0,.hist els n false)){f:FuncId}{xs:List AV}{Post:Nat->Bool->D->Prop}(hA:ABR E f o xs els n Post)
  {us:Array Value}(S:us.size=xs.length) (z:∀(i:Nat) (x:AV) (v:Value),xs[i]?=some x->us[i]?=some v->AP w (c.bar β s.V) β s.V.cn x v) (ho:AV.onlyH.allH o xs=true) :
  Calls E.P f us w fun e W'=>∃v n1 st1 r c',e=.returned v/\Post n1 st1 r/\Ar W' (fun _=>False) r v/\Z3 c c'/\Z_ E c'/\BZ E c' β ⟨s.sl,s.V.app (.keep o 0 (.hist els n1 st1))⟩ a.tmps W':=by
 obtain⟨he,hβ,hJ,Y⟩:=h.hist _ _ _ _ _ L;subst he
 have j:∀b,DJ β s.V b->b<w.heap.size/\(c.w0.heap.size<=b\/c.mine b)/\¬c.fb b:=fun b hb=>by
  obtain⟨o',g',x',h1,h2⟩:=hb;exact h.home _ _ _ b h1 h2
 have α:∀b,c.may b->b<w.heap.size:=fun b hb=>aa (h.low b (l.mayfb b hb)).1 h.keep.size
 have U:=l.abide n false c.w0 c.mine c.may w (fun b=>False\/DJ β s.V b) hJ h.keep.upto (fun b hb=>(j b (hb.resolve_left id)).2.1.symm) (fun b hb=>(j b (hb.resolve_left id)).1);obtain⟨J',q⟩:∃J':Nat->Bool->World->(Nat->Prop)->(Nat->Prop)->Prop,J'=fun n st W M G=>c.J n st W (fun b=>M b\/DJ β s.V b) G/\∀b,DJ β s.V b->b<W.heap.size/\¬G b:=⟨_,rfl⟩
 have R:We J':=by
  subst q;rintro n st W M G W' M' ⟨B,p⟩ u Z hl;refine⟨l.abide n st W _ G W' _ B (u.mono fun i _ hi=>.inl hi) (fun b hb=>?_) (fun b hb=>?_),fun b hb=>⟨aa (p b hb).1 u.size,(p b hb).2⟩⟩
  ·rcases hb with hb|hb
   ·rcases Z b hb with h1|h1
    ·exact .inl (.inl h1)
    ·exact .inr h1
   ·exact .inl (.inr hb)
  ·rcases hb with hb|hb
   ·exact hl b hb
   ·exact aa (p b hb).1 u.size
 have X:WW E c.yl c.els J' (fun b=>DJ β s.V b\/c.sb b):=by
  subst q;rintro m n k W M G x vs ⟨B,p⟩ hx Z hG O hd
  obtain⟨fn,tmps,assign,body,A,hround⟩:=l.yield m n k W (fun b=>M b\/DJ β s.V b) G x vs B hx (fun b hb=>by
   rcases hb with hb|hb
   ·exact Z b hb
   ·exact p b hb) hG O (fun i d v h1 h2=>(hd i d v h1 h2).mono (Aq.refl _ _) fun b _ hb=>by
    rcases hb with(hb|(hb|hb))|hb
    ·exact .inl (.inl hb)
    ·exact .inl (.inr hb)
    ·exact .inr (.inl hb)
    ·exact .inr (.inr hb))
  refine⟨fn,tmps,assign,body,A,hround.mono fun e W'=>?_⟩;rintro⟨b,G',rfl,k1,k2,N⟩
  exact⟨b,G',rfl,⟨k1,fun b' y=>⟨aa (p b' y).1 k2.size,fun hg=>by
   rcases(N b' hg).1 with h1|h1
   ·exact(p b' y).2 h1
   ·have:=(p b' y).1;omega⟩⟩,k2,N⟩
 have t:=hA c.yl J' w (c.bar β s.V) c.may (fun b=>DJ β s.V b\/c.sb b) us R X (by subst q;exact⟨U,fun b hb=>⟨(j b hb).1,fun hm=>(j b hb).2.2 (l.mayfb b hm)⟩⟩)
  (fun b hb=>by
   rcases hb with hb|hb
   ·exact aa (h.low b hb).1 h.keep.size
   ·exact(j b hb).1)
  (fun b hb=>.inl (l.mayfb b hb))
  (fun b hb=>by
   rcases hb with hb|hb
   ·exact .inr hb
   ·exact .inl (l.sub b hb))
  (fun b hb hm=>by
   rcases hb with hb|hb
   ·exact(j b hb).2.2 (l.mayfb b hm)
   ·exact l.smay b hb hm)
  h.glob S (fun i x v h1 h2=>by
   have:=(z i x v h1 h2).onlyH (LJ ho x (ay h1))
   rw[hβ]at this;exact this)
 refine t.mono fun e W' ⟨v,n1,st1,r,G',k1,k2,N,k4,k5,k6⟩=>?_
 have T:c.J n1 st1 W' (DJ β s.V) G':=by
  subst q;obtain⟨B,p⟩:=k4;exact l.abide n1 st1 W' _ G' W' (DJ β s.V) B (Di.refl _ _) (fun b hb=>.inl (.inr hb)) (fun b hb=>(p b hb).1)
 obtain⟨c',e1,e2,e3⟩:=Xv h l L hβ Y j T k5 k6;exact⟨v,n1,st1,r,c',k1,k2,N,e1,e2,e3⟩
end
end Go.Pw
