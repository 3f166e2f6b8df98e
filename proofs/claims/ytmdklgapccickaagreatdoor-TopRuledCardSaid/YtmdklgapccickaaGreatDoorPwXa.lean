/- A part of the proof. -/
import Derived.Test.YtmdklgapccickaaGreatDoorPkT
import Derived.RangeFuncSeq
set_option linter.all false
namespace Go.Pw
open Go.RowKit
structure D1 (M:Nat->Prop) (w w':World):Prop where
 os:w'.os=w.os
 tape:w'.tape=w.tape
 output:w'.output=w.output
 size:w.heap.size<=w'.heap.size
 block:∀k,k<w.heap.size->¬M k->w'.heap[k]?=w.heap[k]?
theorem D1.refl (M:Nat->Prop) (w:World):D1 M w w:=⟨rfl,rfl,rfl,Nat.le_refl _,fun _ _ _=>rfl⟩
theorem D1.trans {M M':Nat->Prop}{a b d:World}(h:D1 M a b) (k:D1 M' b d) (hm:∀i,i<a.heap.size->M' i->M i):D1 M a d :=
 ⟨k.os.trans h.os,k.tape.trans h.tape,k.output.trans h.output,Nat.le_trans h.size k.size,
  fun i hi hn=>(k.block i (Nat.lt_of_lt_of_le hi h.size) fun h'=>hn (hm i hi h')).trans (h.block i hi hn)⟩
theorem D1.mono {M M':Nat->Prop}{a b:World}(h:D1 M a b) (hm:∀i,i<a.heap.size->M i->M' i):D1 M' a b :=
 ⟨h.os,h.tape,h.output,h.size,fun i hi hn=>h.block i hi fun h'=>hn (hm i hi h')⟩
theorem XM.upto {c:D_}{w:World}(h:XM c w):D1 c.mine c.w0 w:=⟨h.os,h.tape,h.output,h.size,h.block⟩
theorem D1.keep {c:D_}{w:World}(h:D1 c.mine c.w0 w):XM c w:=⟨h.os,h.tape,h.output,h.size,h.block⟩
def Sr (J:Nat->Bool->World->(Nat->Prop)->(Nat->Prop)->Prop):Prop :=
 ∀n st W M G W' M',J n st W M G->D1 M W W'->(∀b,M' b->M b\/W.heap.size<=b)->(∀b,M' b->b<W'.heap.size)->J n st W' M' G
def Sn (E:CW) (l:Nat) (els:RD) (J:Nat->Bool->World->(Nat->Prop)->(Nat->Prop)->Prop) (S:Nat->Prop):Prop :=
 ∀(m n k:Nat) (W:World) (M G:Nat->Prop) (x:List D) (vs:Array Value),J n false W M G->els.nx n x k->(∀b,M b->b<W.heap.size/\¬G b)->(∀b,G b->b<W.heap.size)->vs.size=x.length ->
  (∀(i:Nat) (d:D) (v:Value),x[i]?=some d->vs[i]?=some v->Az W (fun b=>(G b\/M b)\/S b) d v) ->
  YieldAt Fence.wide m E.P l vs W fun e W'=>∃b G',e=.returned (.bool b)/\J k (!b) W' M G'/\D1 G W W'/\∀k,G' k->(G k\/W.heap.size<=k)/\k<W'.heap.size
structure VQ (E:CW) (c:D_):Prop where
 abide:Sr c.J
 yield:Sn E c.yl c.els c.J c.sb
 mayfb:∀b,c.may b->c.fb b
 sub:∀b,c.sb b->c.fb b
 smay:∀b,c.sb b->¬c.may b
theorem VQ.pure {E:CW}{c:D_}(hJ:c.J=fun _ _ _ _ _=>False) (hm:c.may=fun _=>False) (hs:c.sb=fun _=>False:=by rfl):VQ E c :=
 ⟨fun n st W M G W' M' h=>by rw[hJ] at h;exact h.elim,fun m n k W M G x vs h=>by rw[hJ] at h;exact h.elim,fun b hb=>by rw[hm] at hb;exact hb.elim,fun b hb=>by rw[hs] at hb;exact hb.elim,fun b hb=>by rw[hs] at hb;exact hb.elim⟩
structure TH (c c':D_):Prop where
 size:c.w0.heap.size<=c'.w0.heap.size
 b0:∀o,o<5000000\/c.nr=true->c'.b0 o=c.b0 o
 els:c'.els=c.els
 yl:c'.yl=c.yl
 hn:c'.hn=c.hn
 J:c'.J=c.J
 nr:c'.nr=c.nr
 keep:∀v,D1 (fun b=>c'.mine b\/c'.may b) c'.w0 v->D1 (fun b=>c.mine b\/c.may b) c.w0 v
 mine:∀b,(c'.w0.heap.size<=b\/c'.mine b)->(c.w0.heap.size<=b\/c.mine b)
 fb:∀b,c.fb b->c'.fb b\/c.may b
 may:∀b,c'.may b->c.may b\/c.w0.heap.size<=b
theorem TH.refl (c:D_):TH c c:=⟨Nat.le_refl _,fun _ _=>rfl,rfl,rfl,rfl,rfl,rfl,fun _ h=>h,fun _ h=>h,fun _ h=>.inl h,fun _ h=>.inl h⟩
theorem TH.trans {a b d:D_}(h:TH a b) (k:TH b d) (hb:∀x,b.fb x->x<b.w0.heap.size) (ha:∀x,a.fb x->x<a.w0.heap.size):TH a d :=
 ⟨Nat.le_trans h.size k.size,fun o ho=>(k.b0 o (ho.imp id h.nr.trans)).trans (h.b0 o ho),k.els.trans h.els,k.yl.trans h.yl,k.hn.trans h.hn,k.J.trans h.J,k.nr.trans h.nr,fun v hv=>h.keep v (k.keep v hv),fun x hx=>h.mine x (k.mine x hx),
  fun x hx=>by
   rcases h.fb x hx with h1|h1
   ·rcases k.fb x h1 with h2|h2
    ·exact .inl h2
    ·rcases h.may x h2 with h3|h3
     ·exact .inr h3
     ·have:=ha x hx;omega
   ·exact .inr h1,
  fun x hx=>by
   rcases k.may x hx with h1|h1
   ·exact h.may x h1
   ·exact .inr (Nat.le_trans h.size h1)⟩
section
variable {E:CW}{c:D_}{β:Nat->Nat->Value}{s:Bg}{a:Act}{w:World}
theorem XF {V:AL}{o g:Nat}{els:RD}{n:Nat}{st:Bool}{o1 g1:Nat}{x1:AW}(h0:∃x,V.ob o=some (g,x)) (h:(V.app (.keep o g (.hist els n st))).ob o1=some (g1,x1)):∃x2,V.ob o1=some (g1,x2)/\(o1≠o->x1=x2)/\(o1=o->x1=.hist els n st):=by
 simp only[AL.app,CO] at h
 split at h
 ·rename_i e;subst e
  simp only[Option.some.injEq,Prod.mk.injEq] at h
  obtain⟨rfl,rfl⟩:=h
  obtain⟨x,hx⟩:=h0
  exact⟨x,hx,fun hn=>absurd rfl hn,fun _=>rfl⟩
 ·rename_i e;exact⟨x1,h,fun _=>rfl,fun he=>absurd he e⟩
theorem Tx (h:Br E c β s a.tmps w) (hy:VQ E c) {o g:Nat}{n:Nat}(hob:s.V.ob o=some (g,.hist c.els n false)) (hβ:β o g=.func (.yield c.yl) #[] #[]) (hhn:o=c.hn)
  (hown:∀b,De β s.V b->b<w.heap.size/\(c.w0.heap.size<=b\/c.mine b)/\¬c.fb b) {n1:Nat}{st1:Bool}{G':Nat->Prop}{W':World}(hJ2:c.J n1 st1 W' (De β s.V) G') (hup:D1 c.may w W')
  (hG:∀k,G' k->(c.may k\/w.heap.size<=k)/\k<W'.heap.size):∃c',TH c c'/\VQ E c'/\Br E c' β ⟨s.sl,s.V.app (.keep o g (.hist c.els n1 st1))⟩ a.tmps W':=by
 obtain⟨c',hc'⟩:∃c':D_,c'={ c with w0:=W',fb:=fun b=>(c.fb b/\¬c.may b)\/G' b,mine:=De β s.V,may:=G' }:=⟨_,rfl⟩
 have hback:∀{o1 g1 x1},(s.V.app (.keep o g (.hist c.els n1 st1))).ob o1=some (g1,x1)->∃x2,s.V.ob o1=some (g1,x2)/\(o1≠o->x1=x2)/\(o1=o->x1=.hist c.els n1 st1):=fun h1=>XF ⟨_,hob⟩ h1
 have hfor:∀{o1 g1 x1},s.V.ob o1=some (g1,x1)->∃x2,(s.V.app (.keep o g (.hist c.els n1 st1))).ob o1=some (g1,x2):=fun {o1 g1 x1} h1=>by
  simp only[AL.app,CO]
  split
  ·rename_i e;subst e;rw[hob] at h1;simp at h1;obtain⟨rfl,_⟩:=h1;exact⟨_,rfl⟩
  ·exact⟨_,h1⟩
 have howns:∀b',De β (s.V.app (.keep o g (.hist c.els n1 st1))) b'->De β s.V b':=fun b' hb'=>by
  obtain⟨o1,g1,x1,h1,h2⟩:=hb'
  obtain⟨x2,h3,_⟩:=hback h1
  exact⟨o1,g1,x2,h3,h2⟩
 have hbar:∀b',b' < w.heap.size->c'.bar β (s.V.app (.keep o g (.hist c.els n1 st1))) b'->c.bar β s.V b':=fun b' hlt hb'=>by
  subst hc'
  rcases hb' with(hb'|hb')|hb'
  ·exact .inl hb'.1
  ·rcases (hG b' hb').1 with h1|h1
   ·exact .inl (hy.mayfb b' h1)
   ·omega
  ·exact .inr (howns b' hb')
 have hst:Ah (c.bar β s.V) w W':=fun b' hn hlt=>hup.block b' hlt fun hm=>hn (.inl (hy.mayfb b' hm))
 refine⟨c',?_,?_,?_⟩
 ·subst hc'
  refine⟨Nat.le_trans h.keep.size hup.size,fun _ _=>rfl,rfl,rfl,rfl,rfl,rfl,fun v hv=>?_,fun b' hb'=>?_,fun b' hb'=>?_,fun b' hb'=>?_⟩
  ·have h1:D1 (fun b=>c.mine b\/c.may b) c.w0 w:=h.keep.upto.mono fun i _ hi=>.inl hi
   have h2:=h1.trans hup fun i _ hi=>.inr hi
   refine h2.trans hv fun i hi hh=>?_
   rcases hh with hh|hh
   ·rcases (hown i hh).2.1 with h3|h3
    ·omega
    ·exact .inl h3
   ·rcases (hG i hh).1 with h3|h3
    ·exact .inr h3
    ·have:=h.keep.size;omega
  ·rcases hb' with hb'|hb'
   ·exact .inl (Nat.le_trans (Nat.le_trans h.keep.size hup.size) hb')
   ·exact(hown b' hb').2.1
  ·by_cases hm:c.may b'
   ·exact .inr hm
   ·exact .inl (.inl ⟨hb',hm⟩)
  ·rcases (hG b' hb').1 with h1|h1
   ·exact .inl h1
   ·exact .inr (Nat.le_trans h.keep.size h1)
 ·subst hc'
  refine⟨hy.abide,hy.yield,fun b' hb'=>.inr hb',fun b' hb'=>.inl ⟨hy.sub b' hb',hy.smay b' hb'⟩,fun b' hb' hg'=>?_⟩
  rcases (hG b' hg').1 with h1|h1
  ·exact hy.smay b' hb' h1
  ·have:=Nat.lt_of_lt_of_le (h.low b' (hy.sub b' hb')).1 h.keep.size;omega
 ·have hkeep:XM c' W':=by subst hc';exact(D1.refl _ _).keep
  refine⟨hkeep,fun b' hb'=>?_,fun gg cs hgg=>(h.glob gg cs hgg).mono hst hbar,fun t=>?_,fun o1 g1 x1 h1=>?_,fun o1 o2 g1 g2 x1 x2 b' h1 h2 h3 h4=>?_,fun o1 g1 x1 b' h1 h2=>?_,fun o1 g1 x1 hl h1=>?_,fun o1 g1 els' n' st' h1=>?_⟩
  ·subst hc'
   rcases hb' with hb'|hb'
   ·exact⟨Nat.lt_of_lt_of_le (h.low b' hb'.1).1 (Nat.le_trans h.keep.size hup.size),fun ho=>(hown b' ho).2.2 hb'.1⟩
   ·refine⟨(hG b' hb').2,fun ho=>?_⟩
    rcases (hG b' hb').1 with h1|h1
    ·exact(hown b' ho).2.2 (hy.mayfb b' h1)
    ·have:=(hown b' ho).1;omega
  ·exact(h.slots t).mono hst hbar (fun _ _ _=>rfl) (fun _=>Nat.le_refl _)
  ·obtain⟨x2,h3,h4,h5⟩:=hback h1
   obtain⟨h6,h7⟩:=h.objs o1 g1 x2 h3
   refine⟨h6,?_⟩
   by_cases ho:o1=o
   ·rw[h5 ho]
    subst ho
    rw[hob] at h3;simp at h3;obtain⟨rfl,_⟩:=h3
    show Dn W' _ β s.V.cn _ (β o1 g)
    rw[hβ];exact .hist _ _ _ _
   ·rw[h4 ho]
    exact h7.mono hst hbar (fun _ _ _=>rfl) (fun _=>Nat.le_refl _) fun b' hb' hlt=>hup.block b' hlt fun hm=>(h.home _ _ _ b' h3 hb').2.2 (hy.mayfb b' hm)
  ·obtain⟨y1,k1,_⟩:=hback h1
   obtain⟨y2,k2,_⟩:=hback h2
   exact h.sep _ _ _ _ _ _ b' k1 k2 h3 h4
  ·obtain⟨y1,k1,_⟩:=hback h1
   have hob1:De β s.V b':=⟨o1,g1,y1,k1,h2⟩
   subst hc'
   refine⟨Nat.lt_of_lt_of_le (hown b' hob1).1 hup.size,.inr hob1,fun hf=>?_⟩
   rcases hf with hf|hf
   ·exact(hown b' hob1).2.2 hf.1
   ·rcases (hG b' hf).1 with h3|h3
    ·exact(hown b' hob1).2.2 (hy.mayfb b' h3)
    ·have:=(hown b' hob1).1;omega
  ·obtain⟨y1,k1,_⟩:=hback h1
   subst hc';exact h.pin _ _ _ hl k1
  ·obtain⟨y1,k1,k2,k3⟩:=hback h1
   by_cases ho:o1=o
   ·have:=k3 ho
    simp only[AW.hist.injEq] at this
    obtain⟨rfl,rfl,rfl⟩:=this
    subst ho
    rw[hob] at k1;simp at k1;obtain⟨rfl,_⟩:=k1
    subst hc'
    exact⟨rfl,hβ,hJ2,hhn⟩
   ·have:=k2 ho;subst this
    obtain⟨e1,e2,e3,e4⟩:=h.hist _ _ _ _ _ k1
    exact absurd (e4.trans hhn.symm) ho
theorem Z4 (h:Br E c β s a.tmps w) (hy:VQ E c) {o g:Nat}{els:RD}{n k:Nat}(hob:s.V.ob o=some (g,.hist els n false)) {ds:List D}(hds:els.nx n ds k) {us:Array Value}(hus:us.size=ds.length)
  (hrep:∀(i:Nat) (d:D) (v:Value),ds[i]?=some d->us[i]?=some v->Az w (c.bar β s.V) d v) (m:Nat) :
  YieldAt Fence.wide m E.P c.yl us w fun e W'=>∃b c',e=.returned (.bool b)/\TH c c'/\VQ E c'/\Br E c' β ⟨s.sl,s.V.app (.keep o g (.hist els k (!b)))⟩ a.tmps W':=by
 obtain⟨he,hβ,hJ,hhn⟩:=h.hist _ _ _ _ _ hob
 subst he
 have hown:∀b,De β s.V b->b<w.heap.size/\(c.w0.heap.size<=b\/c.mine b)/\¬c.fb b:=fun b hb=>by
  obtain⟨o',g',x',h1,h2⟩:=hb;exact h.home _ _ _ b h1 h2
 have hJ1:=hy.abide n false c.w0 c.mine c.may w (De β s.V) hJ h.keep.upto (fun b hb=>(hown b hb).2.1.symm) (fun b hb=>(hown b hb).1)
 have hmb:∀b,c.may b->b<w.heap.size:=fun b hb=>Nat.lt_of_lt_of_le (h.low b (hy.mayfb b hb)).1 h.keep.size
 obtain⟨fn,tmps,assign,body,hrun,hround⟩:=hy.yield m n k w (De β s.V) c.may ds us hJ1 hds (fun b hb=>⟨(hown b hb).1,fun hm=>(hown b hb).2.2 (hy.mayfb b hm)⟩) hmb hus
  (fun i d v h1 h2=>(hrep i d v h1 h2).mono (Ah.refl _ _) fun b _ hb=>by
   rcases hb with(hb|hb)|hb
   ·exact .inl (hy.mayfb b hb)
   ·exact .inr hb
   ·exact .inl (hy.sub b hb))
 refine⟨fn,tmps,assign,body,hrun,hround.mono fun e W'=>?_⟩
 rintro⟨b,G',rfl,hJ2,hup,hG⟩
 obtain⟨c',k1,k2,k3⟩:=Tx h hy hob hβ hhn hown hJ2 hup hG
 exact⟨b,c',rfl,k1,k2,k3⟩
def AV.onlyH (o:Nat):AV->Bool
 |.d _|.ex _|.undef=>true
 |.own o' g=>o' == o && g == 0
 |.fn _ cs|.bnd _ cs|.ablk _ cs _|.agg cs=>allH o cs
 |_=>false
where
 allH (o:Nat):List AV->Bool
  |[]=>true
  |x::xs=>x.onlyH o && allH o xs
theorem Jc {o:Nat}:∀{cs:List AV},AV.onlyH.allH o cs=true->∀x,x∈cs->x.onlyH o=true
 |[],_,x,hx=>by cases hx
 |y::ys,h,x,hx=>by
  simp only[AV.onlyH.allH,Bool.and_eq_true] at h
  rcases List.mem_cons.1 hx with rfl|hx
  ·exact h.1
  ·exact Jc h.2 x hx
theorem AM.onlyH {w:World}{fb:Nat->Prop}{β:Nat->Nat->Value}{cn:Nat->Nat}{o:Nat}{a:AV}{v:Value}(h:AM w fb β cn a v):a.onlyH o=true->AM w fb (fun _ _=>β o 0) (fun _=>1) a v:=by
 induction h with
 |d x v h=>exact fun _=>.d x v h
 |ex xs a h=>exact fun _=>.ex xs a h
 |agg cs vs hl h1 h ih =>
  intro ho
  exact .agg cs vs hl h1 fun i c v hc hv=>ih i c v hc hv (Jc ho c (List.mem_of_getElem? hc))
 |ptr=>intro ho;simp[AV.onlyH] at ho
 |rptr=>intro ho;simp[AV.onlyH] at ho
 |dptr=>intro ho;simp[AV.onlyH] at ho
 |own o' g hg h1 =>
  intro ho
  simp only[AV.onlyH,Bool.and_eq_true,beq_iff_eq] at ho
  obtain⟨rfl,rfl⟩:=ho
  exact AM.own (β:=fun _ _=>β o' 0) (cn:=fun _=>1) o' 0 (by decide) h1
 |map=>intro ho;simp[AV.onlyH] at ho
 |fn f cs vs hl h ih =>
  intro ho
  exact .fn f cs vs hl fun i c v hc hv=>ih i c v hc hv (Jc ho c (List.mem_of_getElem? hc))
 |tup=>intro ho;simp[AV.onlyH] at ho
 |undef v=>exact fun _=>.undef v
 |bnd f cs vs hl h ih =>
  intro ho
  exact .bnd f cs vs hl fun i c v hc hv=>ih i c v hc hv (Jc ho c (List.mem_of_getElem? hc))
 |mref=>intro ho;simp[AV.onlyH] at ho
 |ablk sl cs off b base vs u hb hne h1 hc hv hu ih =>
  intro ho
  exact .ablk sl cs off b base vs u hb hne h1 hc (fun j c hj=>ih j c hj (Jc ho c (List.mem_of_getElem? hj))) hu
def qO (E:CW) (f:FuncId) (o:Nat) (xs:List AV) (els:RD) (n:Nat) (Post:Nat->Bool->D->Prop):Prop :=
 ∀(l:Nat) (J:Nat->Bool->World->(Nat->Prop)->(Nat->Prop)->Prop) (w:World) (fb G S:Nat->Prop) (vs:Array Value),
  Sr J->Sn E l els J S->J n false w (fun _=>False) G->(∀b,fb b->b<w.heap.size)->(∀b,G b->fb b)->(∀b,S b->fb b)->(∀b,S b->¬G b)->db E w fb ->
  vs.size=xs.length->(∀(i:Nat) (x:AV) (v:Value),xs[i]?=some x->vs[i]?=some v->AM w fb (fun _ _=>.func (.yield l) #[] #[]) (fun _=>1) x v) ->
  Calls E.P f vs w fun e w'=>∃v n1 st1 r G',e=.returned v/\Post n1 st1 r/\Az w' (fun _=>False) r v/\J n1 st1 w' (fun _=>False) G'/\D1 G w w'/\∀k,G' k->(G k\/w.heap.size<=k)/\k<w'.heap.size
theorem W9 (h:Br E c β s a.tmps w) (hy:VQ E c) {o:Nat}{els:RD}{n:Nat}(hob:s.V.ob o=some (0,.hist els n false)) {f:FuncId}{xs:List AV}{Post:Nat->Bool->D->Prop}(hA:qO E f o xs els n Post)
  {us:Array Value}(hus:us.size=xs.length) (hrep:∀(i:Nat) (x:AV) (v:Value),xs[i]?=some x->us[i]?=some v->AM w (c.bar β s.V) β s.V.cn x v) (ho:AV.onlyH.allH o xs=true) :
  Calls E.P f us w fun e W'=>∃v n1 st1 r c',e=.returned v/\Post n1 st1 r/\Az W' (fun _=>False) r v/\TH c c'/\VQ E c'/\Br E c' β ⟨s.sl,s.V.app (.keep o 0 (.hist els n1 st1))⟩ a.tmps W':=by
 obtain⟨he,hβ,hJ,hhn⟩:=h.hist _ _ _ _ _ hob
 subst he
 have hown:∀b,De β s.V b->b<w.heap.size/\(c.w0.heap.size<=b\/c.mine b)/\¬c.fb b:=fun b hb=>by
  obtain⟨o',g',x',h1,h2⟩:=hb;exact h.home _ _ _ b h1 h2
 have hmb:∀b,c.may b->b<w.heap.size:=fun b hb=>Nat.lt_of_lt_of_le (h.low b (hy.mayfb b hb)).1 h.keep.size
 have hJ1:=hy.abide n false c.w0 c.mine c.may w (fun b=>False\/De β s.V b) hJ h.keep.upto (fun b hb=>(hown b (hb.resolve_left id)).2.1.symm) (fun b hb=>(hown b (hb.resolve_left id)).1)
 obtain⟨J',hJ'⟩:∃J':Nat->Bool->World->(Nat->Prop)->(Nat->Prop)->Prop,J'=fun n st W M G=>c.J n st W (fun b=>M b\/De β s.V b) G/\∀b,De β s.V b->b<W.heap.size/\¬G b:=⟨_,rfl⟩
 have hab:Sr J':=by
  subst hJ'
  rintro n st W M G W' M' ⟨j1,j2⟩ hup hM hl
  refine⟨hy.abide n st W _ G W' _ j1 (hup.mono fun i _ hi=>.inl hi) (fun b hb=>?_) (fun b hb=>?_),fun b hb=>⟨Nat.lt_of_lt_of_le (j2 b hb).1 hup.size,(j2 b hb).2⟩⟩
  ·rcases hb with hb|hb
   ·rcases hM b hb with h1|h1
    ·exact .inl (.inl h1)
    ·exact .inr h1
   ·exact .inl (.inr hb)
  ·rcases hb with hb|hb
   ·exact hl b hb
   ·exact Nat.lt_of_lt_of_le (j2 b hb).1 hup.size
 have hyi:Sn E c.yl c.els J' (fun b=>De β s.V b\/c.sb b):=by
  subst hJ'
  rintro m n k W M G x vs ⟨j1,j2⟩ hx hM hG hvs hd
  obtain⟨fn,tmps,assign,body,hrun,hround⟩:=hy.yield m n k W (fun b=>M b\/De β s.V b) G x vs j1 hx (fun b hb=>by
   rcases hb with hb|hb
   ·exact hM b hb
   ·exact j2 b hb) hG hvs (fun i d v h1 h2=>(hd i d v h1 h2).mono (Ah.refl _ _) fun b _ hb=>by
    rcases hb with(hb|(hb|hb))|hb
    ·exact .inl (.inl hb)
    ·exact .inl (.inr hb)
    ·exact .inr (.inl hb)
    ·exact .inr (.inr hb))
  refine⟨fn,tmps,assign,body,hrun,hround.mono fun e W'=>?_⟩
  rintro⟨b,G',rfl,k1,k2,k3⟩
  exact⟨b,G',rfl,⟨k1,fun b' hb'=>⟨Nat.lt_of_lt_of_le (j2 b' hb').1 k2.size,fun hg=>by
   rcases (k3 b' hg).1 with h1|h1
   ·exact(j2 b' hb').2 h1
   ·have:=(j2 b' hb').1;omega⟩⟩,k2,k3⟩
 have hcall:=hA c.yl J' w (c.bar β s.V) c.may (fun b=>De β s.V b\/c.sb b) us hab hyi (by subst hJ';exact⟨hJ1,fun b hb=>⟨(hown b hb).1,fun hm=>(hown b hb).2.2 (hy.mayfb b hm)⟩⟩)
  (fun b hb=>by
   rcases hb with hb|hb
   ·exact Nat.lt_of_lt_of_le (h.low b hb).1 h.keep.size
   ·exact(hown b hb).1)
  (fun b hb=>.inl (hy.mayfb b hb))
  (fun b hb=>by
   rcases hb with hb|hb
   ·exact .inr hb
   ·exact .inl (hy.sub b hb))
  (fun b hb hm=>by
   rcases hb with hb|hb
   ·exact(hown b hb).2.2 (hy.mayfb b hm)
   ·exact hy.smay b hb hm)
  h.glob hus (fun i x v h1 h2=>by
   have:=(hrep i x v h1 h2).onlyH (Jc ho x (List.mem_of_getElem? h1))
   rw[hβ] at this;exact this)
 refine hcall.mono fun e W' ⟨v,n1,st1,r,G',k1,k2,k3,k4,k5,k6⟩=>?_
 have hJ2:c.J n1 st1 W' (De β s.V) G':=by
  subst hJ'
  obtain⟨j1,j2⟩:=k4
  exact hy.abide n1 st1 W' _ G' W' (De β s.V) j1 (D1.refl _ _) (fun b hb=>.inl (.inr hb)) (fun b hb=>(j2 b hb).1)
 obtain⟨c',e1,e2,e3⟩:=Tx h hy hob hβ hhn hown hJ2 k5 k6
 exact⟨v,n1,st1,r,c',k1,k2,k3,e1,e2,e3⟩
end
end Go.Pw
