/- A part of the proof. -/
import Derived.Test.YtpcpcjbbdgmohaaPkT
import Derived.RangeFuncSeq
set_option linter.all false
namespace Go.Pw
open Go.RowKit
structure Dq (M:Nat->Prop) (w w':World):Prop where
 os:w'.os=w.os
 tape:w'.tape=w.tape
 output:w'.output=w.output
 size:w.heap.size<=w'.heap.size
 block:∀k,k<w.heap.size->¬M k->w'.heap[k]?=w.heap[k]?
theorem Dq.refl (M:Nat->Prop) (w:World):Dq M w w:=⟨rfl,rfl,rfl,Nat.le_refl _,fun _ _ _=>rfl⟩
theorem Dq.trans {M M':Nat->Prop}{a b d:World}(h:Dq M a b) (k:Dq M' b d) (hm:∀i,i<a.heap.size->M' i->M i):Dq M a d :=
 ⟨k.os.trans h.os,k.tape.trans h.tape,k.output.trans h.output,Nat.le_trans h.size k.size,
  fun i hi hn=>(k.block i (Nat.lt_of_lt_of_le hi h.size) fun h'=>hn (hm i hi h')).trans (h.block i hi hn)⟩
theorem Dq.mono {M M':Nat->Prop}{a b:World}(h:Dq M a b) (hm:∀i,i<a.heap.size->M i->M' i):Dq M' a b :=
 ⟨h.os,h.tape,h.output,h.size,fun i hi hn=>h.block i hi fun h'=>hn (hm i hi h')⟩
theorem Th.upto {c:Dr}{w:World}(h:Th c w):Dq c.mine c.w0 w:=⟨h.os,h.tape,h.output,h.size,h.block⟩
theorem Dq.keep {c:Dr}{w:World}(h:Dq c.mine c.w0 w):Th c w:=⟨h.os,h.tape,h.output,h.size,h.block⟩
def VR (J:Nat->Bool->World->(Nat->Prop)->(Nat->Prop)->Prop):Prop :=
 ∀n st W M G W' M',J n st W M G->Dq M W W'->(∀b,M' b->M b\/W.heap.size<=b)->(∀b,M' b->b<W'.heap.size)->J n st W' M' G
def VN (E:C3) (l:Nat) (els:List (List D)) (J:Nat->Bool->World->(Nat->Prop)->(Nat->Prop)->Prop):Prop :=
 ∀(m n:Nat) (W:World) (M G:Nat->Prop) (x:List D) (vs:Array Value),J n false W M G->els[n]?=some x->(∀b,M b->b<W.heap.size/\¬G b)->(∀b,G b->b<W.heap.size)->vs.size=x.length ->
  (∀(i:Nat) (d:D) (v:Value),x[i]?=some d->vs[i]?=some v->Ar W (fun b=>G b\/M b) d v) ->
  YieldAt Fence.wide m E.P l vs W fun e W'=>∃b G',e=.returned (.bool b)/\J (n+1) (!b) W' M G'/\Dq G W W'/\∀k,G' k->(G k\/W.heap.size<=k)/\k<W'.heap.size
structure X7 (E:C3) (c:Dr):Prop where
 abide:VR c.J
 yield:VN E c.yl c.els c.J
 mayfb:∀b,c.may b->c.fb b
theorem X7.pure {E:C3}{c:Dr}(hJ:c.J=fun _ _ _ _ _=>False) (hm:c.may=fun _=>False):X7 E c :=
 ⟨fun n st W M G W' M' h=>by rw[hJ] at h;exact h.elim,fun m n W M G x vs h=>by rw[hJ] at h;exact h.elim,fun b hb=>by rw[hm] at hb;exact hb.elim⟩
structure Tk (c c':Dr):Prop where
 size:c.w0.heap.size<=c'.w0.heap.size
 b0:∀o,o<5000000\/c.nr=true->c'.b0 o=c.b0 o
 els:c'.els=c.els
 yl:c'.yl=c.yl
 hn:c'.hn=c.hn
 J:c'.J=c.J
 nr:c'.nr=c.nr
 keep:∀v,Dq (fun b=>c'.mine b\/c'.may b) c'.w0 v->Dq (fun b=>c.mine b\/c.may b) c.w0 v
 mine:∀b,(c'.w0.heap.size<=b\/c'.mine b)->(c.w0.heap.size<=b\/c.mine b)
 fb:∀b,c.fb b->c'.fb b\/c.may b
 may:∀b,c'.may b->c.may b\/c.w0.heap.size<=b
theorem Tk.refl (c:Dr):Tk c c:=⟨Nat.le_refl _,fun _ _=>rfl,rfl,rfl,rfl,rfl,rfl,fun _ h=>h,fun _ h=>h,fun _ h=>.inl h,fun _ h=>.inl h⟩
theorem Tk.trans {a b d:Dr}(h:Tk a b) (k:Tk b d) (hb:∀x,b.fb x->x<b.w0.heap.size) (ha:∀x,a.fb x->x<a.w0.heap.size):Tk a d :=
 ⟨Nat.le_trans h.size k.size,fun o ho=>(k.b0 o (ho.imp id h.nr.trans)).trans (h.b0 o ho),k.els.trans h.els,k.yl.trans h.yl,k.hn.trans h.hn,k.J.trans h.J,k.nr.trans h.nr,fun v hv=>h.keep v (k.keep v hv),fun x hx=>h.mine x (k.mine x hx),
  fun x hx=>by
   rcases h.fb x hx with h1|h1
   ·rcases k.fb x h1 with h2|h2
    ·exact .inl h2
    ·rcases h.may x h2 with h3|h3
     ·exact .inr h3
     ·have:=ha x hx;omega
   ·exact .inr h1,
  fun x hx=>by
   rcases k.may x hx with h1|h1
   ·exact h.may x h1
   ·exact .inr (Nat.le_trans h.size h1)⟩
section
variable {E:C3}{c:Dr}{β:Nat->Nat->Value}{s:BE}{a:Act}{w:World}
theorem TY {V:AB}{o g:Nat}{els:List (List D)}{n:Nat}{st:Bool}{o1 g1:Nat}{x1:AE}(h0:∃x,V.ob o=some (g,x)) (h:(V.app (.keep o g (.hist els n st))).ob o1=some (g1,x1)):∃x2,V.ob o1=some (g1,x2)/\(o1≠o->x1=x2)/\(o1=o->x1=.hist els n st):=by
 simp only[AB.app,A9] at h
 split at h
 ·rename_i e;subst e
  simp only[Option.some.injEq,Prod.mk.injEq] at h
  obtain⟨rfl,rfl⟩:=h
  obtain⟨x,hx⟩:=h0
  exact⟨x,hx,fun hn=>absurd rfl hn,fun _=>rfl⟩
 ·rename_i e;exact⟨x1,h,fun _=>rfl,fun he=>absurd he e⟩
theorem V3 (h:Bc E c β s a.tmps w) (hy:X7 E c) {o g:Nat}{els:List (List D)}{n:Nat}(hob:s.V.ob o=some (g,.hist els n false)) {ds:List D}(hds:els[n]?=some ds) {us:Array Value}(hus:us.size=ds.length)
  (hrep:∀(i:Nat) (d:D) (v:Value),ds[i]?=some d->us[i]?=some v->Ar w (c.bar β s.V) d v) (m:Nat) :
  YieldAt Fence.wide m E.P c.yl us w fun e W'=>∃b c',e=.returned (.bool b)/\Tk c c'/\X7 E c'/\Bc E c' β ⟨s.sl,s.V.app (.keep o g (.hist els (n+1) (!b)))⟩ a.tmps W':=by
 obtain⟨he,hβ,hJ,hhn⟩:=h.hist _ _ _ _ _ hob
 subst he
 have hown:∀b,D9 β s.V b->b<w.heap.size/\(c.w0.heap.size<=b\/c.mine b)/\¬c.fb b:=fun b hb=>by
  obtain⟨o',g',x',h1,h2⟩:=hb;exact h.home _ _ _ b h1 h2
 have hJ1:=hy.abide n false c.w0 c.mine c.may w (D9 β s.V) hJ h.keep.upto (fun b hb=>(hown b hb).2.1.symm) (fun b hb=>(hown b hb).1)
 have hmb:∀b,c.may b->b<w.heap.size:=fun b hb=>Nat.lt_of_lt_of_le (h.low b (hy.mayfb b hb)).1 h.keep.size
 obtain⟨fn,tmps,assign,body,hrun,hround⟩:=hy.yield m n w (D9 β s.V) c.may ds us hJ1 hds (fun b hb=>⟨(hown b hb).1,fun hm=>(hown b hb).2.2 (hy.mayfb b hm)⟩) hmb hus
  (fun i d v h1 h2=>(hrep i d v h1 h2).mono (Ak.refl _ _) fun b _ hb=>by
   rcases hb with hb|hb
   ·exact .inl (hy.mayfb b hb)
   ·exact .inr hb)
 refine⟨fn,tmps,assign,body,hrun,hround.mono fun e W'=>?_⟩
 rintro⟨b,G',rfl,hJ2,hup,hG⟩
 obtain⟨c',hc'⟩:∃c':Dr,c'={ c with w0:=W',fb:=fun b=>(c.fb b/\¬c.may b)\/G' b,mine:=D9 β s.V,may:=G' }:=⟨_,rfl⟩
 have hback:∀{o1 g1 x1},(s.V.app (.keep o g (.hist c.els (n+1) (!b)))).ob o1=some (g1,x1)->∃x2,s.V.ob o1=some (g1,x2)/\(o1≠o->x1=x2)/\(o1=o->x1=.hist c.els (n+1) (!b)):=fun h1=>TY ⟨_,hob⟩ h1
 have hfor:∀{o1 g1 x1},s.V.ob o1=some (g1,x1)->∃x2,(s.V.app (.keep o g (.hist c.els (n+1) (!b)))).ob o1=some (g1,x2):=fun {o1 g1 x1} h1=>by
  simp only[AB.app,A9]
  split
  ·rename_i e;subst e;rw[hob] at h1;simp at h1;obtain⟨rfl,_⟩:=h1;exact⟨_,rfl⟩
  ·exact⟨_,h1⟩
 have howns:∀b',D9 β (s.V.app (.keep o g (.hist c.els (n+1) (!b)))) b'->D9 β s.V b':=fun b' hb'=>by
  obtain⟨o1,g1,x1,h1,h2⟩:=hb'
  obtain⟨x2,h3,_⟩:=hback h1
  exact⟨o1,g1,x2,h3,h2⟩
 have hbar:∀b',b' < w.heap.size->c'.bar β (s.V.app (.keep o g (.hist c.els (n+1) (!b)))) b'->c.bar β s.V b':=fun b' hlt hb'=>by
  subst hc'
  rcases hb' with(hb'|hb')|hb'
  ·exact .inl hb'.1
  ·rcases (hG b' hb').1 with h1|h1
   ·exact .inl (hy.mayfb b' h1)
   ·omega
  ·exact .inr (howns b' hb')
 have hst:Ak (c.bar β s.V) w W':=fun b' hn hlt=>hup.block b' hlt fun hm=>hn (.inl (hy.mayfb b' hm))
 refine⟨b,c',rfl,?_,?_,?_⟩
 ·subst hc'
  refine⟨Nat.le_trans h.keep.size hup.size,fun _ _=>rfl,rfl,rfl,rfl,rfl,rfl,fun v hv=>?_,fun b' hb'=>?_,fun b' hb'=>?_,fun b' hb'=>?_⟩
  ·have h1:Dq (fun b=>c.mine b\/c.may b) c.w0 w:=h.keep.upto.mono fun i _ hi=>.inl hi
   have h2:=h1.trans hup fun i _ hi=>.inr hi
   refine h2.trans hv fun i hi hh=>?_
   rcases hh with hh|hh
   ·rcases (hown i hh).2.1 with h3|h3
    ·omega
    ·exact .inl h3
   ·rcases (hG i hh).1 with h3|h3
    ·exact .inr h3
    ·have:=h.keep.size;omega
  ·rcases hb' with hb'|hb'
   ·exact .inl (Nat.le_trans (Nat.le_trans h.keep.size hup.size) hb')
   ·exact(hown b' hb').2.1
  ·by_cases hm:c.may b'
   ·exact .inr hm
   ·exact .inl (.inl ⟨hb',hm⟩)
  ·rcases (hG b' hb').1 with h1|h1
   ·exact .inl h1
   ·exact .inr (Nat.le_trans h.keep.size h1)
 ·subst hc';exact⟨hy.abide,hy.yield,fun b' hb'=>.inr hb'⟩
 ·have hkeep:Th c' W':=by subst hc';exact(Dq.refl _ _).keep
  refine⟨hkeep,fun b' hb'=>?_,fun gg cs hgg=>(h.glob gg cs hgg).mono hst hbar,fun t=>?_,fun o1 g1 x1 h1=>?_,fun o1 o2 g1 g2 x1 x2 b' h1 h2 h3 h4=>?_,fun o1 g1 x1 b' h1 h2=>?_,fun o1 g1 x1 hl h1=>?_,fun o1 g1 els' n' st' h1=>?_⟩
  ·subst hc'
   rcases hb' with hb'|hb'
   ·exact⟨Nat.lt_of_lt_of_le (h.low b' hb'.1).1 (Nat.le_trans h.keep.size hup.size),fun ho=>(hown b' ho).2.2 hb'.1⟩
   ·refine⟨(hG b' hb').2,fun ho=>?_⟩
    rcases (hG b' hb').1 with h1|h1
    ·exact(hown b' ho).2.2 (hy.mayfb b' h1)
    ·have:=(hown b' ho).1;omega
  ·exact(h.slots t).mono hst hbar (fun _ _ _=>rfl) (fun _=>Nat.le_refl _)
  ·obtain⟨x2,h3,h4,h5⟩:=hback h1
   obtain⟨h6,h7⟩:=h.objs o1 g1 x2 h3
   refine⟨h6,?_⟩
   by_cases ho:o1=o
   ·rw[h5 ho]
    subst ho
    rw[hob] at h3;simp at h3;obtain⟨rfl,_⟩:=h3
    show Dm W' _ β s.V.cn _ (β o1 g)
    rw[hβ];exact .hist _ _ _ _
   ·rw[h4 ho]
    exact h7.mono hst hbar (fun _ _ _=>rfl) (fun _=>Nat.le_refl _) fun b' hb' hlt=>hup.block b' hlt fun hm=>(h.home _ _ _ b' h3 hb').2.2 (hy.mayfb b' hm)
  ·obtain⟨y1,k1,_⟩:=hback h1
   obtain⟨y2,k2,_⟩:=hback h2
   exact h.sep _ _ _ _ _ _ b' k1 k2 h3 h4
  ·obtain⟨y1,k1,_⟩:=hback h1
   have hob1:D9 β s.V b':=⟨o1,g1,y1,k1,h2⟩
   subst hc'
   refine⟨Nat.lt_of_lt_of_le (hown b' hob1).1 hup.size,.inr hob1,fun hf=>?_⟩
   rcases hf with hf|hf
   ·exact(hown b' hob1).2.2 hf.1
   ·rcases (hG b' hf).1 with h3|h3
    ·exact(hown b' hob1).2.2 (hy.mayfb b' h3)
    ·have:=(hown b' hob1).1;omega
  ·obtain⟨y1,k1,_⟩:=hback h1
   subst hc';exact h.pin _ _ _ hl k1
  ·obtain⟨y1,k1,k2,k3⟩:=hback h1
   by_cases ho:o1=o
   ·have:=k3 ho
    simp only[AE.hist.injEq] at this
    obtain⟨rfl,rfl,rfl⟩:=this
    subst ho
    rw[hob] at k1;simp at k1;obtain⟨rfl,_⟩:=k1
    subst hc'
    exact⟨rfl,hβ,hJ2,hhn⟩
   ·have:=k2 ho;subst this
    obtain⟨e1,e2,e3,e4⟩:=h.hist _ _ _ _ _ k1
    exact absurd (e4.trans hhn.symm) ho
end
end Go.Pw
