/- Part. -/
import Derived.Test.YtmdklgapccickaaGreatDoorPwXa
set_option linter.all false
open Nat renaming le_refl->aa,lt_of_lt_of_le->ax
open List renaming getElem?_map->ay,mem_of_getElem?->ck,mem_map->cp,foldl_cons->cw
open Option renaming map_eq_some_iff->az
namespace Go.Pw
open Go.RowKit
def TY(o:Nat):Nat:=if Cr<=o/\o<5000000 then o else o+5000000
def SL(o:Nat):Nat:=if Cr<=o/\o<5000000 then o else o-5000000
theorem Jn(o:Nat):SL (TY o)=o:=by
 unfold SL TY;split
 ·rfl
 ·rename_i h;rw[if_neg (by omega)];omega
theorem hZ{o:Nat}(h:Cr<=o)(h2:o<5000000):SL o=o:=by unfold SL;rw[if_pos ⟨h,h2⟩]
theorem Q3(o:Nat):Cr<=TY o:=by
 unfold TY;split
 ·rename_i h;exact h.1
 ·unfold Cr;omega
def AV.mv:AV->AV
 |.ptr o g off=>.ptr (TY o) g off
 |.rptr o g es i off=>.rptr (TY o) g es i off
 |.own o g=>.own (TY o) g
 |.map o g=>.map (TY o) g
 |.agg cs=>.agg (mvL cs)
 |.fn f cs=>.fn f (mvL cs)
 |.bnd f cs=>.bnd f (mvL cs)
 |.tup cs=>.tup (mvL cs)
 |.mref k o g=>.mref k (TY o) g
 |.ablk sl cs off=>.ablk sl (mvL cs) off
 |v=>v
where
 mvL:List AV->List AV
  |[]=>[]
  |x::xs=>x.mv::mvL xs
theorem Q0(cs:List AV):AV.mv.mvL cs=cs.map AV.mv:=by
 induction cs with
 |nil=>rfl
 |cons x xs ih=>simp only[AV.mv.mvL,List.map_cons,ih]
theorem fD(a:AV):a.mv.one=a.one:=by cases a<;>rfl
def AY.mv:AY->Option AY
 |.cells xs=>some (.cells (xs.map AV.mv))
 |.hist ..=>none
 |.rowP ..=>none
 |.rowH ..=>none
 |.mitO ..=>none
 |.mitD ..=>none
 |x=>some x
def AO.mv(V:AO):AO:=⟨fun o=>if TY (SL o)=o then(match V.ob (SL o)with
 |some (g,x)=>match x.mv with|some y=>some (g,y)|none=>none
 |none=>none)else none,fun _=>1⟩
def BG.mv(s:BG):BG:=⟨fun t=>(s.sl t).mv,s.V.mv⟩
theorem AP.mv{w:World}{fb fb':Nat->Prop}{β:Nat->Nat->Value}(m:∀b,b<w.heap.size->fb' b->fb b){a:AV}{v:Value}(h:AP w fb β (fun _=>1) a v):AP w fb' (fun o g=>β (SL o) g) (fun _=>1) a.mv v:=by
 induction h with
 |d x v h=>exact .d x v (h.mono (Aq.refl _ _) m)
 |ex xs a h=>exact .ex xs a (h.mono (Aq.refl _ _) m)
 |agg cs vs hl h1 h ih =>
  simp only[AV.mv,Q0];refine .agg _ vs (by simp[hl]) (fun c hc=>?_) fun i c v hc hv=>?_
  ·obtain⟨e,h0,rfl⟩:=cp.1 hc;rw[fD];exact h1 e h0
  ·rw[ay]at hc;simp only[az]at hc;obtain⟨e,h0,rfl⟩:=hc;exact ih i e v h0 hv
 |ptr o g off b hg h=>exact .ptr (TY o) g off b hg (by rw[Jn];exact h)
 |rptr o g es i off b b0 n cap hg h=>exact .rptr (TY o) g es i off b b0 n cap hg (by rw[Jn];exact h)
 |dptr cs off b base vs hb hne h1 hc hv =>
  cases cs with
  |nil=>exact absurd rfl hne
  |cons x xs =>
   have l:b<w.heap.size:=CH (hc 0 x (by simp));exact .dptr _ off b base vs (fun hh=>hb (m b l hh)) hne h1 hc fun j c h1=>(hv j c h1).mono (Aq.refl _ _) m
 |own o g hg h1 =>
  have:=AP.own (w:=w) (fb:=fb') (β:=fun o g=>β (SL o) g) (cn:=fun _=>1) (TY o) g hg (by rw[Jn];exact h1);rw[Jn]at this;exact this
 |map o g hg h1 =>
  have:=AP.map (w:=w) (fb:=fb') (β:=fun o g=>β (SL o) g) (cn:=fun _=>1) (TY o) g hg (by rw[Jn];exact h1);rw[Jn]at this;exact this
 |fn f cs vs hl h ih =>
  simp only[AV.mv,Q0];refine .fn f _ vs (by simp[hl]) fun i c v hc hv=>?_
  rw[ay]at hc;simp only[az]at hc;obtain⟨e,h0,rfl⟩:=hc;exact ih i e v h0 hv
 |tup cs vs hl h ih =>
  simp only[AV.mv,Q0];refine .tup _ vs (by simp[hl]) fun i c v hc hv=>?_
  rw[ay]at hc;simp only[az]at hc;obtain⟨e,h0,rfl⟩:=hc;exact ih i e v h0 hv
 |undef v=>exact .undef v
 |bnd f cs vs hl h ih =>
  simp only[AV.mv,Q0];refine .bnd f _ vs (by simp[hl]) fun i c v hc hv=>?_
  rw[ay]at hc;simp only[az]at hc;obtain⟨e,h0,rfl⟩:=hc;exact ih i e v h0 hv
 |mref k o g u hg h h1=>exact .mref k (TY o) g u hg (by rw[Jn];exact h) h1
 |ablk sl cs off b base vs u hb hne h1 hc hv hu ih =>
  simp only[AV.mv,Q0]
  cases cs with
  |nil=>exact absurd rfl hne
  |cons x xs =>
   have l:b<w.heap.size:=CH (hc 0 x (by simp));refine .ablk sl _ off b base vs u (fun hh=>hb (m b l hh)) (by simp) (fun c hc=>?_) (fun j c p=>?_) (fun j c p=>?_) (by simpa using hu)
   ·obtain⟨e,h0,rfl⟩:=cp.1 hc;rw[fD];exact h1 e h0
   all_goals
    rw[ay]at p;simp only[az]at p;obtain⟨e,h0,rfl⟩:=p
   ·exact hc j e h0
   ·exact ih j e h0
theorem Ef.mv{w:World}{fb fb':Nat->Prop}{β:Nat->Nat->Value}(p:∀b,b<w.heap.size->fb' b->fb b){x y:AY}{v:Value}(h:Ef w fb β (fun _=>1) x v)(j:x.mv=some y):Ef w fb' (fun o g=>β (SL o) g) (fun _=>1) y v:=by
 cases h with
 |cells xs b cur e hb hl h1 h =>
  simp[AY.mv]at j;subst j;refine .cells _ b cur e hb (by simp[hl]) (fun z m=>?_) fun i z u m hu=>?_
  ·obtain⟨r,h0,rfl⟩:=cp.1 m;rw[fD];exact h1 r h0
  ·rw[ay]at m;simp only[az]at m;obtain⟨q,h0,rfl⟩:=m;exact(h i q u h0 hu).mv p
 |row ety es nil xs v h =>
  simp[AY.mv]at j;subst j;exact .row _ _ _ _ _ (h.mono (Aq.refl _ _) p fun _ _ _=>rfl)
 |map tys kvs b es hb hl h =>
  simp[AY.mv]at j;subst j
  exact .map tys kvs b es hb hl fun i kv e hk A=>by
   obtain⟨h1,h2,B,t⟩:=h i kv e hk A;exact⟨h1,h2.mono (Aq.refl _ _) p,B.mono (Aq.refl _ _) p,t⟩
 |mitD=>simp[AY.mv]at j
 |hist els n st l=>simp[AY.mv]at j
 |rowP=>simp[AY.mv]at j
 |mat e1 e2 nil ix rows v h =>
  simp[AY.mv]at j;subst j;exact .mat _ _ _ _ _ _ (h.mono (Aq.refl _ _) p fun _ _ _=>rfl)
theorem AO.mv_ob{V:AO}{o g:Nat}{y:AY}(h:V.mv.ob o=some (g,y)):TY (SL o)=o/\∃x,V.ob (SL o)=some (g,x)/\x.mv=some y:=by
 simp only[AO.mv]at h;split at h
 ·rename_i h0;split at h
  ·rename_i g' x hx;split at h
   ·rename_i i e;simp at h;obtain⟨rfl,rfl⟩:=h;exact⟨h0,x,hx,e⟩
   ·cases h
  ·cases h
 ·cases h
theorem Xo{x:AY}{els n st}:x.mv≠some (.hist els n st):=by cases x<;>simp[AY.mv]
variable {E:CW}{c:EG}{β:Nat->Nat->Value}{s:BG}{tm:Array Value}{w:World}
theorem BZ.mv(h:BZ E c β s tm w)(j:s.V.cn=fun _=>1):BZ E { c with b0:=fun o=>if o<5000000 then c.b0 o else β (SL o) 0 } (fun o g=>β (SL o) g) s.mv tm w:=by
 have e:∀b,b<w.heap.size->({ c with b0:=fun o=>if o<5000000 then c.b0 o else β (SL o) 0 }:EG).bar (fun o g=>β (SL o) g) s.mv.V b->c.bar β s.V b:=fun b _ hb=>by
  rcases hb with hb|⟨o,g,y,h1,h2⟩
  ·exact .inl hb
  ·obtain⟨_,x,i,_⟩:=AO.mv_ob h1;exact .inr ⟨_,g,x,i,h2⟩
 refine⟨⟨h.keep.os,h.keep.tape,h.keep.output,h.keep.size,h.keep.block⟩,h.low,fun r cs p=>(h.glob r cs p).mono (Aq.refl _ _) e,fun t=>?_,fun o g y q=>?_,fun o o' g g' x x' b h1 h2 i l=>?_,fun o g y b h1 h2=>?_,fun o g y hl h1=>?_,fun o g els n st h1=>?_⟩
 ·have:=h.slots t;rw[j]at this;exact this.mv e
 ·obtain⟨_,x,i,l⟩:=AO.mv_ob q;obtain⟨k1,k2⟩:=h.objs _ g x i;rw[j]at k1 k2;exact⟨k1,k2.mv e l⟩
 ·obtain⟨e1,z,k1,_⟩:=AO.mv_ob h1;obtain⟨e2,u,k2,_⟩:=AO.mv_ob h2;have:=h.sep _ _ _ _ _ _ b k1 k2 i l;rw[←e1,←e2,this]
 ·obtain⟨_,x,i,_⟩:=AO.mv_ob h1;exact h.home _ g x b i h2
 ·obtain⟨_,x,i,_⟩:=AO.mv_ob h1;show β (SL o) g=if o<5000000 then c.b0 o else β (SL o) 0
  have hg:g=0:=by have:=(h.objs _ g x i).1;rw[j]at this;exact Nat.lt_one_iff.1 this
  subst hg;split
  ·rename_i m;have:=h.pin (SL o) 0 x (by rw[hZ hl m];exact hl) i;rw[this,hZ hl m]
  ·rfl
 ·obtain⟨_,x,_,l⟩:=AO.mv_ob h1;exact absurd l Xo
theorem It{cs:List AV}{o:Nat}{a:AV}(e:a∈cs)(h:o∈a.sites):o∈AV.sites.sitesL cs:=by
 induction cs with
 |nil=>cases e
 |cons x xs ih =>
  simp only[AV.sites.sitesL,List.mem_append];rcases List.mem_cons.1 e with rfl|e
  ·exact .inl h
  ·exact .inr (ih e)
theorem AP.over{w w':World}{fb fb':Nat->Prop}{β β':Nat->Nat->Value}(l:Aq fb w w')(m:∀b,b<w.heap.size->fb' b->fb b){a:AV}{v:Value}(h:AP w fb β (fun _=>1) a v)(hβ:∀o,o∈a.sites->β' o 0=β o 0):AP w' fb' β' (fun _=>1) a v:=by
 induction h with
 |d x v h=>exact .d x v (h.mono l m)
 |ex xs a h=>exact .ex xs a (h.mono l m)
 |agg cs vs hl h1 h ih=>exact .agg cs vs hl h1 fun i c v hc hv=>ih i c v hc hv fun o ho=>hβ o (It (ck hc) ho)
 |ptr o g off b hg h =>
  have:g=0:=by omega
  subst this;exact .ptr o 0 off b hg ((hβ o (by simp[AV.sites])).trans h)
 |rptr o g es i off b b0 n cap hg h =>
  have:g=0:=by omega
  subst this;exact .rptr o 0 es i off b b0 n cap hg ((hβ o (by simp[AV.sites])).trans h)
 |dptr cs off b base vs hb hne h1 hc hv =>
  cases cs with
  |nil=>exact absurd rfl hne
  |cons x xs =>
   have e:b<w.heap.size:=CH (hc 0 x (by simp));exact .dptr _ off b base vs (fun hh=>hb (m b e hh)) hne h1 (fun j c h1=>l.cell hb (hc j c h1)) (fun j c h1=>(hv j c h1).mono l m)
 |own o g hg h1 =>
  have:g=0:=by omega
  subst this;have hb:=hβ o (by simp[AV.sites]);rw[←hb]at h1 ⊢;exact .own o 0 hg h1
 |map o g hg h1 =>
  have:g=0:=by omega
  subst this;have hb:=hβ o (by simp[AV.sites]);rw[←hb]at h1 ⊢;exact .map o 0 hg h1
 |fn f cs vs hl h ih=>exact .fn f cs vs hl fun i c v hc hv=>ih i c v hc hv fun o ho=>hβ o (It (ck hc) ho)
 |tup cs vs hl h ih=>exact .tup cs vs hl fun i c v hc hv=>ih i c v hc hv fun o ho=>hβ o (It (ck hc) ho)
 |undef v=>exact .undef v
 |bnd f cs vs hl h ih=>exact .bnd f cs vs hl fun i c v hc hv=>ih i c v hc hv fun o ho=>hβ o (It (ck hc) ho)
 |mref k o g u hg h h1 =>
  have:g=0:=by omega
  subst this;exact .mref k o 0 u hg (by rw[hβ o (by simp[AV.sites])];exact h) h1
 |ablk sl cs off b base vs u hb hne h1 hc hv hu ih =>
  cases cs with
  |nil=>exact absurd rfl hne
  |cons x xs =>
   have e:b<w.heap.size:=CH (hc 0 x (by simp));exact .ablk sl _ off b base vs u (fun hh=>hb (m b e hh)) hne h1 (fun j c h1=>l.cell hb (hc j c h1)) (fun j c p=>ih j c p fun o ho=>hβ o (by simp only[AV.sites];exact It (ck p) ho)) hu
theorem BZ.putFb(h:BZ E c β s tm w){D:Nat}{ob:Obj}(y:D<w.heap.size)(q:c.fb D){J:Nat->Bool->World->(Nat->Prop)->(Nat->Prop)->Prop}(z:∀n st,c.J n st c.w0 c.mine c.may->J n st (w.putObj D ob) (DJ β s.V) c.may) :
  BZ E { c with w0:=w.putObj D ob,mine:=DJ β s.V,J:=J } β s tm (w.putObj D ob):=by
 have hne:∀k,k≠D->(w.putObj D ob).heap[k]?=w.heap[k]?:=fun k hk=>by
  simp[World.putObj,Array.getElem?_setIfInBounds_ne (Ne.symm hk)]
 have l:(w.putObj D ob).heap.size=w.heap.size:=by simp[World.putObj]
 have j:Aq (c.bar β s.V) w (w.putObj D ob):=fun b hn _=>hne b fun e=>hn (.inl (e▸q))
 have i:∀b,b<w.heap.size->({ c with w0:=w.putObj D ob,mine:=DJ β s.V,J:=J }:EG).bar β s.V b->c.bar β s.V b:=fun b _ hb=>hb
 refine⟨(Di.refl _ _).keep,fun b hb=>?_,fun r cs m=>(h.glob r cs m).mono j i,fun t=>(h.slots t).mono j i (fun _ _ _=>rfl) (fun _=>aa _),fun o g x hx=>?_,h.sep,fun o g x b hx hb=>?_,fun o g x hl hx=>h.pin o g x hl hx,fun o g els n st hx=>?_⟩
 ·refine⟨by show b<(w.putObj D ob).heap.size;rw[l];exact ax (h.low b hb).1 h.keep.size,fun ho=>?_⟩;obtain⟨o,g,x,h1,h2⟩:=ho;exact(h.home o g x b h1 h2).2.2 hb
 ·obtain⟨h1,h2⟩:=h.objs o g x hx;exact⟨h1,h2.mono j i (fun _ _ _=>rfl) (fun _=>aa _) fun b hb _=>hne b fun e=>(h.home o g x b hx hb).2.2 (e▸q)⟩
 ·obtain⟨h1,_,p⟩:=h.home o g x b hx hb;exact⟨by rw[l];exact h1,.inr ⟨o,g,x,hx,hb⟩,p⟩
 ·obtain⟨h1,h2,p,u⟩:=h.hist o g els n st hx;exact⟨h1,h2,z _ _ p,u⟩
theorem f5(l:List (Nat×Value)):∀tm:Array Value,(l.foldl (fun tm p=>tm.setIfInBounds p.1 p.2) tm).size=tm.size:=by
 induction l with
 |nil=>intro tm;rfl
 |cons p l ih=>intro tm;rw[cw,ih];simp
def L6(sl:Nat->AV):List Nat->List D->Nat->AV
 |p::ps,d::ds=>L6 (CB sl p (.d d)) ps ds
 |_,_=>sl
theorem BZ.params:∀{ps:List Nat}{ds:List D}{vs:List Value}{sl:Nat->AV}{V:AO}{tm:Array Value},BZ E c β ⟨sl,V⟩ tm w->ps.length=ds.length->vs.length=ds.length->(∀p,p∈ps->p<tm.size) ->
  (∀(i:Nat) (d:D) (v:Value),ds[i]?=some d->vs[i]?=some v->Ar w (c.bar β V) d v)->BZ E c β ⟨L6 sl ps ds,V⟩ ((ps.zip vs).foldl (fun tm p=>tm.setIfInBounds p.1 p.2) tm) w
 |[],[],vs,sl,V,tm,h,_,hv,_,_=>by
  cases vs with
  |nil=>exact h
  |cons _ _=>simp at hv
 |p::ps,d::ds,[],sl,V,tm,h,_,hv,_,_=>by simp at hv
 |p::ps,d::ds,v::vs,sl,V,tm,h,hl,hv,hp,hd=>by
  rw[List.zip_cons_cons,cw];have h1:=BZ.set h (hp p (by simp)) (.d _ _ (hd 0 d v (by simp) (by simp)));refine BZ.params (sl:=CB sl p (.d d)) h1 (by simpa using hl) (by simpa using hv) (fun q e=>by simpa using hp q (by simp[e])) fun i l j h2 m=>hd (i+1) l j (by simpa using h2) (by simpa using m)
 |[],d::ds,_,_,_,_,_,hl,_,_,_=>by simp at hl
 |p::ps,[],_,_,_,_,_,hl,_,_,_=>by simp at hl
theorem BZ.wait{e c1:EG}{β0 β1:Nat->Nat->Value}{sl0 B:Nat->AV}{V0 V1:AO}{j M:Array Value}{W0 W1:World}(h0:BZ E e β0 ⟨sl0,V0⟩ j W0)(h1:BZ E c1 β1 ⟨B,V1⟩ M W1)(y:V0.cn=fun _=>1)(G:V1.cn=fun _=>1)
  (m:Aq (e.bar β0 V0) W0 W1) (J:W0.heap.size<=W1.heap.size) (l:∀b,e.fb b->c1.fb b) (q:∀b,b<W0.heap.size->DJ β1 V1 b->DJ β0 V0 b) (r:∀o,c1.b0 o=e.b0 o)
  (u:∀t o,o∈(sl0 t).sites->Cr<=o/\(∃x,V0.ob o=some (0,x))/\∃x,V1.ob o=some (0,x)) (z:∀o g els n st,V1.ob o≠some (g,.hist els n st)) :
  BZ E { e with w0:=W1,mine:=DJ β1 V1 } β1 ⟨sl0,V1⟩ j W1:=by
 have h:∀b,b<W0.heap.size->({ e with w0:=W1,mine:=DJ β1 V1 }:EG).bar β1 V1 b->e.bar β0 V0 b:=fun b p hb=>by
  rcases hb with hb|hb
  ·exact .inl hb
  ·exact .inr (q b p hb)
 have i:∀b,b<W1.heap.size->({ e with w0:=W1,mine:=DJ β1 V1 }:EG).bar β1 V1 b->c1.bar β1 V1 b:=fun b p hb=>by
  rcases hb with hb|hb
  ·exact .inl (l b hb)
  ·exact .inr hb
 refine⟨(Di.refl _ _).keep,fun b hb=>⟨ax (ax (h0.low b hb).1 h0.keep.size) J,fun ho=>?_⟩,fun R cs A=>(h0.glob R cs A).mono m h,fun t=>?_,fun o g x hx=>?_,h1.sep,fun o g x b hx hb=>?_,fun o g x hl hx=>(h1.pin o g x hl hx).trans (r o),fun o g els n st hx=>absurd hx (z o g els n st)⟩
 ·obtain⟨o,g,x,k1,k2⟩:=ho;exact(h1.home o g x b k1 k2).2.2 (l b hb)
 ·have:=h0.slots t;show AP W1 _ β1 V1.cn (sl0 t) _;rw[G];have h2:AP W0 (e.bar β0 V0) β0 V0.cn (sl0 t) (j.getD t undef):=this;rw[y]at h2;refine h2.over m h fun o ho=>?_
  obtain⟨hl,⟨O,L⟩,S,N⟩:=u t o ho;rw[h0.pin o 0 O hl L,h1.pin o 0 S hl N,r]
 ·obtain⟨k1,k2⟩:=h1.objs o g x hx;exact⟨k1,k2.mono (Aq.refl _ _) i (fun _ _ _=>rfl) (fun _=>aa _) fun _ _ _=>rfl⟩
 ·obtain⟨k1,_,U⟩:=h1.home o g x b hx hb;exact⟨k1,.inr ⟨o,g,x,hx,hb⟩,fun T=>U (l b T)⟩
theorem BZ.growFb{w':World}{X:Nat->Prop}{c':EG}(h:BZ E c β s tm w)(j:Below w.heap.size w w')(p:∀b,X b->w.heap.size<=b/\b<w'.heap.size)(q:∀o g els n st,s.V.ob o≠some (g,.hist els n st))
  (e1:c'.w0=w') (e2:c'.fb=fun b=>c.fb b\/X b) (u:c'.mine=DJ β s.V) (y:c'.b0=c.b0):BZ E c' β s tm w':=by
 have e:∀b,b<w.heap.size->c'.bar β s.V b->c.bar β s.V b:=fun b m hb=>by
  unfold EG.bar at hb;rw[e2]at hb;rcases hb with(hb|hb)|hb
  ·exact .inl hb
  ·have:=(p b hb).1;omega
  ·exact .inr hb
 have i:∀b,DJ β s.V b->b<w.heap.size/\¬c.fb b:=fun b ⟨o,g,x,k1,k2⟩=>⟨(h.home o g x b k1 k2).1,(h.home o g x b k1 k2).2.2⟩
 refine⟨?_,fun b hb=>?_,fun z cs r=>(h.glob z cs r).mono (.of_below j) e,fun t=>(h.slots t).mono (.of_below j) e (fun _ _ _=>rfl) (fun _=>aa _),fun o g x hx=>?_,h.sep,fun o g x b hx hb=>?_,fun o g x hl hx=>by rw[y];exact h.pin o g x hl hx,fun o g els n st hx=>absurd hx (q o g els n st)⟩
 ·have:Di c'.mine c'.w0 w':=by rw[e1];exact Di.refl _ _
  exact this.keep
 ·rw[e2]at hb;rw[e1,u];rcases hb with hb|hb
  ·refine⟨ax (ax (h.low b hb).1 h.keep.size) j.size,fun ho=>(i b ho).2 hb⟩
  ·refine⟨(p b hb).2,fun ho=>?_⟩;have:=(i b ho).1;have:=(p b hb).1;omega
 ·obtain⟨k1,k2⟩:=h.objs o g x hx;exact⟨k1,k2.mono (.of_below j) e (fun _ _ _=>rfl) (fun _=>aa _) fun b _ m=>j.block b m⟩
 ·obtain⟨k1,_,A⟩:=h.home o g x b hx hb;refine⟨ax k1 j.size,.inr (by rw[u];exact⟨o,g,x,hx,hb⟩),fun l=>?_⟩;rw[e2]at l;rcases l with l|l
  ·exact A l
  ·have:=(p b l).1;omega
theorem BZ.shift{w':World}{c':EG}(h:BZ E c β s tm w)(l:Di c.fb w w')(r:∀b,b<w.heap.size->c'.fb b->c.fb b)(hl:∀b,c'.fb b->b<w'.heap.size)(p:∀o g els n st,s.V.ob o≠some (g,.hist els n st))
  (e1:c'.w0=w') (u:c'.mine=DJ β s.V) (y:c'.b0=c.b0):BZ E c' β s tm w':=by
 have e:∀b,b<w.heap.size->c'.bar β s.V b->c.bar β s.V b:=fun b i hb=>hb.imp (r b i) id
 have m:Aq (c.bar β s.V) w w':=fun b hn i=>l.block b i fun hm=>hn (.inl hm)
 have j:∀b,DJ β s.V b->b<w.heap.size/\¬c.fb b:=fun b ⟨o,g,x,k1,k2⟩=>⟨(h.home o g x b k1 k2).1,(h.home o g x b k1 k2).2.2⟩
 refine⟨?_,fun b hb=>?_,fun z cs q=>(h.glob z cs q).mono m e,fun t=>(h.slots t).mono m e (fun _ _ _=>rfl) (fun _=>aa _),fun o g x hx=>?_,h.sep,fun o g x b hx hb=>?_,fun o g x hl hx=>by rw[y];exact h.pin o g x hl hx,fun o g els n st hx=>absurd hx (p o g els n st)⟩
 ·have:Di c'.mine c'.w0 w':=by rw[e1];exact Di.refl _ _
  exact this.keep
 ·rw[e1,u];exact⟨hl b hb,fun ho=>(j b ho).2 (r b (j b ho).1 hb)⟩
 ·obtain⟨k1,k2⟩:=h.objs o g x hx;exact⟨k1,k2.mono m e (fun _ _ _=>rfl) (fun _=>aa _) fun b hb i=>l.block b i fun hm=>(h.home o g x b hx hb).2.2 hm⟩
 ·obtain⟨k1,_,B⟩:=h.home o g x b hx hb;exact⟨ax k1 l.size,.inr (by rw[u];exact⟨o,g,x,hx,hb⟩),fun A=>B (r b k1 A)⟩
def WY(E:CW)(f:FuncId)(pre post:List D)(els:Us):Prop :=
 ∀(l:Nat) (J:Nat->Bool->World->(Nat->Prop)->(Nat->Prop)->Prop) (w:World) (fb G:Nat->Prop) (vs:Array Value),
  We J->WW E l els J (fun _=>False)->J 0 false w (fun _=>False) G->(∀b,fb b->b<w.heap.size)->(∀b,G b->fb b)->mn E w fb ->
  vs.size=pre.length+1+post.length->vs[pre.length]?=some (.func (.yield l) #[] #[]) ->
  (∀(i:Nat) (d:D) (v:Value),pre[i]?=some d->vs[i]?=some v->Ar w fb d v) ->
  (∀(i:Nat) (d:D) (v:Value),post[i]?=some d->vs[pre.length+1+i]?=some v->Ar w fb d v) ->
  Calls E.P f vs w fun e w'=>∃v n st G',e=.returned v/\(st=true\/els.fin n)/\J n st w' (fun _=>False) G'/\Di G w w'/\∀k,G' k->(G k\/w.heap.size<=k)/\k<w'.heap.size
end Go.Pw
