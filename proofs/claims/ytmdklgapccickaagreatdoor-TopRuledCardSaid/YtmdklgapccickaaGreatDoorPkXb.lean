/- A part of the proof. -/
import Derived.Test.YtmdklgapccickaaGreatDoorPwXa
import Derived.Test.YtmdklgapccickaaGreatDoorPkT
set_option linter.all false
section
namespace Go.Pw
open Go.RowKit
def QS (o:Nat):Nat:=if C_<=o/\o<5000000 then o else o+5000000
def unr (o:Nat):Nat:=if C_<=o/\o<5000000 then o else o-5000000
theorem IG (o:Nat):unr (QS o)=o:=by
 unfold unr QS
 split
 ·rfl
 ·rename_i h;rw[if_neg (by omega)];omega
theorem ZR {o:Nat}(h:C_<=o) (h2:o<5000000):unr o=o:=by unfold unr;rw[if_pos ⟨h,h2⟩]
theorem N5 (o:Nat):C_<=QS o:=by
 unfold QS;split
 ·rename_i h;exact h.1
 ·unfold C_;omega
def AV.mv:AV->AV
 |.ptr o g off=>.ptr (QS o) g off
 |.rptr o g es i off=>.rptr (QS o) g es i off
 |.own o g=>.own (QS o) g
 |.map o g=>.map (QS o) g
 |.agg cs=>.agg (mvL cs)
 |.fn f cs=>.fn f (mvL cs)
 |.bnd f cs=>.bnd f (mvL cs)
 |.tup cs=>.tup (mvL cs)
 |.mref k o g=>.mref k (QS o) g
 |.ablk sl cs off=>.ablk sl (mvL cs) off
 |v=>v
where
 mvL:List AV->List AV
  |[]=>[]
  |x::xs=>x.mv::mvL xs
theorem N4 (cs:List AV):AV.mv.mvL cs=cs.map AV.mv:=by
 induction cs with
 |nil=>rfl
 |cons x xs ih=>simp only[AV.mv.mvL,List.map_cons,ih]
theorem YA (a:AV):a.mv.one=a.one:=by cases a<;>rfl
def AW.mv:AW->Option AW
 |.cells xs=>some (.cells (xs.map AV.mv))
 |.hist ..=>none
 |.rowP ..=>none
 |.rowH ..=>none
 |.mitO ..=>none
 |.mitD ..=>none
 |x=>some x
def AL.mv (V:AL):AL:=⟨fun o=>if QS (unr o)=o then (match V.ob (unr o) with
 |some (g,x)=>match x.mv with|some y=>some (g,y)|none=>none
 |none=>none) else none,fun _=>1⟩
def Bg.mv (s:Bg):Bg:=⟨fun t=>(s.sl t).mv,s.V.mv⟩
theorem AM.mv {w:World}{fb fb':Nat->Prop}{β:Nat->Nat->Value}(hf:∀b,b<w.heap.size->fb' b->fb b) {a:AV}{v:Value}(h:AM w fb β (fun _=>1) a v):AM w fb' (fun o g=>β (unr o) g) (fun _=>1) a.mv v:=by
 induction h with
 |d x v h=>exact .d x v (h.mono (Ah.refl _ _) hf)
 |ex xs a h=>exact .ex xs a (h.mono (Ah.refl _ _) hf)
 |agg cs vs hl h1 h ih =>
  simp only[AV.mv,N4]
  refine .agg _ vs (by simp[hl]) (fun c hc=>?_) fun i c v hc hv=>?_
  ·obtain⟨c0,h0,rfl⟩:=List.mem_map.1 hc
   rw[YA];exact h1 c0 h0
  ·rw[List.getElem?_map] at hc
   simp only[Option.map_eq_some_iff] at hc
   obtain⟨c0,h0,rfl⟩:=hc
   exact ih i c0 v h0 hv
 |ptr o g off b hg h=>exact .ptr (QS o) g off b hg (by rw[IG];exact h)
 |rptr o g es i off b b0 n cap hg h=>exact .rptr (QS o) g es i off b b0 n cap hg (by rw[IG];exact h)
 |dptr cs off b base vs hb hne h1 hc hv =>
  cases cs with
  |nil=>exact absurd rfl hne
  |cons x xs =>
   have hlt:b<w.heap.size:=CK (hc 0 x (by simp))
   exact .dptr _ off b base vs (fun hh=>hb (hf b hlt hh)) hne h1 hc fun j c h1=>(hv j c h1).mono (Ah.refl _ _) hf
 |own o g hg h1 =>
  have:=AM.own (w:=w) (fb:=fb') (β:=fun o g=>β (unr o) g) (cn:=fun _=>1) (QS o) g hg (by rw[IG];exact h1)
  rw[IG] at this;exact this
 |map o g hg h1 =>
  have:=AM.map (w:=w) (fb:=fb') (β:=fun o g=>β (unr o) g) (cn:=fun _=>1) (QS o) g hg (by rw[IG];exact h1)
  rw[IG] at this;exact this
 |fn f cs vs hl h ih =>
  simp only[AV.mv,N4]
  refine .fn f _ vs (by simp[hl]) fun i c v hc hv=>?_
  rw[List.getElem?_map] at hc
  simp only[Option.map_eq_some_iff] at hc
  obtain⟨c0,h0,rfl⟩:=hc
  exact ih i c0 v h0 hv
 |tup cs vs hl h ih =>
  simp only[AV.mv,N4]
  refine .tup _ vs (by simp[hl]) fun i c v hc hv=>?_
  rw[List.getElem?_map] at hc
  simp only[Option.map_eq_some_iff] at hc
  obtain⟨c0,h0,rfl⟩:=hc
  exact ih i c0 v h0 hv
 |undef v=>exact .undef v
 |bnd f cs vs hl h ih =>
  simp only[AV.mv,N4]
  refine .bnd f _ vs (by simp[hl]) fun i c v hc hv=>?_
  rw[List.getElem?_map] at hc
  simp only[Option.map_eq_some_iff] at hc
  obtain⟨c0,h0,rfl⟩:=hc
  exact ih i c0 v h0 hv
 |mref k o g u hg h h1=>exact .mref k (QS o) g u hg (by rw[IG];exact h) h1
 |ablk sl cs off b base vs u hb hne h1 hc hv hu ih =>
  simp only[AV.mv,N4]
  cases cs with
  |nil=>exact absurd rfl hne
  |cons x xs =>
   have hlt:b<w.heap.size:=CK (hc 0 x (by simp))
   refine .ablk sl _ off b base vs u (fun hh=>hb (hf b hlt hh)) (by simp) (fun c hc=>?_) (fun j c hj=>?_) (fun j c hj=>?_) (by simpa using hu)
   ·obtain⟨c0,h0,rfl⟩:=List.mem_map.1 hc
    rw[YA];exact h1 c0 h0
   all_goals
    rw[List.getElem?_map] at hj
    simp only[Option.map_eq_some_iff] at hj
    obtain⟨c0,h0,rfl⟩:=hj
   ·exact hc j c0 h0
   ·exact ih j c0 h0
theorem Dn.mv {w:World}{fb fb':Nat->Prop}{β:Nat->Nat->Value}(hf:∀b,b<w.heap.size->fb' b->fb b) {x y:AW}{v:Value}(h:Dn w fb β (fun _=>1) x v) (hy:x.mv=some y):Dn w fb' (fun o g=>β (unr o) g) (fun _=>1) y v:=by
 cases h with
 |cells xs b cur e hb hl h1 h =>
  simp[AW.mv] at hy;subst hy
  refine .cells _ b cur e hb (by simp[hl]) (fun z hz=>?_) fun i z u hz hu=>?_
  ·obtain⟨c0,h0,rfl⟩:=List.mem_map.1 hz
   rw[YA];exact h1 c0 h0
  ·rw[List.getElem?_map] at hz
   simp only[Option.map_eq_some_iff] at hz
   obtain⟨z0,h0,rfl⟩:=hz
   exact(h i z0 u h0 hu).mv hf
 |row ety es nil xs v h =>
  simp[AW.mv] at hy;subst hy
  exact .row _ _ _ _ _ (h.mono (Ah.refl _ _) hf fun _ _ _=>rfl)
 |map tys kvs b es hb hl h =>
  simp[AW.mv] at hy;subst hy
  exact .map tys kvs b es hb hl fun i kv e hk he=>by
   obtain⟨h1,h2,h3,h4⟩:=h i kv e hk he
   exact⟨h1,h2.mono (Ah.refl _ _) hf,h3.mono (Ah.refl _ _) hf,h4⟩
 |mapB tys ks cl b es hb hl hr h =>
  simp[AW.mv] at hy;subst hy
  exact .mapB tys ks cl b es hb hl hr fun i k e hk he=>by
   obtain⟨h1,h2,h3,h4⟩:=h i k e hk he
   exact⟨h1,h2.mono (Ah.refl _ _) hf,h3.mono (Ah.refl _ _) hf,h4⟩
 |mitO=>simp[AW.mv] at hy
 |mitD=>simp[AW.mv] at hy
 |hist els n st l=>simp[AW.mv] at hy
 |rowP=>simp[AW.mv] at hy
 |rowH ety xs i q p v h=>simp[AW.mv] at hy
 |mat e1 e2 nil ix rows v h =>
  simp[AW.mv] at hy;subst hy
  exact .mat _ _ _ _ _ _ (h.mono (Ah.refl _ _) hf fun _ _ _=>rfl)
theorem AL.mv_ob {V:AL}{o g:Nat}{y:AW}(h:V.mv.ob o=some (g,y)):QS (unr o)=o/\∃x,V.ob (unr o)=some (g,x)/\x.mv=some y:=by
 simp only[AL.mv] at h
 split at h
 ·rename_i h0
  split at h
  ·rename_i g' x hx
   split at h
   ·rename_i y' hy
    simp at h;obtain⟨rfl,rfl⟩:=h
    exact⟨h0,x,hx,hy⟩
   ·cases h
  ·cases h
 ·cases h
theorem Tp {x:AW} {els n st}:x.mv≠some (.hist els n st):=by cases x<;>simp[AW.mv]
variable {E:CW}{c:D_}{β:Nat->Nat->Value}{s:Bg}{tm:Array Value}{w:World}
theorem Br.mv (h:Br E c β s tm w) (hcn:s.V.cn=fun _=>1):Br E { c with b0:=fun o=>if o<5000000 then c.b0 o else β (unr o) 0 } (fun o g=>β (unr o) g) s.mv tm w:=by
 have hbar:∀b,b<w.heap.size->({ c with b0:=fun o=>if o<5000000 then c.b0 o else β (unr o) 0 }:D_).bar (fun o g=>β (unr o) g) s.mv.V b->c.bar β s.V b:=fun b _ hb=>by
  rcases hb with hb|⟨o,g,y,h1,h2⟩
  ·exact .inl hb
  ·obtain⟨_,x,h3,_⟩:=AL.mv_ob h1
   exact .inr ⟨_,g,x,h3,h2⟩
 refine⟨⟨h.keep.os,h.keep.tape,h.keep.output,h.keep.size,h.keep.block⟩,h.low,fun gg cs hgg=>(h.glob gg cs hgg).mono (Ah.refl _ _) hbar,fun t=>?_,fun o g y hy=>?_,fun o o' g g' x x' b h1 h2 h3 h4=>?_,fun o g y b h1 h2=>?_,fun o g y hl h1=>?_,fun o g els n st h1=>?_⟩
 ·have:=h.slots t;rw[hcn] at this;exact this.mv hbar
 ·obtain⟨_,x,h3,h4⟩:=AL.mv_ob hy
  obtain⟨k1,k2⟩:=h.objs _ g x h3
  rw[hcn] at k1 k2
  exact⟨k1,k2.mv hbar h4⟩
 ·obtain⟨e1,y1,k1,_⟩:=AL.mv_ob h1
  obtain⟨e2,y2,k2,_⟩:=AL.mv_ob h2
  have:=h.sep _ _ _ _ _ _ b k1 k2 h3 h4
  rw[←e1,←e2,this]
 ·obtain⟨_,x,h3,_⟩:=AL.mv_ob h1
  exact h.home _ g x b h3 h2
 ·obtain⟨_,x,h3,_⟩:=AL.mv_ob h1
  show β (unr o) g=if o<5000000 then c.b0 o else β (unr o) 0
  have hg:g=0:=by have:=(h.objs _ g x h3).1;rw[hcn] at this;exact Nat.lt_one_iff.1 this
  subst hg
  split
  ·rename_i hlt
   have:=h.pin (unr o) 0 x (by rw[ZR hl hlt];exact hl) h3
   rw[this,ZR hl hlt]
  ·rfl
 ·obtain⟨_,x,_,h4⟩:=AL.mv_ob h1
  exact absurd h4 Tp
theorem Hi {cs:List AV}{o:Nat}{a:AV}(ha:a∈cs) (h:o∈a.sites):o∈AV.sites.sitesL cs:=by
 induction cs with
 |nil=>cases ha
 |cons x xs ih =>
  simp only[AV.sites.sitesL,List.mem_append]
  rcases List.mem_cons.1 ha with rfl|ha
  ·exact .inl h
  ·exact .inr (ih ha)
theorem AM.over {w w':World}{fb fb':Nat->Prop}{β β':Nat->Nat->Value}(hw:Ah fb w w') (hf:∀b,b<w.heap.size->fb' b->fb b) {a:AV}{v:Value}(h:AM w fb β (fun _=>1) a v) (hβ:∀o,o∈a.sites->β' o 0=β o 0):AM w' fb' β' (fun _=>1) a v:=by
 induction h with
 |d x v h=>exact .d x v (h.mono hw hf)
 |ex xs a h=>exact .ex xs a (h.mono hw hf)
 |agg cs vs hl h1 h ih=>exact .agg cs vs hl h1 fun i c v hc hv=>ih i c v hc hv fun o ho=>hβ o (Hi (List.mem_of_getElem? hc) ho)
 |ptr o g off b hg h =>
  have:g=0:=by omega
  subst this
  exact .ptr o 0 off b hg ((hβ o (by simp[AV.sites])).trans h)
 |rptr o g es i off b b0 n cap hg h =>
  have:g=0:=by omega
  subst this
  exact .rptr o 0 es i off b b0 n cap hg ((hβ o (by simp[AV.sites])).trans h)
 |dptr cs off b base vs hb hne h1 hc hv =>
  cases cs with
  |nil=>exact absurd rfl hne
  |cons x xs =>
   have hlt:b<w.heap.size:=CK (hc 0 x (by simp))
   exact .dptr _ off b base vs (fun hh=>hb (hf b hlt hh)) hne h1 (fun j c h1=>hw.cell hb (hc j c h1)) (fun j c h1=>(hv j c h1).mono hw hf)
 |own o g hg h1 =>
  have:g=0:=by omega
  subst this
  have hb:=hβ o (by simp[AV.sites])
  rw[←hb] at h1 ⊢;exact .own o 0 hg h1
 |map o g hg h1 =>
  have:g=0:=by omega
  subst this
  have hb:=hβ o (by simp[AV.sites])
  rw[←hb] at h1 ⊢;exact .map o 0 hg h1
 |fn f cs vs hl h ih=>exact .fn f cs vs hl fun i c v hc hv=>ih i c v hc hv fun o ho=>hβ o (Hi (List.mem_of_getElem? hc) ho)
 |tup cs vs hl h ih=>exact .tup cs vs hl fun i c v hc hv=>ih i c v hc hv fun o ho=>hβ o (Hi (List.mem_of_getElem? hc) ho)
 |undef v=>exact .undef v
 |bnd f cs vs hl h ih=>exact .bnd f cs vs hl fun i c v hc hv=>ih i c v hc hv fun o ho=>hβ o (Hi (List.mem_of_getElem? hc) ho)
 |mref k o g u hg h h1 =>
  have:g=0:=by omega
  subst this
  exact .mref k o 0 u hg (by rw[hβ o (by simp[AV.sites])];exact h) h1
 |ablk sl cs off b base vs u hb hne h1 hc hv hu ih =>
  cases cs with
  |nil=>exact absurd rfl hne
  |cons x xs =>
   have hlt:b<w.heap.size:=CK (hc 0 x (by simp))
   exact .ablk sl _ off b base vs u (fun hh=>hb (hf b hlt hh)) hne h1 (fun j c h1=>hw.cell hb (hc j c h1)) (fun j c hj=>ih j c hj fun o ho=>hβ o (by simp only[AV.sites];exact Hi (List.mem_of_getElem? hj) ho)) hu
theorem Br.putFb (h:Br E c β s tm w) {D:Nat}{ob:Obj}(hlt:D<w.heap.size) (hf:c.fb D) {J:Nat->Bool->World->(Nat->Prop)->(Nat->Prop)->Prop}(hJ:∀n st,c.J n st c.w0 c.mine c.may->J n st (w.putObj D ob) (De β s.V) c.may) :
  Br E { c with w0:=w.putObj D ob,mine:=De β s.V,J:=J } β s tm (w.putObj D ob):=by
 have hne:∀k,k≠D->(w.putObj D ob).heap[k]?=w.heap[k]?:=fun k hk=>by
  simp[World.putObj,Array.getElem?_setIfInBounds_ne (Ne.symm hk)]
 have hsz:(w.putObj D ob).heap.size=w.heap.size:=by simp[World.putObj]
 have hst:Ah (c.bar β s.V) w (w.putObj D ob):=fun b hn _=>hne b fun e=>hn (.inl (e ▸ hf))
 have hbar:∀b,b<w.heap.size->({ c with w0:=w.putObj D ob,mine:=De β s.V,J:=J }:D_).bar β s.V b->c.bar β s.V b:=fun b _ hb=>hb
 refine⟨(D1.refl _ _).keep,fun b hb=>?_,fun gg cs hgg=>(h.glob gg cs hgg).mono hst hbar,fun t=>(h.slots t).mono hst hbar (fun _ _ _=>rfl) (fun _=>Nat.le_refl _),fun o g x hx=>?_,h.sep,fun o g x b hx hb=>?_,fun o g x hl hx=>h.pin o g x hl hx,fun o g els n st hx=>?_⟩
 ·refine⟨by show b<(w.putObj D ob).heap.size;rw[hsz];exact Nat.lt_of_lt_of_le (h.low b hb).1 h.keep.size,fun ho=>?_⟩
  obtain⟨o,g,x,h1,h2⟩:=ho
  exact(h.home o g x b h1 h2).2.2 hb
 ·obtain⟨h1,h2⟩:=h.objs o g x hx
  exact⟨h1,h2.mono hst hbar (fun _ _ _=>rfl) (fun _=>Nat.le_refl _) fun b hb _=>hne b fun e=>(h.home o g x b hx hb).2.2 (e ▸ hf)⟩
 ·obtain⟨h1,_,h3⟩:=h.home o g x b hx hb
  exact⟨by rw[hsz];exact h1,.inr ⟨o,g,x,hx,hb⟩,h3⟩
 ·obtain⟨h1,h2,h3,h4⟩:=h.hist o g els n st hx
  exact⟨h1,h2,hJ _ _ h3,h4⟩
theorem Yg (l:List (Nat×Value)):∀tm:Array Value,(l.foldl (fun tm p=>tm.setIfInBounds p.1 p.2) tm).size=tm.size:=by
 induction l with
 |nil=>intro tm;rfl
 |cons p l ih=>intro tm;rw[List.foldl_cons,ih];simp
def KE (sl:Nat->AV):List Nat->List D->Nat->AV
 |p::ps,d::ds=>KE (CO sl p (.d d)) ps ds
 |_,_=>sl
theorem Br.params:∀{ps:List Nat}{ds:List D}{vs:List Value}{sl:Nat->AV}{V:AL}{tm:Array Value},Br E c β ⟨sl,V⟩ tm w->ps.length=ds.length->vs.length=ds.length->(∀p,p∈ps->p<tm.size) ->
  (∀(i:Nat) (d:D) (v:Value),ds[i]?=some d->vs[i]?=some v->Az w (c.bar β V) d v)->Br E c β ⟨KE sl ps ds,V⟩ ((ps.zip vs).foldl (fun tm p=>tm.setIfInBounds p.1 p.2) tm) w
 |[],[],vs,sl,V,tm,h,_,hv,_,_=>by
  cases vs with
  |nil=>exact h
  |cons _ _=>simp at hv
 |p::ps,d::ds,[],sl,V,tm,h,_,hv,_,_=>by simp at hv
 |p::ps,d::ds,v::vs,sl,V,tm,h,hl,hv,hp,hd=>by
  rw[List.zip_cons_cons,List.foldl_cons]
  have h1:=Br.set h (hp p (by simp)) (.d _ _ (hd 0 d v (by simp) (by simp)))
  refine Br.params (sl:=CO sl p (.d d)) h1 (by simpa using hl) (by simpa using hv) (fun q hq=>by simpa using hp q (by simp[hq])) fun i d' v' h2 h3=>hd (i+1) d' v' (by simpa using h2) (by simpa using h3)
 |[],d::ds,_,_,_,_,_,hl,_,_,_=>by simp at hl
 |p::ps,[],_,_,_,_,_,hl,_,_,_=>by simp at hl
theorem Br.wait {c0 c1:D_}{β0 β1:Nat->Nat->Value}{sl0 sl1:Nat->AV}{V0 V1:AL}{tm0 tm1:Array Value}{W0 W1:World}(h0:Br E c0 β0 ⟨sl0,V0⟩ tm0 W0) (h1:Br E c1 β1 ⟨sl1,V1⟩ tm1 W1) (hc0:V0.cn=fun _=>1) (hc1:V1.cn=fun _=>1)
  (hst:Ah (c0.bar β0 V0) W0 W1) (hsz:W0.heap.size<=W1.heap.size) (hfb:∀b,c0.fb b->c1.fb b) (hown:∀b,b<W0.heap.size->De β1 V1 b->De β0 V0 b) (hb0:∀o,c1.b0 o=c0.b0 o)
  (hal:∀t o,o∈(sl0 t).sites->C_<=o/\(∃x,V0.ob o=some (0,x))/\∃x,V1.ob o=some (0,x)) (hnh:∀o g els n st,V1.ob o≠some (g,.hist els n st)) :
  Br E { c0 with w0:=W1,mine:=De β1 V1 } β1 ⟨sl0,V1⟩ tm0 W1:=by
 have hbar:∀b,b<W0.heap.size->({ c0 with w0:=W1,mine:=De β1 V1 }:D_).bar β1 V1 b->c0.bar β0 V0 b:=fun b hlt hb=>by
  rcases hb with hb|hb
  ·exact .inl hb
  ·exact .inr (hown b hlt hb)
 have hbar1:∀b,b<W1.heap.size->({ c0 with w0:=W1,mine:=De β1 V1 }:D_).bar β1 V1 b->c1.bar β1 V1 b:=fun b hlt hb=>by
  rcases hb with hb|hb
  ·exact .inl (hfb b hb)
  ·exact .inr hb
 refine⟨(D1.refl _ _).keep,fun b hb=>⟨Nat.lt_of_lt_of_le (Nat.lt_of_lt_of_le (h0.low b hb).1 h0.keep.size) hsz,fun ho=>?_⟩,fun gg cs hgg=>(h0.glob gg cs hgg).mono hst hbar,fun t=>?_,fun o g x hx=>?_,h1.sep,fun o g x b hx hb=>?_,fun o g x hl hx=>(h1.pin o g x hl hx).trans (hb0 o),fun o g els n st hx=>absurd hx (hnh o g els n st)⟩
 ·obtain⟨o,g,x,k1,k2⟩:=ho
  exact(h1.home o g x b k1 k2).2.2 (hfb b hb)
 ·have:=h0.slots t
  show AM W1 _ β1 V1.cn (sl0 t) _
  rw[hc1]
  have h2:AM W0 (c0.bar β0 V0) β0 V0.cn (sl0 t) (tm0.getD t undef):=this
  rw[hc0] at h2
  refine h2.over hst hbar fun o ho=>?_
  obtain⟨hl,⟨x0,hx0⟩,x1,hx1⟩:=hal t o ho
  rw[h0.pin o 0 x0 hl hx0,h1.pin o 0 x1 hl hx1,hb0]
 ·obtain⟨k1,k2⟩:=h1.objs o g x hx
  exact⟨k1,k2.mono (Ah.refl _ _) hbar1 (fun _ _ _=>rfl) (fun _=>Nat.le_refl _) fun _ _ _=>rfl⟩
 ·obtain⟨k1,_,k3⟩:=h1.home o g x b hx hb
  exact⟨k1,.inr ⟨o,g,x,hx,hb⟩,fun hf=>k3 (hfb b hf)⟩
theorem Br.growFb {w':World}{X:Nat->Prop}{c':D_}(h:Br E c β s tm w) (hw:Below w.heap.size w w') (hX:∀b,X b->w.heap.size<=b/\b<w'.heap.size) (hnh:∀o g els n st,s.V.ob o≠some (g,.hist els n st))
  (e1:c'.w0=w') (e2:c'.fb=fun b=>c.fb b\/X b) (e3:c'.mine=De β s.V) (e4:c'.b0=c.b0):Br E c' β s tm w':=by
 have hbar:∀b,b<w.heap.size->c'.bar β s.V b->c.bar β s.V b:=fun b hlt hb=>by
  unfold D_.bar at hb
  rw[e2] at hb
  rcases hb with(hb|hb)|hb
  ·exact .inl hb
  ·have:=(hX b hb).1;omega
  ·exact .inr hb
 have hown:∀b,De β s.V b->b<w.heap.size/\¬c.fb b:=fun b ⟨o,g,x,k1,k2⟩=>⟨(h.home o g x b k1 k2).1,(h.home o g x b k1 k2).2.2⟩
 refine⟨?_,fun b hb=>?_,fun gg cs hgg=>(h.glob gg cs hgg).mono (.of_below hw) hbar,fun t=>(h.slots t).mono (.of_below hw) hbar (fun _ _ _=>rfl) (fun _=>Nat.le_refl _),fun o g x hx=>?_,h.sep,fun o g x b hx hb=>?_,fun o g x hl hx=>by rw[e4];exact h.pin o g x hl hx,fun o g els n st hx=>absurd hx (hnh o g els n st)⟩
 ·have:D1 c'.mine c'.w0 w':=by rw[e1];exact D1.refl _ _
  exact this.keep
 ·rw[e2] at hb
  rw[e1,e3]
  rcases hb with hb|hb
  ·refine⟨Nat.lt_of_lt_of_le (Nat.lt_of_lt_of_le (h.low b hb).1 h.keep.size) hw.size,fun ho=>(hown b ho).2 hb⟩
  ·refine⟨(hX b hb).2,fun ho=>?_⟩
   have:=(hown b ho).1;have:=(hX b hb).1;omega
 ·obtain⟨k1,k2⟩:=h.objs o g x hx
  exact⟨k1,k2.mono (.of_below hw) hbar (fun _ _ _=>rfl) (fun _=>Nat.le_refl _) fun b _ hlt=>hw.block b hlt⟩
 ·obtain⟨k1,_,k3⟩:=h.home o g x b hx hb
  refine⟨Nat.lt_of_lt_of_le k1 hw.size,.inr (by rw[e3];exact⟨o,g,x,hx,hb⟩),fun hf=>?_⟩
  rw[e2] at hf
  rcases hf with hf|hf
  ·exact k3 hf
  ·have:=(hX b hf).1;omega
theorem Br.shift {w':World}{c':D_}(h:Br E c β s tm w) (hup:D1 c.fb w w') (hf:∀b,b<w.heap.size->c'.fb b->c.fb b) (hl:∀b,c'.fb b->b<w'.heap.size) (hnh:∀o g els n st,s.V.ob o≠some (g,.hist els n st))
  (e1:c'.w0=w') (e3:c'.mine=De β s.V) (e4:c'.b0=c.b0):Br E c' β s tm w':=by
 have hbar:∀b,b<w.heap.size->c'.bar β s.V b->c.bar β s.V b:=fun b hlt hb=>hb.imp (hf b hlt) id
 have hst:Ah (c.bar β s.V) w w':=fun b hn hlt=>hup.block b hlt fun hm=>hn (.inl hm)
 have hown:∀b,De β s.V b->b<w.heap.size/\¬c.fb b:=fun b ⟨o,g,x,k1,k2⟩=>⟨(h.home o g x b k1 k2).1,(h.home o g x b k1 k2).2.2⟩
 refine⟨?_,fun b hb=>?_,fun gg cs hgg=>(h.glob gg cs hgg).mono hst hbar,fun t=>(h.slots t).mono hst hbar (fun _ _ _=>rfl) (fun _=>Nat.le_refl _),fun o g x hx=>?_,h.sep,fun o g x b hx hb=>?_,fun o g x hl hx=>by rw[e4];exact h.pin o g x hl hx,fun o g els n st hx=>absurd hx (hnh o g els n st)⟩
 ·have:D1 c'.mine c'.w0 w':=by rw[e1];exact D1.refl _ _
  exact this.keep
 ·rw[e1,e3]
  exact⟨hl b hb,fun ho=>(hown b ho).2 (hf b (hown b ho).1 hb)⟩
 ·obtain⟨k1,k2⟩:=h.objs o g x hx
  exact⟨k1,k2.mono hst hbar (fun _ _ _=>rfl) (fun _=>Nat.le_refl _) fun b hb hlt=>hup.block b hlt fun hm=>(h.home o g x b hx hb).2.2 hm⟩
 ·obtain⟨k1,_,k3⟩:=h.home o g x b hx hb
  exact⟨Nat.lt_of_lt_of_le k1 hup.size,.inr (by rw[e3];exact⟨o,g,x,hx,hb⟩),fun h5=>k3 (hf b k1 h5)⟩
def TG (E:CW) (f:FuncId) (pre post:List D) (els:RD):Prop :=
 ∀(l:Nat) (J:Nat->Bool->World->(Nat->Prop)->(Nat->Prop)->Prop) (w:World) (fb G:Nat->Prop) (vs:Array Value),
  Sr J->Sn E l els J (fun _=>False)->J 0 false w (fun _=>False) G->(∀b,fb b->b<w.heap.size)->(∀b,G b->fb b)->db E w fb ->
  vs.size=pre.length+1+post.length->vs[pre.length]?=some (.func (.yield l) #[] #[]) ->
  (∀(i:Nat) (d:D) (v:Value),pre[i]?=some d->vs[i]?=some v->Az w fb d v) ->
  (∀(i:Nat) (d:D) (v:Value),post[i]?=some d->vs[pre.length+1+i]?=some v->Az w fb d v) ->
  Calls E.P f vs w fun e w'=>∃v n st G',e=.returned v/\(st=true\/els.fin n)/\J n st w' (fun _=>False) G'/\D1 G w w'/\∀k,G' k->(G k\/w.heap.size<=k)/\k<w'.heap.size
end Go.Pw
end
section
namespace Go.Pw
def lY (ops:List Oper) (pre:List (List Nat)) (k:Nat):Bool :=
 match ops[k]?,pre[k]? with
 |some o,some p=>(o.after.toList.all fun e=>!Region.binds .any e || decide (e.on<k)) &&
  (p.all fun j=>o.after.toList.any fun e=>Region.binds .any e && (e.on == j || (match pre[e.on]? with|some q=>q.contains j|none=>false)))
 |_,_=>false
theorem NL {ops:List Oper}{pre:List (List Nat)}{k:Nat}(h:lY ops pre k=true):∃o p,ops[k]?=some o/\pre[k]?=some p/\(∀e,e∈o.after.toList->Region.binds .any e=true->e.on<k) /\
  (∀j,j∈p->∃e,e∈o.after.toList/\Region.binds .any e=true/\(e.on=j\/∃q,pre[e.on]?=some q/\j∈q)):=by
 unfold lY at h
 split at h
 ·rename_i o p h1 h2
  simp only[Bool.and_eq_true] at h
  obtain⟨a,b⟩:=h
  refine⟨o,p,h1,h2,fun e he hb=>?_,fun j hj=>?_⟩
  ·have:=List.all_eq_true.1 a e he
   simpa[hb] using this
  ·have:=List.all_eq_true.1 b j hj
   obtain⟨e,he,h4⟩:=List.any_eq_true.1 this
   simp only[Bool.and_eq_true,Bool.or_eq_true,beq_iff_eq] at h4
   refine⟨e,he,h4.1,h4.2.imp id fun h5=>?_⟩
   split at h5
   ·rename_i q hq;exact⟨q,hq,by simpa using h5⟩
   ·cases h5
 ·cases h
def qW (ops rest:List Oper) (pre:List (List Nat)) (dis:List (Ew×List Nat)):Bool :=
 nN ops pre dis && ((List.range (ops.length+rest.length)).all (lY (ops++rest) pre)) && decide (pre.length=ops.length+rest.length) &&
  ((List.range (ops.length+rest.length)).all fun k=>decide (k<ops.length) || (match pre[k]? with|some p=>(List.range k).all p.contains|none=>false))
theorem fM {ops rest:List Oper}{pre:List (List Nat)}{dis:List (Ew×List Nat)}(h:qW ops rest pre dis=true):nN ops pre dis=true/\(∀k,k<ops.length+rest.length->lY (ops++rest) pre k=true)/\(∀k p,ops.length<=k->pre[k]?=some p->∀j,j<k->j∈p):=by
 unfold qW at h
 simp only[Bool.and_eq_true,decide_eq_true_eq] at h
 obtain⟨⟨⟨h1,h2⟩,h3⟩,h4⟩:=h
 refine⟨h1,fun k hk=>List.all_eq_true.1 h2 k (by simpa using hk),fun k p hk hp j hj=>?_⟩
 have hlt:k<ops.length+rest.length:=by rw[←h3];exact(List.getElem?_eq_some_iff.1 hp).1
 have h5:=List.all_eq_true.1 h4 k (by simpa using hlt)
 rw[hp,decide_eq_false (show ¬k<ops.length by omega),Bool.false_or] at h5
 have:=List.all_eq_true.1 h5 j (by simpa using hj)
 simpa using this
variable {E:CW}
section
variable {c:D_}{β:Nat->Nat->Value}{s:Bg}{a:Act}{w:World}{K:Bg->Prop}
theorem Wv (r:Option Nat) (m:Nat) {fl:List Nat}{ns:Nat}{ops rest:List Oper}{dis:List (Ew×List Nat)}{pre:List (List Nat)}{Q:Exit->Act->World->Prop}(hdec:∀(k:Nat) (o:Oper) (I:Ew) (dy:List Nat),ops[k]?=some o->dis[k]?=some (I,dy)->Hz E true fl ns (ops++rest) o=some I) (hlen:dis.length=ops.length) (hok:nN ops pre dis=true)
  (hE:∀k,k<ops.length+rest.length->lY (ops++rest) pre k=true) (hF:∀k p,ops.length<=k->pre[k]?=some p->∀j,j<k->j∈p)
  (h:Br E c β s a.tmps w) (hn:a.tmps.size=ns) (hs:Qr E dis [] s K) (hQ:∀s' β' tm' w' (listed:Array Bool),K s'->Br E c β' s' tm' w'->tm'.size=ns->listed.size=ops.length+rest.length->(∀k,k<ops.length+rest.length->listed.getD k false=decide (k<ops.length))->wpAnyIn (rF r) m E.P .any (ops++rest).toArray Q rest.length listed ⟨tm',a.defers⟩ w') :
  wpAnyIn (rF r) m E.P .any (ops++rest).toArray Q (ops.length+rest.length) (Array.replicate (ops.length+rest.length) false) a w:=by
 obtain⟨tr,htl,hK,htr⟩:=eC hs
 let I:Nat->Ew:=fun k=>(dis.getD k default).1
 let v:Nat->AV:=fun k=>(tr.getD k (.undef,.none)).1
 let ch:Nat->B3:=fun k=>(tr.getD k (.undef,.none)).2
 let F:Nat->List Nat:=fun k=>DV (I k) (Rk dis tr s k)
 have hI:∀{k J dy},dis[k]?=some (J,dy)->I k=J:=fun {k J dy} h=>by simp[I,List.getD,h]
 have hr:∀{k q},tr[k]?=some q->v k=q.1/\ch k=q.2:=fun {k q} h=>by simp[v,ch,List.getD,h]
 have hst:∀k,k<=ops.length->after I v ch s (fun _=>true) k=Rk dis tr s k:=by
  intro k
  induction k with
  |zero=>intro _;cases dis<;>cases tr<;>rfl
  |succ k ih =>
   intro hk
   have h1:dis[k]?=some dis[k]:=List.getElem?_eq_getElem (by omega)
   have h2:tr[k]?=some tr[k]:=List.getElem?_eq_getElem (by omega)
   simp only[after,if_true,ih (by omega)]
   rw[Rj h1 h2,hI h1,(hr h2).1,(hr h2).2]
 have hsite:∀i o,i<ops.length->o∈(ch i).site->o∈F i:=by
  intro i o hi ho
  have h1:dis[i]?=some dis[i]:=List.getElem?_eq_getElem (by omega)
  have h2:tr[i]?=some tr[i]:=List.getElem?_eq_getElem (by omega)
  rw[(hr h2).2] at ho
  have:=(htr i _ _ _ h1 h2).1 o ho
  show o∈DV (I i) _
  rw[hI h1];exact dp this
 have hfree:∀j k p,j<k->k<ops.length->pre[k]?=some p->j∉p->RE I ch F j k:=by
  intro j k p hjk hk hp hjp
  obtain⟨o,Ik,dy,p',h1,h2,h3,h4,h5,h6⟩:=Jw hok hk
  rw[hp] at h3;simp at h3;subst h3
  obtain⟨J,dj,h7,h8,h9⟩:=h6 j hjk hjp
  have g1:tr[k]?=some tr[k]:=List.getElem?_eq_getElem (by omega)
  have g2:tr[j]?=some tr[j]:=List.getElem?_eq_getElem (by omega)
  obtain⟨d1,d2,d3⟩:=Qh h8
  have key:(∀o,o∈(ch j).site->o∉F k)/\∀o,o∈(ch k).site->o∉F j:=by
   show (∀o,o∈(ch j).site->o∉DV (I k) _)/\∀o,o∈(ch k).site->o∉DV (I j) _
   rw[hI h2,hI h7,(hr g1).2,(hr g2).2]
   rcases h9 with h9|h9
   ·obtain⟨q,hq,hq2⟩:=(htr k _ _ _ h2 g1).2.2 j h9
    rw[List.nil_append,Rv h7 g2] at hq
    simp at hq;subst hq
    simp only[KA,Bool.and_eq_true] at hq2
    refine⟨fun o ho=>?_,fun o ho=>?_⟩
    ·have:=List.all_eq_true.1 hq2.1 o ho;simpa using this
    ·have:=List.all_eq_true.1 hq2.2 o ho;simpa using this
   ·exact TQ h9 (htr j _ _ _ h7 g2).1 (htr k _ _ _ h2 g1).1
  exact⟨by rw[hI h2,hI h7];exact d1,by rw[hI h2,hI h7];exact d2,by rw[hI h2,hI h7];exact d3,key.1,key.2⟩
 have hclosed:∀(L:Nat->Bool),(∀k o,(ops++rest)[k]?=some o->L k=true->∀e,e∈o.after.toList->Region.binds .any e=true->L e.on=true)->∀k,k<ops.length+rest.length->∀p,pre[k]?=some p ->
   (∀o,(ops++rest)[k]?=some o->∀e,e∈o.after.toList->Region.binds .any e=true->L e.on=true)->∀j,j∈p->L j=true:=by
  intro L hL k
  induction k using Nat.strongRecOn with
  |_ k ih =>
   intro hk p hp hpre j hj
   obtain⟨o,p',h1,h3,h4,h5⟩:=NL (hE k hk)
   rw[hp] at h3;simp at h3;subst h3
   obtain⟨e,he,hb,h7⟩:=h5 j hj
   have hlt:=h4 e he hb
   have hLe:=hpre o h1 e he hb
   rcases h7 with h7|⟨q,hq,hjq⟩
   ·rw[←h7];exact hLe
   ·refine ih e.on hlt (by omega) q hq (fun o' ho' e' he' hb'=>hL e.on o' ho' hLe e' he' hb') j hjq
 have hget:∀{k o},ops[k]?=some o->(ops++rest)[k]?=some o:=fun {k o} h=>by rw[List.getElem?_append_left (List.getElem?_eq_some_iff.1 h).1];exact h
 have main:∀(fuel:Nat) (listed:Array Bool) (tm:Array Value) (β:Nat->Nat->Value) (w:World),listed.size=ops.length+rest.length->((List.range ops.length).filter fun k=>!listed.getD k false).length=fuel ->
   (∀k,ops.length<=k->listed.getD k false=false) ->
   (∀k o,(ops++rest)[k]?=some o->listed.getD k false=true->∀e,e∈o.after.toList->Region.binds .any e=true->listed.getD e.on false=true) ->
   Br E c β (after I v ch s (fun k=>listed.getD k false) ops.length) tm w->tm.size=ns->wpAnyIn (rF r) m E.P .any (ops++rest).toArray Q (fuel+rest.length) listed ⟨tm,a.defers⟩ w:=by
  intro fuel
  induction fuel with
  |zero =>
   intro listed tm β w hsz hcount hup hcl hrel htm
   have hall:∀k,k<ops.length->listed.getD k false=true:=by
    intro k hk
    have hnil:=List.eq_nil_of_length_eq_zero hcount
    have:k∉(List.range ops.length).filter fun k=>!listed.getD k false:=by rw[hnil];simp
    simpa[hk] using this
   rw[Nat.zero_add]
   refine hQ _ β tm w listed ?_ hrel htm hsz fun k hk=>?_
   ·have:=Qi (I:=I) (v:=v) (ch:=ch) (s0:=s) (L:=fun k=>listed.getD k false) (L':=fun _=>true) (n:=ops.length) hall ops.length (Nat.le_refl _)
    rw[this,hst _ (Nat.le_refl _),←hlen];exact hK
   ·by_cases hk1:k<ops.length
    ·rw[hall k hk1,decide_eq_true hk1]
    ·rw[hup k (by omega),decide_eq_false hk1]
  |succ fuel ih =>
   intro listed tm β w hsz hcount hup hcl hrel htm
   have hex:∃k,k<ops.length/\listed.getD k false=false:=by
    cases hf:(List.range ops.length).filter fun k=>!listed.getD k false with
    |nil=>rw[hf] at hcount;cases hcount
    |cons k rest =>
     have:k∈(List.range ops.length).filter fun k=>!listed.getD k false:=by rw[hf];simp
     exact⟨k,by simpa using this⟩
   have hfe:fuel+1+rest.length=(fuel+rest.length)+1:=by omega
   rw[hfe]
   refine⟨fun hnil=>?_,fun i hi=>?_⟩
   ·
    exfalso
    have hmin:∃k,k<ops.length/\listed.getD k false=false/\∀j,j<k->listed.getD j false=true:=by
     obtain⟨k,hk⟩:=hex
     induction k using Nat.strongRecOn with
     |_ k ihk =>
      by_cases hall:∀j,j<k->listed.getD j false=true
      ·exact⟨k,hk.1,hk.2,hall⟩
      ·simp only[Classical.not_forall] at hall
       obtain⟨j,hj,hjl⟩:=hall
       exact ihk j hj ⟨by omega,by simpa using hjl⟩
    obtain⟨k,hk,hkl,hbelow⟩:=hmin
    obtain⟨o,Ik,dy,p,h1,h2,h3,h4,h5,h6⟩:=Jw hok hk
    have:k∈Region.ready .any (ops++rest).toArray listed:=by
     simp only[Region.ready,List.mem_filter,List.mem_range,List.size_toArray,List.length_append,Bool.and_eq_true]
     refine⟨by omega,?_,?_⟩
     ·have hlt:k<listed.size:=by omega
      simp[Array.getD_eq_getD_getElem?,hlt] at hkl ⊢;exact hkl
     ·simp only[List.getElem?_toArray,hget h1,Option.map_some,Option.getD_some,Array.all_eq_true',Bool.or_eq_true,Bool.not_eq_true']
      intro e he
      by_cases hb:Region.binds .any e=true
      ·exact .inr (hbelow _ (h4 e (by simpa using he) hb))
      ·exact .inl (by simpa using hb)
    rw[hnil] at this;cases this
   ·simp only[Region.ready,List.mem_filter,List.mem_range,List.size_toArray,List.length_append,Bool.and_eq_true] at hi
    obtain⟨hin0,hil,hia⟩:=hi
    have hin:i<ops.length:=by
     by_cases hin:i<ops.length
     ·exact hin
     ·exfalso
      obtain⟨o,p,h1,h3,h4,h5⟩:=NL (hE i hin0)
      simp only[List.getElem?_toArray,h1,Option.map_some,Option.getD_some,Array.all_eq_true',Bool.or_eq_true,Bool.not_eq_true'] at hia
      obtain⟨k,hk,hkl⟩:=hex
      have:=hclosed (fun k=>listed.getD k false) hcl i hin0 p h3 (fun o' ho' e he hb=>by
       rw[h1] at ho';simp at ho';subst ho'
       rcases hia e (by simpa using he) with h|h
       ·rw[hb] at h;cases h
       ·exact h) k (hF i p (by omega) h3 k (by omega))
      rw[hkl] at this;cases this
    have hlt:i<listed.size:=by omega
    have hil':listed.getD i false=false:=by
     simp[Array.getD_eq_getD_getElem?,hlt] at hil ⊢;exact hil
    obtain⟨o,Ii,dy,p,h1,h2,h3,h4,h5,h6⟩:=Jw hok hin
    simp only[List.getElem?_toArray,hget h1,Option.map_some,Option.getD_some,Array.all_eq_true',Bool.or_eq_true,Bool.not_eq_true'] at hia
    have hpre:∀e,e∈o.after.toList->Region.binds .any e=true->listed.getD e.on false=true:=fun e he hb=>by
     rcases hia e (by simpa using he) with h|h
     ·rw[hb] at h;cases h
     ·exact h
    have g2:tr[i]?=some tr[i]:=List.getElem?_eq_getElem (by omega)
    have hun1:∀j,j<i->listed.getD j false=false->RE I ch F j i:=fun j hj hjl=>by
     refine hfree j i p hj hin h3 fun hjp=>?_
     have:=hclosed (fun k=>listed.getD k false) hcl i hin0 p h3 (fun o' ho' e he hb=>by rw[hget h1] at ho';simp at ho';subst ho';exact hpre e he hb) j hjp
     rw[hjl] at this;cases this
    have hun2:∀j,i<j->j<ops.length->listed.getD j false=true->RE I ch F i j:=fun j hj hjn hjl=>by
     obtain⟨oj,Ij,dyj,pj,k1,k2,k3,k4,k5,k6⟩:=Jw hok hjn
     refine hfree i j pj hj hjn k3 fun hip=>?_
     have:=hclosed (fun k=>listed.getD k false) hcl j (by omega) pj k3 (fun o' ho' e he hb=>hcl j o' ho' hjl e he hb) i hip
     rw[hil'] at this;cases this
    have hag:=Qj (I:=I) (v:=v) (ch:=ch) (s0:=s) (F:=F) (L:=fun k=>listed.getD k false) (k:=i) (n:=ops.length) (by omega) hil' hun1 fun j hj hjn hjl=>(hun2 j hj hjn hjl).symm
    have hins:=O2 (I:=I) (v:=v) (ch:=ch) (s0:=s) (F:=F) (L:=fun k=>listed.getD k false) (L':=fun k=>(listed.setIfInBounds i true).getD k false) (k:=i) (n:=ops.length) hin hil' (fun k=>Dj hlt k false) (fun j hj hjn hjl=>(hun2 j hj hjn hjl).symm) hsite
    rw[hst i (by omega)] at hag
    have hstep:El E Ii (after I v ch s (fun k=>listed.getD k false) ops.length) (fun v' ch'=>v'=v i/\ch'=ch i):=by
     refine(htr i _ _ _ h2 g2).2.1 _ _ (fun t ht=>?_) ?_ ⟨(hr g2).1.symm,(hr g2).2.symm⟩
     ·have:=hag.1 t (by rw[hI h2];exact ht)
      exact this
     ·have:=hag.2
      show DU (DV Ii _) _ _
      have hF:F i=DV Ii (Rk dis tr s i):=by show DV (I i) _=_;rw[hI h2]
      rw[←hF];exact this
    unfold wpOpIn
    simp only[List.getElem?_toArray,hget h1]
    refine Hh r m (a:=⟨tm,a.defers⟩) hrel (hdec i o Ii dy h1 h2) htm hstep fun v' ch' β' tm' w' hvc hrel' htm'=>?_
    obtain⟨rfl,rfl⟩:=hvc
    refine ih (listed.setIfInBounds i true) tm' β' w' (by simpa using hsz) ?_ (fun k hk=>?_) (fun k o' ho' hk e he hb=>?_) ?_ htm'
    ·exact T9 hlt hin hil' hcount
    ·rw[Dj hlt,if_neg (by omega)];exact hup k hk
    ·rw[Dj hlt] at hk ⊢
     split
     ·rfl
     ·split at hk
      ·rename_i hki;subst hki
       rw[hget h1] at ho';simp at ho';subst ho'
       exact hpre e he hb
      ·exact hcl k o' ho' hk e he hb
    ·rw[hins,hI h2];exact hrel'
 have h0:after I v ch s (fun k=>(Array.replicate (ops.length+rest.length) false).getD k false) ops.length=s:=by
  have hf:∀k,(Array.replicate (ops.length+rest.length) false).getD k false=false:=fun k=>by
   simp only[Array.getD_eq_getD_getElem?,Array.getElem?_replicate];split<;>rfl
  have:∀m,after I v ch s (fun k=>(Array.replicate (ops.length+rest.length) false).getD k false) m=s:=by
   intro m
   induction m with
   |zero=>rfl
   |succ m ih =>
    simp only[after]
    rw[if_neg (by rw[hf];simp)];exact ih
  exact this _
 have hf:∀k,(Array.replicate (ops.length+rest.length) false).getD k false=false:=fun k=>by
  simp only[Array.getD_eq_getD_getElem?,Array.getElem?_replicate];split<;>rfl
 refine main ops.length _ a.tmps β w (by simp) ?_ (fun k _=>hf k) (fun k o ho hk=>by rw[hf] at hk;cases hk) (by rw[h0];exact h) hn
 have:((List.range ops.length).filter fun k=>!(Array.replicate (ops.length+rest.length) false).getD k false)=List.range ops.length:=by
  rw[List.filter_eq_self];intro k _;rw[hf];rfl
 rw[this];simp
theorem Tj {ops:List Oper}{pre:List (List Nat)}{n1:Nat}(hE:∀k,k<ops.length->lY ops pre k=true) (hF:∀k p,n1<=k->pre[k]?=some p->∀j,j<k->j∈p) {k:Nat}(hk:k<ops.length) (hn:n1<=k) {listed:Array Bool}(hsz:listed.size=ops.length)
  (hl:∀i,i<ops.length->listed.getD i false=decide (i<k)):k∈Region.ready .any ops.toArray listed/\∀i,i∈Region.ready .any ops.toArray listed->i=k:=by
 have hnot:∀i,i<ops.length->((!(listed.getD i true))=true↔¬i<k):=fun i hi=>by
  have:=hl i hi
  have hlt:i<listed.size:=by omega
  simp[Array.getD_eq_getD_getElem?,hlt] at this ⊢
  rw[this];simp
 have hclosed:∀i,i<ops.length->∀p,pre[i]?=some p->(∀o,ops[i]?=some o->∀e,e∈o.after.toList->Region.binds .any e=true->e.on<k)->∀j,j∈p->j<k:=by
  intro i
  induction i using Nat.strongRecOn with
  |_ i ih =>
   intro hi p hp hpre j hj
   obtain⟨o,p',h1,h3,h4,h5⟩:=NL (hE i hi)
   rw[hp] at h3;simp at h3;subst h3
   obtain⟨e,he,hb,h7⟩:=h5 j hj
   have hlt:=h4 e he hb
   have hek:=hpre o h1 e he hb
   rcases h7 with h7|⟨q,hq,hjq⟩
   ·rw[←h7];exact hek
   ·refine ih e.on hlt (by omega) q hq (fun o' ho' e' he' hb'=>?_) j hjq
    obtain⟨o2,p2,k1,k3,k4,k5⟩:=NL (hE e.on (by omega))
    rw[k1] at ho';simp at ho';subst ho'
    have:=k4 e' he' hb'
    omega
 refine⟨?_,fun i hi=>?_⟩
 ·obtain⟨o,p,h1,h3,h4,h5⟩:=NL (hE k hk)
  simp only[Region.ready,List.mem_filter,List.mem_range,List.size_toArray,Bool.and_eq_true]
  refine⟨hk,(hnot k hk).2 (by omega),?_⟩
  simp only[List.getElem?_toArray,h1,Option.map_some,Option.getD_some,Array.all_eq_true',Bool.or_eq_true,Bool.not_eq_true']
  intro e he
  by_cases hb:Region.binds .any e=true
  ·have hlt:=h4 e (by simpa using he) hb
   refine .inr ?_
   rw[hl e.on (by omega)];simpa using hlt
  ·exact .inl (by simpa using hb)
 ·simp only[Region.ready,List.mem_filter,List.mem_range,List.size_toArray,Bool.and_eq_true] at hi
  obtain⟨hin,hil,hia⟩:=hi
  have hik:=(hnot i hin).1 hil
  by_cases he:i=k
  ·exact he
  ·exfalso
   obtain⟨o,p,h1,h3,h4,h5⟩:=NL (hE i hin)
   simp only[List.getElem?_toArray,h1,Option.map_some,Option.getD_some,Array.all_eq_true',Bool.or_eq_true,Bool.not_eq_true'] at hia
   have:=hclosed i hin p h3 (fun o' ho' e he hb=>by
    rw[h1] at ho';simp at ho';subst ho'
    rcases hia e (by simpa using he) with h|h
    ·rw[hb] at h;cases h
    ·have hlt:=h4 e he hb
     rw[hl e.on (by omega)] at h;simpa using h) k (hF i p (by omega) h3 k (by omega))
   omega
theorem QT {n k:Nat}{listed:Array Bool}(hsz:listed.size=n) (hk:k<n) (hl:∀i,i<n->listed.getD i false=decide (i<k)):(listed.setIfInBounds k true).size=n/\∀i,i<n->(listed.setIfInBounds k true).getD i false=decide (i<k+1):=by
 refine⟨by simpa using hsz,fun i hi=>?_⟩
 rw[Dj (by omega)]
 split
 ·rename_i he;subst he;simp
 ·rw[hl i hi]
  by_cases h:i<k
  ·rw[decide_eq_true h,decide_eq_true (by omega)]
  ·rw[decide_eq_false h,decide_eq_false (by omega)]
theorem ZF (r:Option Nat) (m:Nat) {fl:List Nat}{ns:Nat}{ops:List Oper}{pre:List (List Nat)}{n1:Nat}{Q:Exit->Act->World->Prop}(hE:∀k,k<ops.length->lY ops pre k=true) (hF:∀k p,n1<=k->pre[k]?=some p->∀j,j<k->j∈p) :
  ∀(d k:Nat) (l:List Ew) (c:D_) (β:Nat->Nat->Value) (s:Bg) (ds:List Deferred) (tm:Array Value) (w:World) (listed:Array Bool),k+d=ops.length->n1<=k->l.length=d->(∀(i:Nat) (o:Oper) (I:Ew),ops[k+i]?=some o->l[i]?=some I->Hz E true fl ns ops o=some I) ->
   listed.size=ops.length->(∀i,i<ops.length->listed.getD i false=decide (i<k))->Br E c β s tm w->tm.size=ns->Gu E l s K ->
   (∀s' β' tm' w',K s'->Br E c β' s' tm' w'->tm'.size=ns->Q .normal ⟨tm',ds⟩ w')->wpAnyIn (rF r) m E.P .any ops.toArray Q d listed ⟨tm,ds⟩ w:=by
 intro d
 induction d with
 |zero =>
  intro k l c β s ds tm w listed hk hn hll hdec hsz hl h hns hs hQ
  have hle:l=[]:=List.length_eq_zero_iff.1 hll
  subst hle
  refine⟨?_,hQ s β tm w hs h hns⟩
  cases hre:Region.ready .any ops.toArray listed with
  |nil=>rfl
  |cons i rest =>
   exfalso
   have hi:i∈Region.ready .any ops.toArray listed:=by rw[hre];simp
   simp only[Region.ready,List.mem_filter,List.mem_range,List.size_toArray,Bool.and_eq_true] at hi
   have h1:=hl i hi.1
   have h2:=hi.2.1
   have hlt:i<listed.size:=by omega
   simp[Array.getD_eq_getD_getElem?,hlt] at h1 h2
   rw[h1] at h2
   have:=hi.1
   simp at h2;omega
 |succ d ih =>
  intro k l c β s ds tm w listed hk hn hll hdec hsz hl h hns hs hQ
  obtain⟨I,l,rfl⟩:∃I l',l=I::l':=by cases l with|nil=>cases hll|cons I l'=>exact⟨I,l',rfl⟩
  have hkl:k<ops.length:=by omega
  obtain⟨r1,r2⟩:=Tj hE hF hkl hn hsz hl
  refine⟨fun hnil=>by rw[hnil] at r1;(cases r1),fun i hi=>?_⟩
  have:=r2 i hi;subst this
  obtain⟨o,p,h1,h3,h4,h5⟩:=NL (hE i hkl)
  unfold wpOpIn
  simp only[List.getElem?_toArray,h1]
  have hd:=hdec 0 o I (by simpa using h1) rfl
  simp only[Gu] at hs
  obtain⟨n2,n3⟩:=QT hsz hkl hl
  refine Hh r m (a:=⟨tm,ds⟩) h hd hns hs fun v' ch' β' tm' w' hvc hrel' htm'=>?_
  exact ih (i+1) l c β' _ ds tm' w' _ (by omega) (by omega) (by simpa using hll) (fun j o' I' ho' hI'=>hdec (j+1) o' I' (by rw[←ho'];congr 1;omega) (by simpa using hI')) n2 n3 hrel' htm' hvc hQ
end
end Go.Pw
end
