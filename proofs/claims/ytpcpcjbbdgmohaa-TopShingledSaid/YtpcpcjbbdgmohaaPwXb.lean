/- A part of the proof. -/
import Derived.Test.YtpcpcjbbdgmohaaPwXa
set_option linter.all false
namespace Go.Pw
open Go.RowKit
def NJ (o:Nat):Nat:=if A2<=o/\o<5000000 then o else o+5000000
def Me (o:Nat):Nat:=if A2<=o/\o<5000000 then o else o-5000000
theorem HY (o:Nat):Me (NJ o)=o:=by
 unfold Me NJ
 split
 ·rfl
 ·rename_i h;rw[if_neg (by omega)];omega
theorem VS {o:Nat}(h:A2<=o) (h2:o<5000000):Me o=o:=by unfold Me;rw[if_pos ⟨h,h2⟩]
theorem Lz (o:Nat):A2<=NJ o:=by
 unfold NJ;split
 ·rename_i h;exact h.1
 ·unfold A2;omega
def AV.mv:AV->AV
 |.ptr o g off=>.ptr (NJ o) g off
 |.rptr o g es i off=>.rptr (NJ o) g es i off
 |.own o g=>.own (NJ o) g
 |.map o g=>.map (NJ o) g
 |.agg cs=>.agg (mvL cs)
 |.fn f cs=>.fn f (mvL cs)
 |.bnd f cs=>.bnd f (mvL cs)
 |.tup cs=>.tup (mvL cs)
 |.mref k o g=>.mref k (NJ o) g
 |.ablk sl cs off=>.ablk sl (mvL cs) off
 |v=>v
where
 mvL:List AV->List AV
  |[]=>[]
  |x::xs=>x.mv::mvL xs
theorem Lw (cs:List AV):AV.mv.mvL cs=cs.map AV.mv:=by
 induction cs with
 |nil=>rfl
 |cons x xs ih=>simp only[AV.mv.mvL,List.map_cons,ih]
theorem UN (a:AV):a.mv.one=a.one:=by cases a<;>rfl
def AE.mv:AE->Option AE
 |.cells xs=>some (.cells (xs.map AV.mv))
 |.hist ..=>none
 |.rowH ..=>none
 |.mitO ..=>none
 |.mitD ..=>none
 |x=>some x
def AB.mv (V:AB):AB:=⟨fun o=>if NJ (Me o)=o then (match V.ob (Me o) with
 |some (g,x)=>match x.mv with|some y=>some (g,y)|none=>none
 |none=>none) else none,fun _=>1⟩
def BE.mv (s:BE):BE:=⟨fun t=>(s.sl t).mv,s.V.mv⟩
theorem AH.mv {w:World}{fb fb':Nat->Prop}{β:Nat->Nat->Value}(hf:∀b,b<w.heap.size->fb' b->fb b) {a:AV}{v:Value}(h:AH w fb β (fun _=>1) a v):AH w fb' (fun o g=>β (Me o) g) (fun _=>1) a.mv v:=by
 induction h with
 |d x v h=>exact .d x v (h.mono (Ak.refl _ _) hf)
 |ex xs a h=>exact .ex xs a (h.mono (Ak.refl _ _) hf)
 |agg cs vs hl h1 h ih =>
  simp only[AV.mv,Lw]
  refine .agg _ vs (by simp[hl]) (fun c hc=>?_) fun i c v hc hv=>?_
  ·obtain⟨c0,h0,rfl⟩:=List.mem_map.1 hc
   rw[UN];exact h1 c0 h0
  ·rw[List.getElem?_map] at hc
   simp only[Option.map_eq_some_iff] at hc
   obtain⟨c0,h0,rfl⟩:=hc
   exact ih i c0 v h0 hv
 |ptr o g off b hg h=>exact .ptr (NJ o) g off b hg (by rw[HY];exact h)
 |rptr o g es i off b b0 n cap hg h=>exact .rptr (NJ o) g es i off b b0 n cap hg (by rw[HY];exact h)
 |dptr cs off b base vs hb hne h1 hc hv =>
  cases cs with
  |nil=>exact absurd rfl hne
  |cons x xs =>
   have hlt:b<w.heap.size:=CD (hc 0 x (by simp))
   exact .dptr _ off b base vs (fun hh=>hb (hf b hlt hh)) hne h1 hc fun j c h1=>(hv j c h1).mono (Ak.refl _ _) hf
 |own o g hg h1 =>
  have:=AH.own (w:=w) (fb:=fb') (β:=fun o g=>β (Me o) g) (cn:=fun _=>1) (NJ o) g hg (by rw[HY];exact h1)
  rw[HY] at this;exact this
 |map o g hg h1 =>
  have:=AH.map (w:=w) (fb:=fb') (β:=fun o g=>β (Me o) g) (cn:=fun _=>1) (NJ o) g hg (by rw[HY];exact h1)
  rw[HY] at this;exact this
 |fn f cs vs hl h ih =>
  simp only[AV.mv,Lw]
  refine .fn f _ vs (by simp[hl]) fun i c v hc hv=>?_
  rw[List.getElem?_map] at hc
  simp only[Option.map_eq_some_iff] at hc
  obtain⟨c0,h0,rfl⟩:=hc
  exact ih i c0 v h0 hv
 |tup cs vs hl h ih =>
  simp only[AV.mv,Lw]
  refine .tup _ vs (by simp[hl]) fun i c v hc hv=>?_
  rw[List.getElem?_map] at hc
  simp only[Option.map_eq_some_iff] at hc
  obtain⟨c0,h0,rfl⟩:=hc
  exact ih i c0 v h0 hv
 |undef v=>exact .undef v
 |bnd f cs vs hl h ih =>
  simp only[AV.mv,Lw]
  refine .bnd f _ vs (by simp[hl]) fun i c v hc hv=>?_
  rw[List.getElem?_map] at hc
  simp only[Option.map_eq_some_iff] at hc
  obtain⟨c0,h0,rfl⟩:=hc
  exact ih i c0 v h0 hv
 |mref k o g u hg h h1=>exact .mref k (NJ o) g u hg (by rw[HY];exact h) h1
 |ablk sl cs off b base vs u hb hne h1 hc hv hu ih =>
  simp only[AV.mv,Lw]
  cases cs with
  |nil=>exact absurd rfl hne
  |cons x xs =>
   have hlt:b<w.heap.size:=CD (hc 0 x (by simp))
   refine .ablk sl _ off b base vs u (fun hh=>hb (hf b hlt hh)) (by simp) (fun c hc=>?_) (fun j c hj=>?_) (fun j c hj=>?_) (by simpa using hu)
   ·obtain⟨c0,h0,rfl⟩:=List.mem_map.1 hc
    rw[UN];exact h1 c0 h0
   all_goals
    rw[List.getElem?_map] at hj
    simp only[Option.map_eq_some_iff] at hj
    obtain⟨c0,h0,rfl⟩:=hj
   ·exact hc j c0 h0
   ·exact ih j c0 h0
theorem Dm.mv {w:World}{fb fb':Nat->Prop}{β:Nat->Nat->Value}(hf:∀b,b<w.heap.size->fb' b->fb b) {x y:AE}{v:Value}(h:Dm w fb β (fun _=>1) x v) (hy:x.mv=some y):Dm w fb' (fun o g=>β (Me o) g) (fun _=>1) y v:=by
 cases h with
 |cells xs b cur e hb hl h1 h =>
  simp[AE.mv] at hy;subst hy
  refine .cells _ b cur e hb (by simp[hl]) (fun z hz=>?_) fun i z u hz hu=>?_
  ·obtain⟨c0,h0,rfl⟩:=List.mem_map.1 hz
   rw[UN];exact h1 c0 h0
  ·rw[List.getElem?_map] at hz
   simp only[Option.map_eq_some_iff] at hz
   obtain⟨z0,h0,rfl⟩:=hz
   exact(h i z0 u h0 hu).mv hf
 |row ety es nil xs v h =>
  simp[AE.mv] at hy;subst hy
  exact .row _ _ _ _ _ (h.mono (Ak.refl _ _) hf fun _ _ _=>rfl)
 |map tys kvs b es hb hl h =>
  simp[AE.mv] at hy;subst hy
  exact .map tys kvs b es hb hl fun i kv e hk he=>by
   obtain⟨h1,h2,h3,h4⟩:=h i kv e hk he
   exact⟨h1,h2.mono (Ak.refl _ _) hf,h3.mono (Ak.refl _ _) hf,h4⟩
 |mapB tys ks cl b es hb hl hr h =>
  simp[AE.mv] at hy;subst hy
  exact .mapB tys ks cl b es hb hl hr fun i k e hk he=>by
   obtain⟨h1,h2,h3,h4⟩:=h i k e hk he
   exact⟨h1,h2.mono (Ak.refl _ _) hf,h3.mono (Ak.refl _ _) hf,h4⟩
 |mitO=>simp[AE.mv] at hy
 |mitD=>simp[AE.mv] at hy
 |hist els n st l=>simp[AE.mv] at hy
 |rowH ety xs i q p v h=>simp[AE.mv] at hy
 |mat e1 e2 nil ix rows v h =>
  simp[AE.mv] at hy;subst hy
  exact .mat _ _ _ _ _ _ (h.mono (Ak.refl _ _) hf fun _ _ _=>rfl)
theorem AB.mv_ob {V:AB}{o g:Nat}{y:AE}(h:V.mv.ob o=some (g,y)):NJ (Me o)=o/\∃x,V.ob (Me o)=some (g,x)/\x.mv=some y:=by
 simp only[AB.mv] at h
 split at h
 ·rename_i h0
  split at h
  ·rename_i g' x hx
   split at h
   ·rename_i y' hy
    simp at h;obtain⟨rfl,rfl⟩:=h
    exact⟨h0,x,hx,hy⟩
   ·cases h
  ·cases h
 ·cases h
theorem QK {x:AE} {els n st}:x.mv≠some (.hist els n st):=by cases x<;>simp[AE.mv]
variable {E:C3}{c:Dr}{β:Nat->Nat->Value}{s:BE}{tm:Array Value}{w:World}
theorem Bc.mv (h:Bc E c β s tm w) (hcn:s.V.cn=fun _=>1):Bc E { c with b0:=fun o=>if o<5000000 then c.b0 o else β (Me o) 0 } (fun o g=>β (Me o) g) s.mv tm w:=by
 have hbar:∀b,b<w.heap.size->({ c with b0:=fun o=>if o<5000000 then c.b0 o else β (Me o) 0 }:Dr).bar (fun o g=>β (Me o) g) s.mv.V b->c.bar β s.V b:=fun b _ hb=>by
  rcases hb with hb|⟨o,g,y,h1,h2⟩
  ·exact .inl hb
  ·obtain⟨_,x,h3,_⟩:=AB.mv_ob h1
   exact .inr ⟨_,g,x,h3,h2⟩
 refine⟨⟨h.keep.os,h.keep.tape,h.keep.output,h.keep.size,h.keep.block⟩,h.low,fun gg cs hgg=>(h.glob gg cs hgg).mono (Ak.refl _ _) hbar,fun t=>?_,fun o g y hy=>?_,fun o o' g g' x x' b h1 h2 h3 h4=>?_,fun o g y b h1 h2=>?_,fun o g y hl h1=>?_,fun o g els n st h1=>?_⟩
 ·have:=h.slots t;rw[hcn] at this;exact this.mv hbar
 ·obtain⟨_,x,h3,h4⟩:=AB.mv_ob hy
  obtain⟨k1,k2⟩:=h.objs _ g x h3
  rw[hcn] at k1 k2
  exact⟨k1,k2.mv hbar h4⟩
 ·obtain⟨e1,y1,k1,_⟩:=AB.mv_ob h1
  obtain⟨e2,y2,k2,_⟩:=AB.mv_ob h2
  have:=h.sep _ _ _ _ _ _ b k1 k2 h3 h4
  rw[←e1,←e2,this]
 ·obtain⟨_,x,h3,_⟩:=AB.mv_ob h1
  exact h.home _ g x b h3 h2
 ·obtain⟨_,x,h3,_⟩:=AB.mv_ob h1
  show β (Me o) g=if o<5000000 then c.b0 o else β (Me o) 0
  have hg:g=0:=by have:=(h.objs _ g x h3).1;rw[hcn] at this;exact Nat.lt_one_iff.1 this
  subst hg
  split
  ·rename_i hlt
   have:=h.pin (Me o) 0 x (by rw[VS hl hlt];exact hl) h3
   rw[this,VS hl hlt]
  ·rfl
 ·obtain⟨_,x,_,h4⟩:=AB.mv_ob h1
  exact absurd h4 QK
theorem G8 {cs:List AV}{o:Nat}{a:AV}(ha:a∈cs) (h:o∈a.sites):o∈AV.sites.sitesL cs:=by
 induction cs with
 |nil=>cases ha
 |cons x xs ih =>
  simp only[AV.sites.sitesL,List.mem_append]
  rcases List.mem_cons.1 ha with rfl|ha
  ·exact .inl h
  ·exact .inr (ih ha)
theorem AH.over {w w':World}{fb fb':Nat->Prop}{β β':Nat->Nat->Value}(hw:Ak fb w w') (hf:∀b,b<w.heap.size->fb' b->fb b) {a:AV}{v:Value}(h:AH w fb β (fun _=>1) a v) (hβ:∀o,o∈a.sites->β' o 0=β o 0):AH w' fb' β' (fun _=>1) a v:=by
 induction h with
 |d x v h=>exact .d x v (h.mono hw hf)
 |ex xs a h=>exact .ex xs a (h.mono hw hf)
 |agg cs vs hl h1 h ih=>exact .agg cs vs hl h1 fun i c v hc hv=>ih i c v hc hv fun o ho=>hβ o (G8 (List.mem_of_getElem? hc) ho)
 |ptr o g off b hg h =>
  have:g=0:=by omega
  subst this
  exact .ptr o 0 off b hg ((hβ o (by simp[AV.sites])).trans h)
 |rptr o g es i off b b0 n cap hg h =>
  have:g=0:=by omega
  subst this
  exact .rptr o 0 es i off b b0 n cap hg ((hβ o (by simp[AV.sites])).trans h)
 |dptr cs off b base vs hb hne h1 hc hv =>
  cases cs with
  |nil=>exact absurd rfl hne
  |cons x xs =>
   have hlt:b<w.heap.size:=CD (hc 0 x (by simp))
   exact .dptr _ off b base vs (fun hh=>hb (hf b hlt hh)) hne h1 (fun j c h1=>hw.cell hb (hc j c h1)) (fun j c h1=>(hv j c h1).mono hw hf)
 |own o g hg h1 =>
  have:g=0:=by omega
  subst this
  have hb:=hβ o (by simp[AV.sites])
  rw[←hb] at h1 ⊢;exact .own o 0 hg h1
 |map o g hg h1 =>
  have:g=0:=by omega
  subst this
  have hb:=hβ o (by simp[AV.sites])
  rw[←hb] at h1 ⊢;exact .map o 0 hg h1
 |fn f cs vs hl h ih=>exact .fn f cs vs hl fun i c v hc hv=>ih i c v hc hv fun o ho=>hβ o (G8 (List.mem_of_getElem? hc) ho)
 |tup cs vs hl h ih=>exact .tup cs vs hl fun i c v hc hv=>ih i c v hc hv fun o ho=>hβ o (G8 (List.mem_of_getElem? hc) ho)
 |undef v=>exact .undef v
 |bnd f cs vs hl h ih=>exact .bnd f cs vs hl fun i c v hc hv=>ih i c v hc hv fun o ho=>hβ o (G8 (List.mem_of_getElem? hc) ho)
 |mref k o g u hg h h1 =>
  have:g=0:=by omega
  subst this
  exact .mref k o 0 u hg (by rw[hβ o (by simp[AV.sites])];exact h) h1
 |ablk sl cs off b base vs u hb hne h1 hc hv hu ih =>
  cases cs with
  |nil=>exact absurd rfl hne
  |cons x xs =>
   have hlt:b<w.heap.size:=CD (hc 0 x (by simp))
   exact .ablk sl _ off b base vs u (fun hh=>hb (hf b hlt hh)) hne h1 (fun j c h1=>hw.cell hb (hc j c h1)) (fun j c hj=>ih j c hj fun o ho=>hβ o (by simp only[AV.sites];exact G8 (List.mem_of_getElem? hj) ho)) hu
theorem Bc.putFb (h:Bc E c β s tm w) {D:Nat}{ob:Obj}(hlt:D<w.heap.size) (hf:c.fb D) {J:Nat->Bool->World->(Nat->Prop)->(Nat->Prop)->Prop}(hJ:∀n st,c.J n st c.w0 c.mine c.may->J n st (w.putObj D ob) (D9 β s.V) c.may) :
  Bc E { c with w0:=w.putObj D ob,mine:=D9 β s.V,J:=J } β s tm (w.putObj D ob):=by
 have hne:∀k,k≠D->(w.putObj D ob).heap[k]?=w.heap[k]?:=fun k hk=>by
  simp[World.putObj,Array.getElem?_setIfInBounds_ne (Ne.symm hk)]
 have hsz:(w.putObj D ob).heap.size=w.heap.size:=by simp[World.putObj]
 have hst:Ak (c.bar β s.V) w (w.putObj D ob):=fun b hn _=>hne b fun e=>hn (.inl (e ▸ hf))
 have hbar:∀b,b<w.heap.size->({ c with w0:=w.putObj D ob,mine:=D9 β s.V,J:=J }:Dr).bar β s.V b->c.bar β s.V b:=fun b _ hb=>hb
 refine⟨(Dq.refl _ _).keep,fun b hb=>?_,fun gg cs hgg=>(h.glob gg cs hgg).mono hst hbar,fun t=>(h.slots t).mono hst hbar (fun _ _ _=>rfl) (fun _=>Nat.le_refl _),fun o g x hx=>?_,h.sep,fun o g x b hx hb=>?_,fun o g x hl hx=>h.pin o g x hl hx,fun o g els n st hx=>?_⟩
 ·refine⟨by show b<(w.putObj D ob).heap.size;rw[hsz];exact Nat.lt_of_lt_of_le (h.low b hb).1 h.keep.size,fun ho=>?_⟩
  obtain⟨o,g,x,h1,h2⟩:=ho
  exact(h.home o g x b h1 h2).2.2 hb
 ·obtain⟨h1,h2⟩:=h.objs o g x hx
  exact⟨h1,h2.mono hst hbar (fun _ _ _=>rfl) (fun _=>Nat.le_refl _) fun b hb _=>hne b fun e=>(h.home o g x b hx hb).2.2 (e ▸ hf)⟩
 ·obtain⟨h1,_,h3⟩:=h.home o g x b hx hb
  exact⟨by rw[hsz];exact h1,.inr ⟨o,g,x,hx,hb⟩,h3⟩
 ·obtain⟨h1,h2,h3,h4⟩:=h.hist o g els n st hx
  exact⟨h1,h2,hJ _ _ h3,h4⟩
theorem Un (l:List (Nat×Value)):∀tm:Array Value,(l.foldl (fun tm p=>tm.setIfInBounds p.1 p.2) tm).size=tm.size:=by
 induction l with
 |nil=>intro tm;rfl
 |cons p l ih=>intro tm;rw[List.foldl_cons,ih];simp
def NA (sl:Nat->AV):List Nat->List D->Nat->AV
 |p::ps,d::ds=>NA (A9 sl p (.d d)) ps ds
 |_,_=>sl
theorem Bc.params:∀{ps:List Nat}{ds:List D}{vs:List Value}{sl:Nat->AV}{V:AB}{tm:Array Value},Bc E c β ⟨sl,V⟩ tm w->ps.length=ds.length->vs.length=ds.length->(∀p,p∈ps->p<tm.size) ->
  (∀(i:Nat) (d:D) (v:Value),ds[i]?=some d->vs[i]?=some v->Ar w (c.bar β V) d v)->Bc E c β ⟨NA sl ps ds,V⟩ ((ps.zip vs).foldl (fun tm p=>tm.setIfInBounds p.1 p.2) tm) w
 |[],[],vs,sl,V,tm,h,_,hv,_,_=>by
  cases vs with
  |nil=>exact h
  |cons _ _=>simp at hv
 |p::ps,d::ds,[],sl,V,tm,h,_,hv,_,_=>by simp at hv
 |p::ps,d::ds,v::vs,sl,V,tm,h,hl,hv,hp,hd=>by
  rw[List.zip_cons_cons,List.foldl_cons]
  have h1:=Bc.set h (hp p (by simp)) (.d _ _ (hd 0 d v (by simp) (by simp)))
  refine Bc.params (sl:=A9 sl p (.d d)) h1 (by simpa using hl) (by simpa using hv) (fun q hq=>by simpa using hp q (by simp[hq])) fun i d' v' h2 h3=>hd (i+1) d' v' (by simpa using h2) (by simpa using h3)
 |[],d::ds,_,_,_,_,_,hl,_,_,_=>by simp at hl
 |p::ps,[],_,_,_,_,_,hl,_,_,_=>by simp at hl
theorem Bc.wait {c0 c1:Dr}{β0 β1:Nat->Nat->Value}{sl0 sl1:Nat->AV}{V0 V1:AB}{tm0 tm1:Array Value}{W0 W1:World}(h0:Bc E c0 β0 ⟨sl0,V0⟩ tm0 W0) (h1:Bc E c1 β1 ⟨sl1,V1⟩ tm1 W1) (hc0:V0.cn=fun _=>1) (hc1:V1.cn=fun _=>1)
  (hst:Ak (c0.bar β0 V0) W0 W1) (hsz:W0.heap.size<=W1.heap.size) (hfb:∀b,c0.fb b->c1.fb b) (hown:∀b,b<W0.heap.size->D9 β1 V1 b->D9 β0 V0 b) (hb0:∀o,c1.b0 o=c0.b0 o)
  (hal:∀t o,o∈(sl0 t).sites->A2<=o/\(∃x,V0.ob o=some (0,x))/\∃x,V1.ob o=some (0,x)) (hnh:∀o g els n st,V1.ob o≠some (g,.hist els n st)) :
  Bc E { c0 with w0:=W1,mine:=D9 β1 V1 } β1 ⟨sl0,V1⟩ tm0 W1:=by
 have hbar:∀b,b<W0.heap.size->({ c0 with w0:=W1,mine:=D9 β1 V1 }:Dr).bar β1 V1 b->c0.bar β0 V0 b:=fun b hlt hb=>by
  rcases hb with hb|hb
  ·exact .inl hb
  ·exact .inr (hown b hlt hb)
 have hbar1:∀b,b<W1.heap.size->({ c0 with w0:=W1,mine:=D9 β1 V1 }:Dr).bar β1 V1 b->c1.bar β1 V1 b:=fun b hlt hb=>by
  rcases hb with hb|hb
  ·exact .inl (hfb b hb)
  ·exact .inr hb
 refine⟨(Dq.refl _ _).keep,fun b hb=>⟨Nat.lt_of_lt_of_le (Nat.lt_of_lt_of_le (h0.low b hb).1 h0.keep.size) hsz,fun ho=>?_⟩,fun gg cs hgg=>(h0.glob gg cs hgg).mono hst hbar,fun t=>?_,fun o g x hx=>?_,h1.sep,fun o g x b hx hb=>?_,fun o g x hl hx=>(h1.pin o g x hl hx).trans (hb0 o),fun o g els n st hx=>absurd hx (hnh o g els n st)⟩
 ·obtain⟨o,g,x,k1,k2⟩:=ho
  exact(h1.home o g x b k1 k2).2.2 (hfb b hb)
 ·have:=h0.slots t
  show AH W1 _ β1 V1.cn (sl0 t) _
  rw[hc1]
  have h2:AH W0 (c0.bar β0 V0) β0 V0.cn (sl0 t) (tm0.getD t undef):=this
  rw[hc0] at h2
  refine h2.over hst hbar fun o ho=>?_
  obtain⟨hl,⟨x0,hx0⟩,x1,hx1⟩:=hal t o ho
  rw[h0.pin o 0 x0 hl hx0,h1.pin o 0 x1 hl hx1,hb0]
 ·obtain⟨k1,k2⟩:=h1.objs o g x hx
  exact⟨k1,k2.mono (Ak.refl _ _) hbar1 (fun _ _ _=>rfl) (fun _=>Nat.le_refl _) fun _ _ _=>rfl⟩
 ·obtain⟨k1,_,k3⟩:=h1.home o g x b hx hb
  exact⟨k1,.inr ⟨o,g,x,hx,hb⟩,fun hf=>k3 (hfb b hf)⟩
theorem Bc.growFb {w':World}{X:Nat->Prop}{c':Dr}(h:Bc E c β s tm w) (hw:Below w.heap.size w w') (hX:∀b,X b->w.heap.size<=b/\b<w'.heap.size) (hnh:∀o g els n st,s.V.ob o≠some (g,.hist els n st))
  (e1:c'.w0=w') (e2:c'.fb=fun b=>c.fb b\/X b) (e3:c'.mine=D9 β s.V) (e4:c'.b0=c.b0):Bc E c' β s tm w':=by
 have hbar:∀b,b<w.heap.size->c'.bar β s.V b->c.bar β s.V b:=fun b hlt hb=>by
  unfold Dr.bar at hb
  rw[e2] at hb
  rcases hb with(hb|hb)|hb
  ·exact .inl hb
  ·have:=(hX b hb).1;omega
  ·exact .inr hb
 have hown:∀b,D9 β s.V b->b<w.heap.size/\¬c.fb b:=fun b ⟨o,g,x,k1,k2⟩=>⟨(h.home o g x b k1 k2).1,(h.home o g x b k1 k2).2.2⟩
 refine⟨?_,fun b hb=>?_,fun gg cs hgg=>(h.glob gg cs hgg).mono (.of_below hw) hbar,fun t=>(h.slots t).mono (.of_below hw) hbar (fun _ _ _=>rfl) (fun _=>Nat.le_refl _),fun o g x hx=>?_,h.sep,fun o g x b hx hb=>?_,fun o g x hl hx=>by rw[e4];exact h.pin o g x hl hx,fun o g els n st hx=>absurd hx (hnh o g els n st)⟩
 ·have:Dq c'.mine c'.w0 w':=by rw[e1];exact Dq.refl _ _
  exact this.keep
 ·rw[e2] at hb
  rw[e1,e3]
  rcases hb with hb|hb
  ·refine⟨Nat.lt_of_lt_of_le (Nat.lt_of_lt_of_le (h.low b hb).1 h.keep.size) hw.size,fun ho=>(hown b ho).2 hb⟩
  ·refine⟨(hX b hb).2,fun ho=>?_⟩
   have:=(hown b ho).1;have:=(hX b hb).1;omega
 ·obtain⟨k1,k2⟩:=h.objs o g x hx
  exact⟨k1,k2.mono (.of_below hw) hbar (fun _ _ _=>rfl) (fun _=>Nat.le_refl _) fun b _ hlt=>hw.block b hlt⟩
 ·obtain⟨k1,_,k3⟩:=h.home o g x b hx hb
  refine⟨Nat.lt_of_lt_of_le k1 hw.size,.inr (by rw[e3];exact⟨o,g,x,hx,hb⟩),fun hf=>?_⟩
  rw[e2] at hf
  rcases hf with hf|hf
  ·exact k3 hf
  ·have:=(hX b hf).1;omega
theorem Bc.shift {w':World}{c':Dr}(h:Bc E c β s tm w) (hup:Dq c.fb w w') (hf:∀b,b<w.heap.size->c'.fb b->c.fb b) (hl:∀b,c'.fb b->b<w'.heap.size) (hnh:∀o g els n st,s.V.ob o≠some (g,.hist els n st))
  (e1:c'.w0=w') (e3:c'.mine=D9 β s.V) (e4:c'.b0=c.b0):Bc E c' β s tm w':=by
 have hbar:∀b,b<w.heap.size->c'.bar β s.V b->c.bar β s.V b:=fun b hlt hb=>hb.imp (hf b hlt) id
 have hst:Ak (c.bar β s.V) w w':=fun b hn hlt=>hup.block b hlt fun hm=>hn (.inl hm)
 have hown:∀b,D9 β s.V b->b<w.heap.size/\¬c.fb b:=fun b ⟨o,g,x,k1,k2⟩=>⟨(h.home o g x b k1 k2).1,(h.home o g x b k1 k2).2.2⟩
 refine⟨?_,fun b hb=>?_,fun gg cs hgg=>(h.glob gg cs hgg).mono hst hbar,fun t=>(h.slots t).mono hst hbar (fun _ _ _=>rfl) (fun _=>Nat.le_refl _),fun o g x hx=>?_,h.sep,fun o g x b hx hb=>?_,fun o g x hl hx=>by rw[e4];exact h.pin o g x hl hx,fun o g els n st hx=>absurd hx (hnh o g els n st)⟩
 ·have:Dq c'.mine c'.w0 w':=by rw[e1];exact Dq.refl _ _
  exact this.keep
 ·rw[e1,e3]
  exact⟨hl b hb,fun ho=>(hown b ho).2 (hf b (hown b ho).1 hb)⟩
 ·obtain⟨k1,k2⟩:=h.objs o g x hx
  exact⟨k1,k2.mono hst hbar (fun _ _ _=>rfl) (fun _=>Nat.le_refl _) fun b hb hlt=>hup.block b hlt fun hm=>(h.home o g x b hx hb).2.2 hm⟩
 ·obtain⟨k1,_,k3⟩:=h.home o g x b hx hb
  exact⟨Nat.lt_of_lt_of_le k1 hup.size,.inr (by rw[e3];exact⟨o,g,x,hx,hb⟩),fun h5=>k3 (hf b k1 h5)⟩
def VO (E:C3) (f:FuncId) (pre post:List D) (els:List (List D)):Prop :=
 ∀(l:Nat) (J:Nat->Bool->World->(Nat->Prop)->(Nat->Prop)->Prop) (w:World) (fb G:Nat->Prop) (vs:Array Value),
  VR J->VN E l els J->J 0 false w (fun _=>False) G->(∀b,fb b->b<w.heap.size)->(∀b,G b->fb b)->aY E w fb ->
  vs.size=pre.length+1+post.length->vs[pre.length]?=some (.func (.yield l) #[] #[]) ->
  (∀(i:Nat) (d:D) (v:Value),pre[i]?=some d->vs[i]?=some v->Ar w fb d v) ->
  (∀(i:Nat) (d:D) (v:Value),post[i]?=some d->vs[pre.length+1+i]?=some v->Ar w fb d v) ->
  Calls E.P f vs w fun e w'=>∃v n st G',e=.returned v/\(st=true\/n=els.length)/\J n st w' (fun _=>False) G'/\Dq G w w'/\∀k,G' k->(G k\/w.heap.size<=k)/\k<w'.heap.size
end Go.Pw
