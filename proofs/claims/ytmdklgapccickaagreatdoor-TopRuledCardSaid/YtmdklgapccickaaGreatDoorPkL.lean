/- A part of the proof. -/
import Derived.Test.YtmdklgapccickaaGreatDoorPkI
import Derived.Maps.RangeRun
set_option linter.all false
section
namespace Go.Pw
open Go.RowKit
section
variable {E:CW}{c:D_}{β:Nat->Nat->Value}{s:Bg}{tm:Array Value}{w:World}{K:AV->B3->Prop}
def iH (E:CW) (c:D_) (s:Bg) (tm:Array Value) (K:AV->B3->Prop) (r:Result Unit):Prop :=
 ∃w' ch β',r=.ok () w'/\K .undef ch/\Br E c β' ⟨s.sl,s.V.app ch⟩ tm w'
def World.setObjAt (w:World) (r:Nat) (o:Obj):World:={ w with heap:=w.heap.setIfInBounds r o }
theorem C3 {P:Program}{b:Nat}{es:Array MapEntry}{cl:Nat}{o:Obj}(hb:w.heap[b]?=some (.map es cl)):(setObj b o).run P w=.ok () (World.setObjAt w b o):=by
 simp[setObj,Sem.run,hb,World.setObjAt]
theorem IT {b:Nat}{o:Obj}:FR (.map (some b)) w (World.setObjAt w b o):=by
 refine⟨rfl,rfl,rfl,by simp[World.setObjAt],fun k hk hne=>?_⟩
 simp only[World.setObjAt]
 rw[Array.getElem?_setIfInBounds_ne]
 intro h;subst h;exact hne rfl
theorem Td {b:Nat}{o:Obj}(hb:b<w.heap.size):(World.setObjAt w b o).heap[b]?=some o:=by
 simp[World.setObjAt,hb]
theorem Jq {P:Program}{tys:HS}{a k:D}{fb fb2:Nat->Prop}{u v:Value}(ha:Gt tys a=true) (hk:Gt tys k=true) (hu:Az w fb a u) (hv:Az w fb2 k v) (he:Dl k a=true) :
  (Instr.keyThatStays u v).run P w=.ok v w:=by
 have prim:∀{ks:Option IntKind}{x y:D}{p q:Value}(n:Nat),D4 [ks] [x]=true->D4 [ks] [y]=true->Az w fb x p->Az w fb2 y q->Fe y x=true->Instr.sameBits n p q=true:=by
  intro ks x y p q n hx hy hp hq hpe
  cases ks with
  |none =>
   cases hp<;>simp[D4] at hx
   cases hq<;>simp[D4] at hy
   simp[Fe] at hpe;subst hpe
   simp[Instr.sameBits]
  |some kk =>
   cases hp<;>simp[D4] at hx
   cases hq<;>simp[D4] at hy
   subst hx hy
   simp[Fe] at hpe;subst hpe
   simp[Instr.sameBits]
 have hs:Instr.sameBits 10000 u v=true:=by
  simp only[Gt,Bool.and_eq_true,beq_iff_eq] at ha hk
  by_cases hag:tys.1=true
  ·rw[hag] at ha hk
   obtain⟨cs,rfl⟩:∃cs,a=.agg cs:=by cases a<;>simp_all[D.isAgg]
   obtain⟨ds,rfl⟩:∃cs,k=.agg cs:=by cases k<;>simp_all[D.isAgg]
   cases hu with|agg _ us hl1 _ hr1 =>
   cases hv with|agg _ vs hl2 _ hr2 =>
   simp only[D.cells] at ha hk
   have e1:=B0 ha.2
   have e2:=B0 hk.2
   simp only[Instr.sameBits,Bool.and_eq_true,beq_iff_eq]
   refine⟨by omega,?_⟩
   have key:∀(ks:List (Option IntKind)) (cs ds:List D) (us vs:List Value),D4 ks cs=true->D4 ks ds=true->E3 ds cs=true->us.length=cs.length->vs.length=ds.length ->
     (∀(i:Nat) c v,cs[i]?=some c->us[i]?=some v->Az w fb c v)->(∀(i:Nat) c v,ds[i]?=some c->vs[i]?=some v->Az w fb2 c v)->((us.zip vs).all fun(x,y)=>Instr.sameBits 9999 x y)=true:=by
    intro ks
    induction ks with
    |nil =>
        intro cs ds us vs h1 h2 h3 h4 h5 _ _
        have:=B0 h1;simp at this;subst this
        simp at h4;subst h4;simp
    |cons k ks ih =>
     intro cs ds us vs h1 h2 h3 h4 h5 h6 h7
     have l1:=B0 h1;have l2:=B0 h2
     match cs,ds,us,vs,l1,l2,h4,h5 with
     |x::cs,y::ds,p::us,q::vs,_,_,h4,h5 =>
      simp only[E3,Bool.and_eq_true] at h3
      simp only[List.zip_cons_cons,List.all_cons,Bool.and_eq_true]
      exact⟨prim 9999 (Ct h1).1 (Ct h2).1 (h6 0 x p (by simp) (by simp)) (h7 0 y q (by simp) (by simp)) h3.1,
       ih cs ds us vs (Ct h1).2 (Ct h2).2 h3.2 (by simpa using h4) (by simpa using h5) (fun i c v hc hv=>h6 (i+1) c v (by simpa using hc) (by simpa using hv)) (fun i c v hc hv=>h7 (i+1) c v (by simpa using hc) (by simpa using hv))⟩
   exact key tys.2 cs ds us.toList vs.toList ha.2 hk.2 he (by simpa using hl1) (by simpa using hl2) (fun i c v hc hv=>hr1 i c v hc (by simpa using hv)) (fun i c v hc hv=>hr2 i c v hc (by simpa using hv))
  ·simp only[Bool.not_eq_true] at hag
   rw[hag] at ha hk
   have e1:a.cells=[a]:=by cases a<;>simp_all[D.cells,D.isAgg]
   have e2:k.cells=[k]:=by cases k<;>simp_all[D.cells,D.isAgg]
   rw[e1] at ha;rw[e2] at hk
   have:=B0 ha.2
   match hts:tys.2,this with
   |[kk],_ =>
    rw[hts] at ha hk
    exact prim 10000 ha.2 hk.2 hu hv (by simpa[Dl,e1,e2,E3] using he)
 simp[Instr.keyThatStays,hs]
theorem MO {k:D}:∀{kvs:List (D×D)}{j:Nat}{e:D×D},D6 k kvs=some j->kvs[j]?=some e->Dl k e.1=true
 |[],j,e,h,he=>by simp at he
 |e0::es,j,e,h,he=>by
  simp only[D6] at h
  split at h
  ·rename_i hq;simp at h;subst h;simp at he;subst he;exact hq
  ·cases hi:D6 k es with
   |none=>simp[hi] at h
   |some i=>simp[hi] at h;subst h;simp at he;exact MO hi he
theorem XH:∀{ks:List (Option IntKind)}{cs ds:List D},D4 ks cs=true->D4 ks ds=true->E3 ds cs=true->ds=cs
 |[],cs,ds,h1,h2,_=>by have l1:=B0 h1;have l2:=B0 h2;simp at l1 l2;subst l1 l2;rfl
 |k::ks,cs,ds,h1,h2,h3=>by
  have l1:=B0 h1;have l2:=B0 h2
  match cs,ds,l1,l2 with
  |x::cs,y::ds,_,_ =>
   simp only[E3,Bool.and_eq_true] at h3
   rw[XH (Ct h1).2 (Ct h2).2 h3.2]
   have a1:=(Ct h1).1;have a2:=(Ct h2).1
   have:y=x:=by
    cases k<;>cases x<;>simp[D4] at a1<;>cases y<;>simp[D4] at a2<;>simp_all[Fe]
   rw[this]
theorem WY {tys:HS}{a k:D}(ha:Gt tys a=true) (hk:Gt tys k=true) (h:Dl k a=true):k=a:=by
 simp only[Gt,Bool.and_eq_true,beq_iff_eq] at ha hk
 have:=XH ha.2 hk.2 h
 cases a<;>cases k<;>simp_all[D.cells,D.isAgg]
theorem MI (h:Br E c β s tm w) {o g:Nat}{tys:HS}{kvs:List (D×D)}{um:Value}(hg:s.V.get o g=some (.map tys kvs)) (hm:AM w (c.bar β s.V) β s.V.cn (.map o g) um) :
  ∃b es,um=.map (some b)/\β o g=.map (some b)/\s.V.ob o=some (g,.map tys kvs)/\w.heap[b]?=some (.map es kvs.length)/\es.size=kvs.length /\
   (∀(i:Nat) (kv:D×D) (e:MapEntry),kvs[i]?=some kv->es[i]?=some e->Gt tys kv.1=true/\Az w (c.bar β s.V) kv.1 e.key/\Az w (c.bar β s.V) kv.2 e.val/\e.born=i):=by
 have hob:=AL.get_some hg
 obtain⟨hlt,ho⟩:=h.objs _ _ _ hob
 cases hm with|map _ _ _ _ =>
 generalize hv:β o g=um at *
 cases ho with|map _ _ b es hb hl hent=>exact⟨b,es,rfl,rfl,hob,hb,hl,hent⟩
theorem LU (h:Br E c β s tm w) {o g:Nat}{tys:HS}{kvs kvs':List (D×D)}{b:Nat}{es es':Array MapEntry}(hβ:β o g=.map (some b)) (hob:s.V.ob o=some (g,.map tys kvs)) (hb:w.heap[b]?=some (.map es kvs.length))
  (hl':es'.size=kvs'.length) (hent':∀(i:Nat) (kv:D×D) (e:MapEntry),kvs'[i]?=some kv->es'[i]?=some e->Gt tys kv.1=true/\Az w (c.bar β s.V) kv.1 e.key/\Az w (c.bar β s.V) kv.2 e.val/\e.born=i) :
  Br E c β ⟨s.sl,s.V.app (.keep o g (.map tys kvs'))⟩ tm (World.setObjAt w b (.map es' kvs'.length)):=by
 have hlt:b<w.heap.size:=(Array.getElem?_eq_some_iff.1 hb).1
 have hst:Ah (c.bar β s.V) w (World.setObjAt w b (.map es' kvs'.length)):=fun k hk hlt=>by
  have:=IT (w:=w) (b:=b) (o:=.map es' kvs'.length)
  refine this.block k hlt fun he=>hk (.inr ⟨o,g,_,hob,by rw[hβ];exact he⟩)
 refine h.kept hob (by rw[hβ];exact IT) fun fb' hf hfe=>?_
 rw[hβ]
 refine .map tys kvs' b es' (Td hlt) hl' fun i kv e h1 h2=>?_
 obtain⟨a1,a2,a3,a4⟩:=hent' i kv e h1 h2
 exact⟨a1,a2.mono hst hf,a3.mono hst hf,a4⟩
theorem NO (h:Br E c β s tm w) {o g:Nat}{tys:HS}{ks:List (Nat×D×D)}{cl:Nat}{um:Value}(hg:s.V.get o g=some (.mapB tys ks cl)) (hm:AM w (c.bar β s.V) β s.V.cn (.map o g) um) :
  ∃b es,um=.map (some b)/\β o g=.map (some b)/\s.V.ob o=some (g,.mapB tys ks cl)/\w.heap[b]?=some (.map es cl)/\es.size=ks.length/\GO es cl /\
   (∀(i:Nat) (k:Nat×D×D) (e:MapEntry),ks[i]?=some k->es[i]?=some e->Gt tys k.2.1=true/\Az w (c.bar β s.V) k.2.1 e.key/\Az w (c.bar β s.V) k.2.2 e.val/\e.born=k.1):=by
 have hob:=AL.get_some hg
 obtain⟨hlt,ho⟩:=h.objs _ _ _ hob
 cases hm with|map _ _ _ _ =>
 generalize hv:β o g=um at *
 cases ho with|mapB _ _ _ b es hb hl hr hent=>exact⟨b,es,rfl,rfl,hob,hb,hl,hr,hent⟩
theorem MJ (h:Br E c β s tm w) {o g:Nat}{tys:HS}{ks ks':List (Nat×D×D)}{cl cl' b:Nat}{es es':Array MapEntry}(hβ:β o g=.map (some b)) (hob:s.V.ob o=some (g,.mapB tys ks cl)) (hb:w.heap[b]?=some (.map es cl))
  (hl':es'.size=ks'.length) (hr':GO es' cl') (hent':∀(i:Nat) (k:Nat×D×D) (e:MapEntry),ks'[i]?=some k->es'[i]?=some e->Gt tys k.2.1=true/\Az w (c.bar β s.V) k.2.1 e.key/\Az w (c.bar β s.V) k.2.2 e.val/\e.born=k.1) :
  Br E c β ⟨s.sl,s.V.app (.keep o g (.mapB tys ks' cl'))⟩ tm (World.setObjAt w b (.map es' cl')):=by
 have hlt:b<w.heap.size:=(Array.getElem?_eq_some_iff.1 hb).1
 have hst:Ah (c.bar β s.V) w (World.setObjAt w b (.map es' cl')):=fun k hk hlt=>by
  have:=IT (w:=w) (b:=b) (o:=.map es' cl')
  refine this.block k hlt fun he=>hk (.inr ⟨o,g,_,hob,by rw[hβ];exact he⟩)
 refine h.kept hob (by rw[hβ];exact IT) fun fb' hf hfe=>?_
 rw[hβ]
 refine .mapB tys ks' cl' b es' (Td hlt) hl' hr' fun i k e h1 h2=>?_
 obtain⟨a1,a2,a3,a4⟩:=hent' i k e h1 h2
 exact⟨a1,a2.mono hst hf,a3.mono hst hf,a4⟩
theorem WB {es:Array MapEntry}{cl:Nat}(h:GO es cl) (k v:Value):GO (es.push ⟨k,v,cl⟩) (cl+1):=by
 refine⟨fun i e he=>?_,fun i j e e' hi hj hij=>?_⟩
 ·rw[Array.getElem?_push] at he
  split at he
  ·simp at he;subst he;exact Nat.lt_succ_self _
  ·exact Nat.lt_succ_of_lt (h.1 i e he)
 ·rw[Array.getElem?_push] at hi hj
  split at hi
  ·rename_i hie
   split at hj
   ·omega
   ·have:=(Array.getElem?_eq_some_iff.1 hj).1;omega
  ·split at hj
   ·simp at hj;subst hj;exact h.1 i e hi
   ·exact h.2 i j e e' hi hj hij
theorem Sy {es:Array MapEntry}{cl j:Nat}(h:GO es cl) (k v:Value):GO (es.modify j fun e=>{ e with key:=k,val:=v }) cl:=by
 have key:∀(i:Nat) e,(es.modify j fun e=>{ e with key:=k,val:=v })[i]?=some e->∃e0,es[i]?=some e0/\e0.born=e.born:=fun i e he=>by
  rw[Array.getElem?_modify] at he
  split at he
  ·simp only[Option.map_eq_some_iff] at he
   obtain⟨e0,h0,rfl⟩:=he
   exact⟨e0,h0,rfl⟩
  ·exact⟨e,he,rfl⟩
 refine⟨fun i e he=>?_,fun i q e e' hi hq hiq=>?_⟩
 ·obtain⟨e0,h0,h1⟩:=key i e he
  rw[←h1];exact h.1 i e0 h0
 ·obtain⟨e0,h0,h1⟩:=key i e hi
  obtain⟨e1,h2,h3⟩:=key q e' hq
  rw[←h1,←h3];exact h.2 i q e0 e1 h0 h2 hiq
theorem Ke {es:Array MapEntry}{j i:Nat}:(es.eraseIdxIfInBounds j)[i]?=if i<j then es[i]? else if j<es.size then es[i+1]? else es[i]?:=by
 unfold Array.eraseIdxIfInBounds
 split
 ·rename_i hj
  rw[←Array.getElem?_toList,Array.toList_eraseIdx,List.getElem?_eraseIdx]
  split<;>simp[hj]
 ·rename_i hj
  simp
theorem Uq {es:Array MapEntry}{cl j:Nat}(h:GO es cl):GO (es.eraseIdxIfInBounds j) cl:=by
 have key:∀(i:Nat) e,(es.eraseIdxIfInBounds j)[i]?=some e->∃q,es[q]?=some e/\((i<j/\q=i)\/(j<=i/\j<es.size/\q=i+1)\/(j<=i/\¬j<es.size/\q=i)):=fun i e he=>by
  rw[Ke] at he
  split at he
  ·exact⟨i,he,by omega⟩
  ·split at he
   ·exact⟨i+1,he,by omega⟩
   ·exact⟨i,he,by omega⟩
 refine⟨fun i e he=>?_,fun i q e e' hi hq hiq=>?_⟩
 ·obtain⟨p,h0,_⟩:=key i e he
  exact h.1 p e h0
 ·obtain⟨p,h0,h1⟩:=key i e hi
  obtain⟨r,h2,h3⟩:=key q e' hq
  exact h.2 p r e e' h0 h2 (by omega)
theorem Uf (h:Br E c β s tm w) {t kt e:TypeId}{tys:HS}(ht:E.P.underlying t=some (.map kt e)) (hk:Ch E.P kt=some tys)
  {m key val:AV}{um uk uv:Value}{dst:Option Nat}(hm:AM w (c.bar β s.V) β s.V.cn m um) (hkey:AM w (c.bar β s.V) β s.V.cn key uk) (hval:AM w (c.bar β s.V) β s.V.cn val uv) (he:ev E dst s.V (.mapupd tys) [m,key,val] K) :
  iH E c s tm K ((Instr.mapUpdate t um uk uv).run E.P w):=by
 unfold ev at he
 simp only at he
 split at he
 ·rename_i o g key' val' heq
  simp only[List.cons.injEq,and_true] at heq;obtain⟨rfl,rfl,rfl⟩:=heq
  split at he
  ·rename_i tys' kvs k v hg hd hdv
   obtain⟨rfl,hty,he⟩:=he
   obtain⟨b,es,rfl,hβ,hob,hb,hl,hent⟩:=MI h hg hm
   have hkr:=(CD hkey hd).1
   have hvr:=(CD hval hdv).1
   have hE:TI w (c.bar β s.V) tys kvs es.toList:=⟨by rw[Array.length_toList];exact hl,fun i kv e h1 h2=>by
    obtain⟨a1,a2,a3,_⟩:=hent i kv e h1 (by simpa using h2)
    exact⟨a1,a2,a3⟩⟩
   rw[V4] at he
   have hfind:=F3 hk hty hkr hE
   cases hi:D6 k kvs with
   |none =>
    simp only[hi] at he
    refine⟨_,_,β,?_,he,LU h hβ hob hb (es':=es.push ⟨uk,uv,kvs.length⟩) (by simp[hl]) ?_⟩
    ·simp only[Instr.mapUpdate,Sem.run_bind,run_underlying ht,Result.andThen_ok,Bz hb,Ck hk hty hkr _ 9998,hfind,DZ,hi,Option.bind_none,C3 hb,List.length_append,List.length_cons,List.length_nil]
    ·intro i kv e h1 h2
     rw[Array.getElem?_push] at h2
     split at h2
     ·rename_i hi'
      simp at h2;subst h2
      rw[hi',hl] at h1
      simp at h1;subst h1
      exact⟨hty,hkr,hvr,by simp only;omega⟩
     ·have hlt:i<es.size:=(Array.getElem?_eq_some_iff.1 h2).1
      rw[List.getElem?_append_left (by omega)] at h1
      exact hent i kv e h1 h2
   |some j =>
    have hj:=MN hi
    have hkj:kvs[j]?=some kvs[j]:=List.getElem?_eq_getElem hj
    have hej:es[j]?=some es[j]:=Array.getElem?_eq_getElem (by omega)
    have hej':es.toList[j]?=some es[j]:=by rw[Array.getElem?_toList];exact hej
    simp only[hi,hkj] at he
    obtain⟨b1,b2,b3,b4⟩:=hent j _ _ hkj hej
    have hstay:=Jq (P:=E.P) b1 hty b2 hkr (MO hi hkj)
    have hlen:(kvs.set j (kvs[j].1,v)).length=kvs.length:=by simp
    refine⟨_,_,β,?_,he,LU h hβ hob hb (es':=es.modify j fun e=>{ e with key:=uk,val:=uv }) (by simp[hl]) ?_⟩
    ·rw[hlen]
     simp only[Instr.mapUpdate,Sem.run_bind,run_underlying ht,Result.andThen_ok,Bz hb,Ck hk hty hkr _ 9998,hfind,DZ,hi,Option.bind_some,hej',Option.map_some,Nat.zero_add,hej,Option.getD_some,hstay,C3 hb]
    ·intro i kv e h1 h2
     rw[Array.getElem?_modify] at h2
     by_cases hij:j=i
     ·subst hij
      rw[if_pos rfl,hej] at h2
      simp at h2;subst h2
      simp[hj] at h1;subst h1
      refine⟨b1,?_,hvr,b4⟩
      rw[←WY b1 hty (MO hi hkj)];exact hkr
     ·rw[if_neg hij] at h2
      rw[List.getElem?_set_ne hij] at h1
      exact hent i kv e h1 h2
  ·rename_i tys' ks cl k v hg hd hdv
   obtain⟨rfl,hty,he⟩:=he
   obtain⟨b,es,rfl,hβ,hob,hb,hl,hrs,hent⟩:=NO h hg hm
   have hkr:=(CD hkey hd).1
   have hvr:=(CD hval hdv).1
   have hfind:=F3 hk hty hkr (Yy hl hent)
   cases hi:D6 k (ks.map (·.2)) with
   |none =>
    simp only[hi] at he
    refine⟨_,_,β,?_,he,MJ h hβ hob hb (es':=es.push ⟨uk,uv,cl⟩) (by simp[hl]) (WB hrs _ _) ?_⟩
    ·simp only[Instr.mapUpdate,Sem.run_bind,run_underlying ht,Result.andThen_ok,Bz hb,Ck hk hty hkr _ 9998,hfind,DZ,hi,Option.bind_none,C3 hb]
    ·intro i kv e h1 h2
     rw[Array.getElem?_push] at h2
     split at h2
     ·rename_i hi'
      simp at h2;subst h2
      rw[hi',hl] at h1
      simp at h1;subst h1
      exact⟨hty,hkr,hvr,rfl⟩
     ·have hlt:i<es.size:=(Array.getElem?_eq_some_iff.1 h2).1
      rw[List.getElem?_append_left (by omega)] at h1
      exact hent i kv e h1 h2
   |some j =>
    have hj:=MN hi
    rw[List.length_map] at hj
    have hkj:ks[j]?=some ks[j]:=List.getElem?_eq_getElem hj
    have hkj':(ks.map (·.2))[j]?=some ks[j].2:=by rw[List.getElem?_map,hkj];rfl
    have hej:es[j]?=some es[j]:=Array.getElem?_eq_getElem (by omega)
    have hej':es.toList[j]?=some es[j]:=by rw[Array.getElem?_toList];exact hej
    simp only[hi,hkj] at he
    obtain⟨b1,b2,b3,b4⟩:=hent j _ _ hkj hej
    have hstay:=Jq (P:=E.P) b1 hty b2 hkr (MO hi hkj')
    refine⟨_,_,β,?_,he,MJ h hβ hob hb (es':=es.modify j fun e=>{ e with key:=uk,val:=uv }) (by simp[hl]) (Sy hrs _ _) ?_⟩
    ·simp only[Instr.mapUpdate,Sem.run_bind,run_underlying ht,Result.andThen_ok,Bz hb,Ck hk hty hkr _ 9998,hfind,DZ,hi,Option.bind_some,hej',Option.map_some,Nat.zero_add,hej,Option.getD_some,hstay,C3 hb]
    ·intro i kv e h1 h2
     rw[Array.getElem?_modify] at h2
     by_cases hij:j=i
     ·subst hij
      rw[if_pos rfl,hej] at h2
      simp at h2;subst h2
      simp[hj] at h1;subst h1
      exact⟨hty,hkr,hvr,b4⟩
     ·rw[if_neg hij] at h2
      rw[List.getElem?_set_ne hij] at h1
      exact hent i kv e h1 h2
  ·exact he.elim
 ·exact he.elim
theorem Uk (h:Br E c β s tm w) {t ta kt e:TypeId}{tys:HS}(ht:E.P.underlying t=some (.map kt e)) (hk:Ch E.P kt=some tys) {ty:TypeId}
  {m key:AV}{um uk:Value}{dst:Option Nat}(hm:AM w (c.bar β s.V) β s.V.cn m um) (hkey:AM w (c.bar β s.V) β s.V.cn key uk) (he:ev E dst s.V (.delete tys) [m,key] K) {ats:Array TypeId}(hats:ats[0]?=some t) :
  GF E c s tm K ((Builtin.delete_ ats ty #[um,uk]).run E.P w):=by
 unfold ev at he
 simp only at he
 split at he
 ·rename_i o g key' heq
  simp only[List.cons.injEq,and_true] at heq;obtain⟨rfl,rfl⟩:=heq
  split at he
  ·rename_i tys' ks cl k hg hd
   obtain⟨rfl,hty,he⟩:=he
   obtain⟨b,es,rfl,hβ,hob,hb,hl,hrs,hent⟩:=NO h hg hm
   have hkr:=(CD hkey hd).1
   have hfind:=F3 hk hty hkr (Yy hl hent)
   have hck:=fun bb=>Ck (w:=w) hk hty hkr bb 9998
   cases hi:D6 k (ks.map (·.2)) with
   |none =>
    simp only[hi] at he
    refine⟨_,_,_,_,β,?_,he,MJ h hβ hob hb (es':=es) hl hrs hent,.tup [] #[] rfl fun i c v h1=>by simp at h1⟩
    simp only[Builtin.delete_,hats,Sem.run_bind,run_underlying ht,Result.andThen_ok,Bz hb,hck,hfind,DZ,hi,Option.bind_none,C3 hb,Sem.run_pure,List.getElem?_toArray,List.getElem?_cons_zero,List.getElem?_cons_succ]
   |some j =>
    have hj:=MN hi
    rw[List.length_map] at hj
    have hkj:ks[j]?=some ks[j]:=List.getElem?_eq_getElem hj
    have hej:es[j]?=some es[j]:=Array.getElem?_eq_getElem (by omega)
    have hej':es.toList[j]?=some es[j]:=by rw[Array.getElem?_toList];exact hej
    simp only[hi] at he
    refine⟨_,_,_,_,β,?_,he,MJ h hβ hob hb (es':=es.eraseIdxIfInBounds j) ?_ (Uq hrs) ?_,.tup [] #[] rfl fun i c v h1=>by simp at h1⟩
    ·simp only[Builtin.delete_,hats,Sem.run_bind,run_underlying ht,Result.andThen_ok,Bz hb,hck,hfind,DZ,hi,Option.bind_some,hej',Option.map_some,Nat.zero_add,C3 hb,Sem.run_pure,List.getElem?_toArray,List.getElem?_cons_zero,List.getElem?_cons_succ]
    ·rw[List.length_eraseIdx,if_pos hj]
     unfold Array.eraseIdxIfInBounds
     rw[dif_pos (by omega),Array.size_eraseIdx,hl]
    ·intro i kv e h1 h2
     rw[Ke,if_pos (show j<es.size by omega)] at h2
     rw[List.getElem?_eraseIdx] at h1
     split at h1
     ·rename_i hlt;rw[if_pos hlt] at h2;exact hent i kv e h1 h2
     ·rename_i hlt;rw[if_neg hlt] at h2;exact hent (i+1) kv e h1 h2
  ·exact he.elim
 ·exact he.elim
theorem Ug (h:Br E c β s tm w) {t kt e:TypeId}{tys:HS}{z:D}(ht:E.P.underlying t=some (.map kt e)) (hk:Ch E.P kt=some tys) (hz:Fj E.P e=some z) (hz1:z.one=true)
  {m key:AV}{um uk:Value}{dst:Option Nat}(hm:AM w (c.bar β s.V) β s.V.cn m um) (hkey:AM w (c.bar β s.V) β s.V.cn key uk) (he:ev E dst s.V (.mapent tys z) [m,key] K) :
  GF E c s tm K ((Instr.mapEntry t um uk).run E.P w):=by
 obtain⟨zv,hzv,hzr⟩:=TL (w:=w) (fb:=c.bar β s.V) hz
 have fin:∀{w':World}{fb:Nat->Prop}{β':Nat->Nat->Value}{cn:Nat->Nat}(v:Value) (n:Nat),n<=maxLen->AM w' fb β' cn (.tup [.undef,.d (.int .i64 n)]) (.tuple #[v,goInt n]):=by
  intro w' fb β' cn v n hn
  refine .tup _ _ rfl fun i c v' hc hv=>?_
  match i with
  |0=>simp at hc hv;subst hc hv;exact .undef _
  |1=>simp at hc hv;subst hc hv;exact .d _ _ (.int _ _ (by simp only[K4,maxLen] at *;simp[IntKind.min,IntKind.max,IntKind.signed,IntKind.bits];omega))
  |i+2=>simp at hc
 unfold ev at he
 simp only at he
 split at he
 ·rename_i o g key' heq
  simp only[List.cons.injEq,and_true] at heq;obtain⟨rfl,rfl⟩:=heq
  split at he
  ·rename_i tys' kvs k hg hd
   obtain⟨rfl,hty,hsz,he⟩:=he
   obtain⟨b,es,rfl,hβ,hob,hb,hl,hent⟩:=MI h hg hm
   have hkr:=(CD hkey hd).1
   have hE:TI w (c.bar β s.V) tys kvs es.toList:=⟨by rw[Array.length_toList];exact hl,fun i kv e h1 h2=>by
    obtain⟨a1,a2,a3,_⟩:=hent i kv e h1 (by simpa using h2)
    exact⟨a1,a2,a3⟩⟩
   have hfind:=F3 hk hty hkr hE
   cases hi:D6 k kvs with
   |none =>
    simp only[hi] at he
    refine⟨_,_,_,_,β,?_,he,LU h hβ hob hb (es':=es.push ⟨uk,zv,kvs.length⟩) (by simp[hl]) ?_,fin zv kvs.length (by unfold maxLen;unfold C1 at hsz;omega)⟩
    ·simp only[Instr.mapEntry,Sem.run_bind,run_underlying ht,Result.andThen_ok,Bz hb,Ck hk hty hkr _ 9998,hfind,DZ,hi,Option.bind_none,C3 hb,List.length_append,List.length_cons,List.length_nil,hzv,Sem.run_pure]
    ·intro i kv e h1 h2
     rw[Array.getElem?_push] at h2
     split at h2
     ·rename_i hi'
      simp at h2;subst h2
      rw[hi',hl] at h1
      simp at h1;subst h1
      exact⟨hty,hkr,hzr,by simp only;omega⟩
     ·have hlt:i<es.size:=(Array.getElem?_eq_some_iff.1 h2).1
      rw[List.getElem?_append_left (by omega)] at h1
      exact hent i kv e h1 h2
   |some j =>
    have hj:=MN hi
    have hkj:kvs[j]?=some kvs[j]:=List.getElem?_eq_getElem hj
    have hej:es[j]?=some es[j]:=Array.getElem?_eq_getElem (by omega)
    have hej':es.toList[j]?=some es[j]:=by rw[Array.getElem?_toList];exact hej
    simp only[hi] at he
    obtain⟨b1,b2,b3,b4⟩:=hent j _ _ hkj hej
    have hstay:=Jq (P:=E.P) b1 hty b2 hkr (MO hi hkj)
    have hrel:=LU h hβ hob hb (kvs':=kvs) (es':=es.modify j fun e=>{ e with key:=uk }) (by simp[hl]) (fun i kv e h1 h2=>by
     rw[Array.getElem?_modify] at h2
     by_cases hij:j=i
     ·subst hij
      rw[if_pos rfl,hej] at h2
      simp at h2;subst h2
      rw[hkj] at h1;simp at h1;subst h1
      exact⟨b1,by rw[←WY b1 hty (MO hi hkj)];exact hkr,b3,b4⟩
     ·rw[if_neg hij] at h2
      exact hent i kv e h1 h2)
    have hV:s.V.app (.keep o g (.map tys kvs))=s.V:=by
     simp only[AL.app]
     have:CO s.V.ob o (some (g,AW.map tys kvs))=s.V.ob:=by
      funext q;simp only[CO];split
      ·rename_i hq;rw[hq,hob]
      ·rfl
     rw[this]
    rw[hV] at hrel
    refine⟨_,_,_,.none,β,?_,he,hrel,fin es[j].val j (by unfold maxLen;unfold C1 at hsz;omega)⟩
    simp only[Instr.mapEntry,Sem.run_bind,run_underlying ht,Result.andThen_ok,Bz hb,Ck hk hty hkr _ 9998,hfind,DZ,hi,Option.bind_some,hej',Option.map_some,Nat.zero_add,hej,Option.getD_some,hstay,C3 hb,Sem.run_pure,b4]
  ·exact he.elim
 ·exact he.elim
theorem Vv (h:Br E c β s tm w) {t:TypeId}
  {m st val:AV}{um us uv:Value}{dst:Option Nat}(hm:AM w (c.bar β s.V) β s.V.cn m um) (hst:AM w (c.bar β s.V) β s.V.cn st us) (hval:AM w (c.bar β s.V) β s.V.cn val uv) (he:ev E dst s.V .entst [m,st,val] K) :
  iH E c s tm K ((Instr.entryStore t um us uv).run E.P w):=by
 unfold ev at he
 simp only at he
 split at he
 ·rename_i o g k i val' heq
  simp only[List.cons.injEq,and_true] at heq;obtain⟨rfl,rfl,rfl⟩:=heq
  split at he
  ·rename_i tys kvs v hg hdv
   obtain⟨h0,hv1,he⟩:=he
   split at he
   ·rename_i kv hkv
    obtain⟨rfl,_⟩:=Bl hst
    obtain⟨b,es,rfl,hβ,hob,hb,hl,hent⟩:=MI h hg hm
    have hvr:=(CD hval hdv).1
    have hj:i.toNat<kvs.length:=(List.getElem?_eq_some_iff.1 hkv).1
    have hfind:es.findIdx? (fun e=>(e.born:Int) == i)=some i.toNat:=by
     rw[Array.findIdx?_eq_some_iff_getElem]
     refine⟨by omega,?_,fun q hq=>?_⟩
     ·have:=(hent i.toNat kv _ hkv (Array.getElem?_eq_getElem (by omega))).2.2.2
      rw[this];simp;omega
     ·have:=(hent q kvs[q] _ (List.getElem?_eq_getElem (by omega)) (Array.getElem?_eq_getElem (by omega))).2.2.2
      rw[this];simp;omega
    have hlen:(kvs.set i.toNat (kv.1,v)).length=kvs.length:=by simp
    refine⟨_,_,β,?_,he,LU h hβ hob hb (es':=es.modify i.toNat fun e=>{ e with val:=uv }) (by simp[hl]) ?_⟩
    ·rw[hlen]
     simp only[Instr.entryStore,Sem.run_bind,Sem.run_pure,Bz hb,asInt,asIntOf,Result.andThen_ok,hfind,C3 hb]
    ·intro q kv' e h1 h2
     rw[Array.getElem?_modify] at h2
     by_cases hij:i.toNat=q
     ·subst hij
      have hej:es[i.toNat]?=some es[i.toNat]:=Array.getElem?_eq_getElem (by omega)
      obtain⟨b1,b2,b3,b4⟩:=hent _ _ _ hkv hej
      rw[if_pos rfl,hej] at h2
      simp at h2;subst h2
      simp[hj] at h1;subst h1
      exact⟨b1,b2,hvr,b4⟩
     ·rw[if_neg hij] at h2
      rw[List.getElem?_set_ne hij] at h1
      exact hent q kv' e h1 h2
   ·exact he.elim
  ·exact he.elim
 ·exact he.elim
end
end Go.Pw
end
section
namespace Go.Pw
open Go.RowKit
section
variable {E:CW}{c:D_}{β:Nat->Nat->Value}{s:Bg}{tm:Array Value}{w:World}{K:AV->B3->Prop}
theorem CJ (w:World) (o:Obj):Below w.heap.size w (w.alloc o):=(Below.refl _ _).alloc (Nat.le_refl _) o
theorem Nj (w:World):Below w.heap.size w w.drew:=(Below.refl _ _).drew
theorem Ja (w:World) (o:Obj):Below w.heap.size w (w.drew.alloc o):=((Below.refl _ _).drew).alloc (Nat.le_refl _) o
theorem Gk {v:Value}(h:v.oneCell'=true):v.cells=#[v]:=by cases v<;>first|rfl|simp[Value.oneCell'] at h
theorem J5 {fb β' cn} {x:AV}{u:Value}{cs:List AV}(h:AM w fb β' cn x u) (hc:x.cells?=some cs):CN (AM w fb β' cn) cs u.cells/\∀y,y∈cs->y.one=true:=by
 have one:∀{y:AV},AM w fb β' cn y u->y.one=true->CN (AM w fb β' cn) [y] u.cells/\∀z,z∈[y]->z.one=true:=by
  intro y hy h1
  rw[Gk (hy.oneCell h1)]
  refine⟨⟨rfl,fun i c v hc hv=>?_⟩,by simpa using h1⟩
  match i with
  |0=>simp at hc hv;subst hc hv;exact hy
  |i+1=>simp at hc
 have dcase:∀ds:List D,x=.d (.agg ds)->CN (AM w fb β' cn) (ds.map .d) u.cells/\∀y,y∈ds.map AV.d->y.one=true:=by
  intro ds hx
  subst hx
  obtain⟨vs,rfl,h2,h3⟩:=SS h
  refine⟨⟨by simpa[Value.cells] using h2.1,fun i c v hc hv=>?_⟩,by simpa[AV.one] using h3⟩
  rw[List.getElem?_map] at hc
  cases hd:ds[i]? with
  |none=>simp[hd] at hc
  |some d=>simp[hd] at hc;subst hc;exact .d _ _ (h2.2 i d v hd hv)
 cases x with
 |agg cs' =>
  simp[AV.cells?] at hc;subst hc
  obtain⟨vs,rfl,h2,h3⟩:=O1 h
  exact⟨h2,h3⟩
 |d y =>
  cases y<;>simp[AV.cells?] at hc<;>subst hc<;>first|exact dcase _ rfl|exact one h rfl
 |tup=>simp[AV.cells?] at hc
 |undef=>simp[AV.cells?] at hc
 |_=>simp[AV.cells?] at hc;subst hc;exact one h rfl
theorem QX (h:Br E c β s tm w) {t:Nat}(hlim:t<C_) {cs:List AV}{cur:Array Value}{e:TypeId}(hR:CN (AM w (c.bar β s.V) β s.V.cn) cs cur) (h1:∀y,y∈cs->y.one=true) :
  ∃β',Br E c β' ⟨s.sl,s.V.app (.fresh t (.cells cs))⟩ tm (w.alloc (.cells cur e)) /\
   AM (w.alloc (.cells cur e)) (c.bar β' (s.V.app (.fresh t (.cells cs)))) β' (s.V.app (.fresh t (.cells cs))).cn (.ptr t (s.V.cn t) 0) (.pointer (some ⟨w.heap.size,0,none⟩)):=by
 refine⟨ER β t (s.V.cn t) (.pointer (some ⟨w.heap.size,0,none⟩)),h.fresh hlim (.of_below _ (CJ w _)) (fun b hb=>?_) (fun β' fb' hβ' hfe hf=>?_),.ptr _ _ _ w.heap.size (FQ _ _ _) (Bj _ _ _ _)⟩
 ·simp[C8,BX] at hb;subst hb;exact⟨by simp,.inl (Nat.le_refl _)⟩
 ·refine .cells cs w.heap.size cur e (heap_alloc_new w _) hR.1 h1 fun i x u hx hu=>?_
  refine(hR.2 i x u hx hu).mono (.of_below (CJ w _)) hf (fun o g hg=>?_) (fun k=>?_)
  ·rw[hβ'];exact Eo o g hg
  ·simp only[AL.app,CO];split<;>simp_all
theorem aP (h:Br E c β s tm w) {t:Nat}{x:AV}{u:Value}{e:TypeId}(hx:AM w (c.bar β s.V) β s.V.cn x u) (he:ev E (some t) s.V .box [x] K) :
  GF E c s tm K ((Instr.box e u).run E.P w):=by
 unfold ev at he
 simp only at he
 split at he
 ·rename_i cs hc
  obtain⟨h3,h4⟩:=J5 hx hc
  obtain⟨β',h5,h6⟩:=QX h (t:=t) he.1 (e:=e) h3 h4
  exact⟨_,_,_,_,β',by simp[Instr.box,newVar,newRow],he.2,h5,h6⟩
 ·exact he.elim
theorem RV {t:TypeId}{z:List D}(h:Hf E.P t=some z):∃v,(zeroValue t).run E.P w=.ok v w/\∀fb,CN (Az w fb) z v.cells/\∀y,y∈z->y.one=true:=by
 unfold Hf at h
 cases hi:E.P.info? t with
 |none=>simp[hi] at h
 |some i =>
  simp only[hi,Option.bind_some] at h
  split at h
  ·rename_i v hz
   refine⟨v,by simp[zeroValue,typeInfo,hi,hz],fun fb=>⟨⟨by rw[Aw h];simp,fun i y u hy hu=>?_⟩,fun y hy=>?_⟩⟩
   ·obtain⟨x,hx,hxy⟩:=Bi h hy
    have:x=u:=by simpa[Array.getElem?_toList,hu] using hx.symm
    subst this
    exact Hy hxy
   ·obtain⟨x,_,hx⟩:=EL h hy
    unfold Oh at hx
    split at hx<;>(try split at hx)<;>simp at hx<;>subst hx<;>rfl
  ·cases h
theorem SY {fb β' cn} {l:List D}{vs:Array Value}(h:CN (Az w fb) l vs):CN (AM w fb β' cn) (l.map .d) vs:=by
 refine⟨by simpa using h.1,fun i c v hc hv=>?_⟩
 rw[List.getElem?_map] at hc
 cases hd:l[i]? with
 |none=>simp[hd] at hc
 |some d=>simp[hd] at hc;subst hc;exact .d _ _ (h.2 i d v hd hv)
theorem Xj (h:Br E c β s tm w) {t:Nat}{e:TypeId}{z:List D}(hz:Hf E.P e=some z) (he:ev E (some t) s.V (.zero z) [] K) :
  GF E c s tm K ((Instr.alloc e true (.tuple #[])).run E.P w):=by
 unfold ev at he
 simp only at he
 obtain⟨v,hv,hr⟩:=RV (w:=w) hz
 obtain⟨hr,h1⟩:=hr (c.bar β s.V)
 obtain⟨β',h5,h6⟩:=QX h (t:=t) he.1 (e:=e) (SY hr) (by simpa[AV.one] using h1)
 exact⟨_,_,_,_,β',by simp[Instr.alloc,hv,newVar,newRow],he.2,h5,h6⟩
theorem Vq (h:Br E c β s tm w) {t:Nat}{e:TypeId}{tys:HS}(he:ev E (some t) s.V (.mkmap tys) [] K) :
  GF E c s tm K ((Instr.makeMap e none).run E.P w):=by
 unfold ev at he
 simp only at he
 refine⟨_,_,_,_,ER β t (s.V.cn t) (.map (some w.heap.size)),run_makeMap _ _,he.2,h.fresh he.1 (.of_below _ (CJ w _)) (fun b hb=>?_) (fun β' fb' hβ' hfe hf=>?_),AM.map_new rfl (FQ _ _ _)⟩
 ·simp[C8,BX] at hb;subst hb;exact⟨by simp,.inl (Nat.le_refl _)⟩
 ·exact .map tys [] w.heap.size #[] (heap_alloc_new w _) rfl fun i kv e h1=>by simp at h1
theorem Ud (h:Br E c β s tm w) {t:Nat}{e:TypeId}{tys:HS}(he:ev E (some t) s.V (.mkmapB tys) [] K) :
  GF E c s tm K ((Instr.makeMap e none).run E.P w):=by
 unfold ev at he
 simp only at he
 refine⟨_,_,_,_,ER β t (s.V.cn t) (.map (some w.heap.size)),run_makeMap _ _,he.2,h.fresh he.1 (.of_below _ (CJ w _)) (fun b hb=>?_) (fun β' fb' hβ' hfe hf=>?_),AM.map_new rfl (FQ _ _ _)⟩
 ·simp[C8,BX] at hb;subst hb;exact⟨by simp,.inl (Nat.le_refl _)⟩
 ·exact .mapB tys [] 0 w.heap.size #[] (heap_alloc_new w _) rfl ⟨fun i e he=>by simp at he,fun i j e e' he=>by simp at he⟩ fun i kv e h1=>by simp at h1
theorem NR (h:Br E c β s tm w) {o g:Nat}{ob:AW}{es0:List (Nat×D×D)}{cl:Nat}{um:Value}(hg:s.V.get o g=some ob) (hob:ob.ents=some (es0,cl)) (hm:AM w (c.bar β s.V) β s.V.cn (.map o g) um) :
  ∃b es,um=.map (some b)/\β o g=.map (some b)/\w.heap[b]?=some (.map es cl)/\es.size=es0.length/\GO es cl /\
   (∀(i:Nat) (k:Nat×D×D) (e:MapEntry),es0[i]?=some k->es[i]?=some e->Az w (c.bar β s.V) k.2.1 e.key/\Az w (c.bar β s.V) k.2.2 e.val/\e.born=k.1):=by
 cases ob with
 |map tys kvs =>
  simp only[AW.ents,Option.some.injEq,Prod.mk.injEq] at hob
  obtain⟨rfl,rfl⟩:=hob
  obtain⟨b,es,h1,h2,h3,h4,h5,h6⟩:=MI h hg hm
  have ent:∀(i:Nat) e,es[i]?=some e->i<kvs.length/\e.born=i:=fun i e he=>by
   have hi:i<kvs.length:=by rw[←h5];exact(Array.getElem?_eq_some_iff.1 he).1
   exact⟨hi,(h6 i _ e (List.getElem?_eq_getElem hi) he).2.2.2⟩
  refine⟨b,es,h1,h2,h4,by simp[h5],⟨fun i e he=>by have:=ent i e he;omega,fun i j e e' k1 k2 hij=>by have:=ent i e k1;have:=ent j e' k2;omega⟩,fun i k e k1 k2=>?_⟩
  rw[List.getElem?_map] at k1
  simp only[Option.map_eq_some_iff] at k1
  obtain⟨⟨kv,q⟩,k3,rfl⟩:=k1
  rw[List.getElem?_zipIdx] at k3
  simp only[Option.map_eq_some_iff,Prod.mk.injEq] at k3
  obtain⟨a,k4,rfl,rfl⟩:=k3
  obtain⟨a1,a2,a3,a4⟩:=h6 i a e k4 k2
  exact⟨a2,a3,by simpa using a4⟩
 |mapB tys ks cl' =>
  simp only[AW.ents,Option.some.injEq,Prod.mk.injEq] at hob
  obtain⟨rfl,rfl⟩:=hob
  obtain⟨b,es,h1,h2,h3,h4,h5,h6,h7⟩:=NO h hg hm
  exact⟨b,es,h1,h2,h4,h5,h6,fun i k e k1 k2=>(h7 i k e k1 k2).2⟩
 |_=>simp[AW.ents] at hob
theorem Ub (h:Br E c β s tm w) {t:Nat}{ty kt et:TypeId}(ht:E.P.underlying ty=some (.map kt et)) {x:AV}{u:Value}(hx:AM w (c.bar β s.V) β s.V.cn x u) (he:ev E (some t) s.V .mrange [x] K) :
  GF E c s tm K ((Instr.range ty u).run E.P w):=by
 unfold ev at he
 simp only at he
 split at he
 ·rename_i t' o g heq1 heq2
  simp only[Option.some.injEq] at heq1;subst heq1
  simp only[List.cons.injEq,and_true] at heq2;subst heq2
  split at he
  ·rename_i ob hg
   split at he
   ·rename_i es0 cl hob
    obtain⟨hlt,hK⟩:=he
    obtain⟨b,es,rfl,hβ,hb,hl,hrs,hent⟩:=NR h hg hob hx
    have hgl:=(h.objs _ _ _ (AL.get_some hg)).1
    have hrun:(Instr.range ty (.map (some b))).run E.P w=.ok (.pointer (some ⟨w.heap.size,0,none⟩)) (w.alloc (.mapIter (some b) cl #[] cl)):=by
     simp[Instr.range,run_underlying ht,Bz hb,newObj,Sem.run]
    refine⟨_,_,_,_,ER β t (s.V.cn t) (.pointer (some ⟨w.heap.size,0,none⟩)),hrun,hK,h.fresh hlt (.of_below _ (CJ w (.mapIter (some b) cl #[] cl))) (fun q hq=>?_) (fun β' fb' hβ' hfe hf=>?_),?_⟩
    ·simp[C8,BX] at hq;subst hq;exact⟨by simp,.inl (Nat.le_refl _)⟩
    ·subst hβ'
     refine .mitO o g cl [] w.heap.size b ?_ ?_ (heap_alloc_new w _)
     ·show g<CO s.V.cn t (s.V.cn t+1) o
      simp only[CO];split
      ·rename_i e;subst e;omega
      ·exact hgl
     ·rw[Eo o g hgl];exact hβ
    ·exact .ptr t _ 0 _ (FQ _ _ _) (Bj _ _ _ _)
   ·exact he.elim
  ·exact he.elim
 ·rename_i t' tys kvs heq1 heq2
  simp only[Option.some.injEq] at heq1;subst heq1
  simp only[List.cons.injEq,and_true] at heq2;subst heq2
  obtain⟨hlt,hK⟩:=he
  cases hx with|d _ _ hx =>
  cases hx with|map _ _ b es cl hb hh hl hrs htk hkk hvv =>
  have hrun:(Instr.range ty (.map (some b))).run E.P w=.ok (.pointer (some ⟨w.heap.size,0,none⟩)) (w.alloc (.mapIter (some b) cl #[] cl)):=by
   simp[Instr.range,run_underlying ht,Bz hh,newObj,Sem.run]
  refine⟨_,_,_,_,ER β t (s.V.cn t) (.pointer (some ⟨w.heap.size,0,none⟩)),hrun,hK,h.fresh hlt (.of_below _ (CJ w (.mapIter (some b) cl #[] cl))) (fun q hq=>?_) (fun β' fb' hβ' hfe hf=>?_),?_⟩
  ·simp[C8,BX] at hq;subst hq;exact⟨by simp,.inl (Nat.le_refl _)⟩
  ·have hblt:b<w.heap.size:=(Array.getElem?_eq_some_iff.1 hh).1
   have hst:Ah (c.bar β s.V) w (w.alloc (.mapIter (some b) cl #[] cl)):=.of_below (CJ w _)
   exact .mitD tys kvs [] w.heap.size b es cl [] (fun hq=>hb (hf b hblt hq)) ((hst b hb hblt).trans hh) hl hrs (heap_alloc_new w _) rfl (fun q i hq=>by simp at hq) fun i kv e h1 h2=>⟨(hkk i kv e h1 h2).mono hst hf,(hvv i kv e h1 h2).mono hst hf⟩
  ·exact .ptr t _ 0 _ (FQ _ _ _) (Bj _ _ _ _)
 ·exact he.elim
theorem QN {es:Array MapEntry}{cl:Nat}(h:GO es cl):(es.toList.map (·.born)).Nodup:=by
 rw[List.Nodup,List.pairwise_iff_getElem]
 intro i j hi hj hij heq
 have hj':j<es.size:=by simpa using hj
 rw[List.getElem_map,List.getElem_map] at heq
 have:=h.2 i j _ _ (Array.getElem?_eq_getElem (by omega)) (Array.getElem?_eq_getElem hj') hij
 simp only[Array.getElem_toList] at heq
 omega
theorem Ue (h:Br E c β s tm w) {dst:Option Nat}{x:AV}{u:Value}(hx:AM w (c.bar β s.V) β s.V.cn x u) (he:ev E dst s.V .mentry [x] K) :
  GF E c s tm K ((Instr.entry u).run E.P w):=by
 have pair:∀{a b:D}{va vb:Value},Az w (c.bar β s.V) a va->Az w (c.bar β s.V) b vb->AM w (c.bar β s.V) β s.V.cn (.tup [.d a,.d b]) (.tuple #[va,vb]):=fun {a b va vb} ha hb =>
  .tup _ _ rfl fun i c v hc hv=>by
   match i with
   |0=>simp at hc hv;subst hc hv;exact .d _ _ ha
   |1=>simp at hc hv;subst hc hv;exact .d _ _ hb
   |i+2=>simp at hc
 unfold ev at he
 simp only at he
 split at he
 ·rename_i o g heq
  simp only[List.cons.injEq,and_true] at heq;subst heq
  split at he
  ·rename_i mo mg n seen hg
   split at he
   ·rename_i ob hmg
    split at he
    ·rename_i es0 cl hob
     obtain⟨rfl,he⟩:=he
     split at he
     ·rename_i b hlast
      split at he
      ·rename_i e0 hfind
       obtain⟨_,ho⟩:=h.objs _ _ _ (AL.get_some hg)
       cases hx with|ptr _ _ _ r hgl hβo =>
       rw[hβo] at ho
       cases ho with|mitO _ _ _ _ _ m hgm hβm hr =>
       obtain⟨m',es,hum,_,hb,hl,hrs,hent⟩:=NR h hmg hob (AM.map (w:=w) (fb:=c.bar β s.V) (β:=β) (cn:=s.V.cn) mo mg hgm (by rw[hβm];rfl))
       rw[hβm] at hum;simp at hum;subst hum
       obtain⟨hbe,i,hi,hget,_⟩:=List.find?_eq_some_iff_getElem.1 hfind
       have hbe':e0.1=b:=by simpa using hbe
       have hie:i<es.size:=by omega
       have hei:es[i]?=some es[i]:=Array.getElem?_eq_getElem hie
       obtain⟨a1,a2,a3⟩:=hent i e0 es[i] (by rw[List.getElem?_eq_getElem hi,hget]) hei
       have hsp:∃seen0:Array Nat,seen.toArray=seen0.push b:=by
        obtain⟨l,rfl⟩:=List.getLast?_eq_some_iff.1 hlast
        exact⟨l.toArray,by simp⟩
       obtain⟨seen0,hs0⟩:=hsp
       rw[hs0,←hbe',←a3] at hr
       have hrun:=run_entry_at (P:=E.P) w r m cl seen0 es cl es[i] hr hb (by simp) (QN hrs)
       exact CF h he hrun (pair a1 a2)
      ·exact he.elim
     ·exact he.elim
    ·exact he.elim
   ·exact he.elim
  ·rename_i tys kvs seen hg
   split at he
   ·rename_i i hlast
    split at he
    ·rename_i kv hkv
     obtain⟨_,ho⟩:=h.objs _ _ _ (AL.get_some hg)
     cases hx with|ptr _ _ _ r hgl hβo =>
     rw[hβo] at ho
     cases ho with|mitD _ _ _ _ m es cl sn hm hh hl hrs hr hsl hsn hent =>
     have hlk:i<kvs.length:=(List.getElem?_eq_some_iff.1 hkv).1
     have hei:es[i]?=some es[i]:=Array.getElem?_eq_getElem (by omega)
     obtain⟨a1,a2⟩:=hent i kv es[i] hkv hei
     have hsp:∃seen0:Array Nat,sn.toArray=seen0.push es[i].born:=by
      obtain⟨l,rfl⟩:=List.getLast?_eq_some_iff.1 hlast
      have hq:(l++[i])[l.length]?=some i:=by simp
      obtain⟨e,k1,k2⟩:=hsn l.length i hq
      rw[hei] at k1;simp at k1;subst k1
      have hsl':sn.length=l.length+1:=by simpa using hsl
      refine⟨(sn.take l.length).toArray,?_⟩
      have:sn=sn.take l.length++[es[i].born]:=by
       rw[←List.take_append_drop l.length sn]
       congr 1
       ·rw[List.take_append_drop]
       ·apply List.ext_getElem?
        intro p
        rw[List.getElem?_drop]
        cases p with
        |zero=>simpa using k2
        |succ p=>rw[List.getElem?_eq_none (by omega)];simp
      exact(congrArg List.toArray this).trans (by simp)
     obtain⟨seen0,hs0⟩:=hsp
     rw[hs0] at hr
     have hrun:=run_entry_at (P:=E.P) w r m cl seen0 es cl es[i] hr hh (by simp) (QN hrs)
     exact CF h he hrun (pair a1 a2)
    ·exact he.elim
   ·exact he.elim
  ·exact he.elim
 ·exact he.elim
theorem JV (h:Br E c β s tm w) {t:Nat}(hlim:t<C_) {ety es:Nat}{nl:Bool}{l:List D}{vo:Value}{w':World}(hw:Below w.heap.size w w') (h1:vo.oneCell'=true)
  (hb:∀b,C8 vo b->w.heap.size<=b/\b<w'.heap.size) (hr:∀fb',(∀b,b<w.heap.size->fb' b->c.bar β s.V b)->CM w' fb' ety es nl l vo) :
  ∃β',Br E c β' ⟨s.sl,s.V.app (.fresh t (.row ety es nl l))⟩ tm w'/\AM w' (c.bar β' (s.V.app (.fresh t (.row ety es nl l)))) β' (s.V.app (.fresh t (.row ety es nl l))).cn (.own t (s.V.cn t)) vo :=
 ⟨ER β t (s.V.cn t) vo,h.fresh hlim (.of_below _ hw) (fun b hbb=>⟨(hb b hbb).2,.inl (hb b hbb).1⟩) (fun β' fb' hβ' hfe hf=>.row _ _ _ _ _ (hr fb' hf)),AM.own_new h1 (FQ _ _ _)⟩
def B5 (l:List D):List D:=l.flatMap D.cells
theorem Gi {es:Nat}:∀{l:List D},C0 es l->∀{i j:Nat}{x c:D},l[i]?=some x->x.cells[j]?=some c->(B5 l)[i*es+j]?=some c
 |[],_,i,j,x,c,hi,_=>by simp at hi
 |y::l,hu,0,j,x,c,hi,hj=>by
  simp at hi;subst hi
  simp only[B5,List.flatMap_cons,Nat.zero_mul,Nat.zero_add]
  rw[List.getElem?_append_left (List.getElem?_eq_some_iff.1 hj).1];exact hj
 |y::l,hu,i+1,j,x,c,hi,hj=>by
  simp at hi
  have:=Gi (l:=l) (fun z hz=>hu z (by simp[hz])) hi hj
  have hy:=hu y (by simp)
  simp only[B5,List.flatMap_cons] at this ⊢
  rw[List.getElem?_append_right (by rw[hy,Nat.add_mul];omega),hy,show (i+1)*es+j-es=i*es+j by rw[Nat.add_mul];omega]
  exact this
theorem B6 {es:Nat}:∀{l:List D},C0 es l->(B5 l).length=l.length*es
 |[],_=>by simp[B5]
 |y::l,hu=>by
  have:=B6 (l:=l) (fun z hz=>hu z (by simp[hz]))
  have hy:=hu y (by simp)
  simp only[B5,List.flatMap_cons,List.length_append,List.length_cons] at this ⊢
  rw[this,hy,Nat.add_mul];omega
theorem PN {w':World}{fb:Nat->Prop}{ety es:Nat}{l:List D}{b:Nat}{cap:Nat}{cur:Array Value}(hb:w'.heap[b]?=some (.cells cur ety (0,0))) (hlc:l.length<=cap) (hm:cap<=maxLen) (hsz:cap*es<=cur.size) (hes:0<es)
  (hu:C0 es l) (h1:∀x c,x∈l->c∈x.cells->c.one=true) (hR:∀(q:Nat) (x:D),(B5 l)[q]?=some x->∃u,cur[q]?=some u/\Az w' fb x u) :
  CM w' fb ety es false l (.slice (some ⟨b,0,none⟩) l.length cap) :=
 .inr ⟨rfl,b,0,cap,cur,rfl,hb,hlc,hm,by omega,hes,hu,h1,fun i x j cc hi hj=>by rw[Nat.zero_add];exact hR _ _ (Gi hu hi hj)⟩
theorem Mu {z:Array Value}{n es i j:Nat}(hz:z.size=es) (hi:i<n) (hj:j<es):(madeCells z (n*es))[i*es+j]?=z[j]?:=by
 have hlt:i*es+j<n*es:=by
  have:(i+1)*es<=n*es:=Nat.mul_le_mul_right _ hi
  rw[Nat.add_mul] at this;omega
 have hm:(i*es+j)%z.size=j:=by rw[hz,Nat.mul_comm,Nat.mul_add_mod,Nat.mod_eq_of_lt hj]
 simp only[madeCells,Array.getElem?_map,Array.getElem?_range,hlt,if_true,Option.map_some,hm]
 rw[getElem!_pos z j (by omega),Array.getElem?_eq_getElem (by omega)]
theorem ME {e:TypeId}{z:D}(h:Fj E.P e=some z):∃i v,E.P.info? e=some i/\i.zero=some v/\(∀w fb,Az w fb z v)/\(∀x,x∈z.cells->x.one=true)/\v.cells.size=z.cells.length /\
  (∀w fb (j:Nat) (x:D),z.cells[j]?=some x->∃u,v.cells[j]?=some u/\Az w fb x u):=by
 have dec1:∀{v:Value}{d:D},Oh v=some d->d.one=true:=by
  intro v d hx
  unfold Oh at hx
  split at hx<;>(try split at hx)<;>simp at hx<;>subst hx<;>rfl
 unfold Fj at h
 cases hi:E.P.info? e with
 |none=>simp[hi] at h
 |some i =>
  simp only[hi,Option.bind_some] at h
  split at h
  ·rename_i cs hz
   cases hl:BV Oh cs.toList with
   |none=>simp[hl] at h
   |some l =>
    simp[hl] at h;subst h
    have hr:∀w fb (j:Nat) (x:D),l[j]?=some x->∃u,cs[j]?=some u/\Az w fb x u:=by
     intro w fb j x hj
     obtain⟨u,hu,hd⟩:=Bi hl hj
     exact⟨u,by rwa [Array.getElem?_toList] at hu,Hy hd⟩
    have h1:∀x,x∈l->x.one=true:=fun x hx=>by
     obtain⟨u,_,hd⟩:=EL hl hx
     exact dec1 hd
    refine⟨i,.agg cs,rfl,hz,fun w fb=>.agg l cs (by rw[Aw hl];simp) h1 (fun j x u hj hu=>?_),h1,by simp[Value.cells,D.cells,Aw hl],hr⟩
    obtain⟨u',hu',hd⟩:=hr w fb j x hj
    rw[hu] at hu';simp at hu';subst hu';exact hd
  ·rename_i v hnv hz
   have h1:=dec1 h
   have hrep:∀w fb,Az w fb z v:=fun w fb=>Hy h
   have hv1:=(hrep default (fun _=>False)).oneCell h1
   have hc:z.cells=[z]:=by cases z<;>first|rfl|simp[D.one] at h1
   refine⟨i,v,rfl,hz,hrep,by rw[hc];simpa using h1,by rw[hc,Gk hv1];rfl,fun w fb j x hj=>?_⟩
   rw[hc] at hj
   match j with
   |0=>simp at hj;subst hj;exact⟨v,by rw[Gk hv1];rfl,hrep w fb⟩
   |j+1=>simp at hj
  ·cases h
theorem HA {z:D}{n q:Nat}{x:D}{es:Nat}(hz:z.cells.length=es) (hes:0<es) (h:(B5 (List.replicate n z))[q]?=some x):q/es<n/\z.cells[q%es]?=some x:=by
 have hu:C0 es (List.replicate n z):=fun y hy=>by rw[List.eq_of_mem_replicate hy];exact hz
 have hlt:q<n*es:=by
  have:=(List.getElem?_eq_some_iff.1 h).1
  rw[B6 hu] at this;simpa using this
 have hi:q/es<n:=Nat.div_lt_of_lt_mul (by rw[Nat.mul_comm];exact hlt)
 have hj:q%es<es:=Nat.mod_lt _ hes
 obtain⟨c,hc⟩:∃c,z.cells[q%es]?=some c:=⟨_,List.getElem?_eq_getElem (by omega)⟩
 have:=Gi hu (i:=q/es) (j:=q%es) (x:=z) (c:=c) (by simp[hi]) hc
 rw[Nat.mul_comm,Nat.div_add_mod] at this
 rw[h] at this;simp at this;subst this
 exact⟨hi,hc⟩
theorem H1 (h:Br E c β s tm w) {b:Nat}(hb:c.bar β s.V b):b<w.heap.size:=by
 rcases hb with hb|⟨o,g,x,h1,h2⟩
 ·exact Nat.lt_of_lt_of_le (h.low b hb).1 h.keep.size
 ·exact(h.home o g x b h1 h2).1
theorem Xn (h:Br E c β s tm w) {t:Nat}{ty e:TypeId}{i:TypeInfo}{z:D}{own:Bool}(ht:E.P.underlying ty=some (.slice e)) (hi:E.P.info? e=some i) (hz:Fj E.P e=some z)
  (hpos:0<i.size) (hby:i.bytes<=131072) (hzl:z.cells.length=i.size)
  {x y:AV}{u v:Value}(hx:AM w (c.bar β s.V) β s.V.cn x u) (hy:AM w (c.bar β s.V) β s.V.cn y v) (he:ev E (some t) s.V (.mksl e i.size z own) [x,y] K) :
  GF E c s tm K ((Instr.makeSlice ty u v).run E.P w):=by
 unfold ev at he
 simp only at he
 split at he
 ·rename_i t' n m h1 h2
  simp only[Option.some.injEq,List.cons.injEq,and_true] at h1 h2
  obtain rfl:=h1
  obtain⟨rfl,rfl⟩:=h2
  obtain⟨rfl,h0,hn,he⟩:=he
  obtain⟨rfl,_⟩:=Bl hx
  obtain⟨rfl,_⟩:=Bl hy
  obtain⟨i',zv,hi',hzv,hzr,hz1,hzs,hzc⟩:=ME hz
  rw[hi] at hi';simp at hi';subst hi'
  have hbd:n<=1073741824:=hn
  have hrun:=run_make (P:=E.P) w ty e i zv ht hi hzv .i64 .i64 n n h0 (Int.le_refl _) (by
   have h1:(i.bytes:Int)*n<=131072*1073741824:=Int.mul_le_mul (by omega) hbd h0 (by omega)
   omega) (by omega)
  have hlen:(List.replicate n.toNat z).length=n.toNat:=by simp
  have hrow:∀fb',(∀b,b<w.heap.size->fb' b->c.bar β s.V b)->CM (w.alloc (.cells (madeCells zv.cells (n.toNat * i.size)) e)) fb' e i.size false (List.replicate n.toNat z) (.slice (some ⟨w.heap.size,0,none⟩) n.toNat n.toNat):=by
   intro fb' _
   have:=PN (w':=w.alloc (.cells (madeCells zv.cells (n.toNat * i.size)) e)) (fb:=fb') (ety:=e) (es:=i.size) (l:=List.replicate n.toNat z) (b:=w.heap.size) (cap:=n.toNat) (heap_alloc_new w _) (by simp) (by unfold maxLen;omega) (by rw[size_madeCells];omega) hpos
    (fun y hy=>by rw[List.eq_of_mem_replicate hy];exact hzl) (fun y cc hy hc=>by rw[List.eq_of_mem_replicate hy] at hc;exact hz1 _ hc) (fun q y hq=>by
     obtain⟨a1,a2⟩:=HA hzl hpos hq
     obtain⟨u,hu,hd⟩:=hzc (w.alloc (.cells (madeCells zv.cells (n.toNat * i.size)) e)) fb' _ _ a2
     refine⟨u,?_,hd⟩
     have:=Mu (z:=zv.cells) (n:=n.toNat) (es:=i.size) (by omega) a1 (Nat.mod_lt q hpos)
     rw[Nat.mul_comm (q/i.size),Nat.div_add_mod] at this
     rw[this];exact hu)
   rwa [hlen] at this
  cases own with
  |true =>
   simp only[if_true] at he
   obtain⟨β',h5,h6⟩:=JV h (t:=t) he.1 (CJ w _) (vo:=.slice (some ⟨w.heap.size,0,none⟩) n.toNat n.toNat) rfl (fun b hb=>by simp[C8,BX] at hb;subst hb;exact⟨Nat.le_refl _,by simp⟩) hrow
   exact⟨_,_,_,_,β',hrun,he.2,h5,h6⟩
  |false =>
   simp only[Bool.false_eq_true,if_false] at he
   have hrel:=h.grow (CJ w (.cells (madeCells zv.cells (n.toNat * i.size)) e))
   refine⟨_,_,_,.none,β,hrun,he,hrel,.d _ _ (C4 (hrow _ fun b _ hb=>hb) fun b hb hbar=>?_)⟩
   simp[C8,BX] at hb;subst hb
   have:=H1 h hbar;omega
 ·exact he.elim
end
end Go.Pw
end
section
namespace Go.Pw
open Go.RowKit
theorem CU {α:Type}{cs vs:List α}{off:Nat}(h:off+vs.length<=cs.length):(Bs cs off vs).length=cs.length:=by
 simp[Bs];omega
theorem Cs {α:Type}{cs vs:List α}{off:Nat}(h:off+vs.length<=cs.length) (i:Nat) :
  (Bs cs off vs)[i]?=if i<off then cs[i]? else if i<off+vs.length then vs[i-off]? else cs[i]?:=by
 unfold Bs
 split
 ·rename_i hi
  rw[List.append_assoc,List.getElem?_append_left (by simp;omega),List.getElem?_take,if_pos hi]
 ·rename_i hi
  split
  ·rename_i hi2
   rw[List.append_assoc,List.getElem?_append_right (by simp;omega),List.length_take,Nat.min_eq_left (by omega),List.getElem?_append_left (by omega)]
  ·rename_i hi2
   rw[List.getElem?_append_right (by simp;omega),List.getElem?_drop]
   congr 1
   simp;omega
theorem Jn {α:Type}{cs vs:List α}{off:Nat}{x:α}(h:x∈Bs cs off vs):x∈cs\/x∈vs:=by
 simp only[Bs,List.mem_append] at h
 rcases h with(h|h)|h
 ·exact .inl (List.mem_of_mem_take h)
 ·exact .inr h
 ·exact .inl (List.mem_of_mem_drop h)
section
variable {E:CW}{c:D_}{β:Nat->Nat->Value}{s:Bg}{tm:Array Value}{w:World}{K:AV->B3->Prop}
theorem UX {α:Type}{R:α->Value->Prop}{cs vs:List α}{us ws:Array Value}{off:Nat}(h1:CN R cs us) (h2:CN R vs ws) (h:off+vs.length<=cs.length) :
  CN R (Bs cs off vs) (Bs us.toList off ws.toList).toArray:=by
 have e1:=h1.1;have e2:=h2.1
 have hh:off+ws.toList.length<=us.toList.length:=by simp;omega
 refine⟨by rw[List.size_toArray,CU hh,CU h];simp;omega,fun i x v hx hv=>?_⟩
 rw[List.getElem?_toArray] at hv
 rw[Cs h] at hx
 rw[Cs hh] at hv
 have e3:ws.toList.length=vs.length:=by simp;omega
 rw[e3] at hv
 split at hx
 ·rename_i hi;rw[if_pos hi] at hv;exact h1.2 i x v hx (by simpa using hv)
 ·rename_i hi;rw[if_neg hi] at hv
  split at hx
  ·rename_i hi2;rw[if_pos hi2] at hv;exact h2.2 _ x v hx (by simpa using hv)
  ·rename_i hi2;rw[if_neg hi2] at hv;exact h1.2 i x v hx (by simpa using hv)
theorem Dx {b:Nat}{cur:Array Value}{v:Value}(hv:C8 v b):FR v w (w.setRow b cur):=by
 refine⟨rfl,rfl,rfl,by simp[World.setRow],fun k hk hne=>setRow_other w b k _ (fun h=>hne (h ▸ hv))⟩
theorem FT {t:TypeId}{n:Nat}(hsz:Ej E.P t=some n) {b off:Nat}{cur:Array Value}{e:TypeId}(hb:w.heap[b]?=some (.cells cur e (0,0))) {u:Value}(hu:u.cells.size=n) (h1:∀v,v∈u.cells.toList->v.oneCell'=true) (hfit:off+n<=cur.size) :
  (Instr.storeAt t (.pointer (some ⟨b,off,none⟩)) u).run E.P w=.ok () (w.setRow b (Bs cur.toList off u.cells.toList).toArray):=by
 have:=run_storeCells_at E.P b off e u.cells.toList 0 cur w hb (by simp;omega) h1
 simp only[Nat.add_zero] at this
 simp[Instr.storeAt,Instr.sureAddr,storeVar,Bv hsz,hu,this,Bs]
theorem Gz {α:Type}{R:α->Value->Prop}{one:α->Bool}{cs:List α}{us:Array Value}(h:CN R cs us) (h1:∀y,y∈cs->one y=true) (h2:∀y v,one y=true->R y v->v.oneCell'=true):∀v,v∈us.toList->v.oneCell'=true:=by
 intro v hv
 obtain⟨i,hi⟩:=List.getElem?_of_mem hv
 have hi':us[i]?=some v:=by simpa using hi
 have hlt:i<us.size:=(Array.getElem?_eq_some_iff.1 hi').1
 obtain⟨y,hy⟩:∃y,cs[i]?=some y:=⟨_,List.getElem?_eq_getElem (by have:=h.1;omega)⟩
 exact h2 y v (h1 y (List.mem_of_getElem? hy)) (h.2 i y v hy hi')
theorem Rd {fb β' cn} {x:AV}{u:Value}{d:D}(h:AM w fb β' cn x u) (hd:x.toD1=some d):CN (Az w fb) d.cells u.cells/\∀y,y∈d.cells->y.one=true:=by
 obtain⟨hr,_⟩:=CD h hd
 have hne:(∀l,d≠.tup l)/\d≠.junk:=by
  unfold AV.toD1 at hd
  split at hd
  ·split at hd<;>simp at hd;subst hd;exact⟨fun _=>by simp,by simp⟩
  ·split at hd<;>simp at hd;subst hd;exact⟨fun _=>by simp,by simp⟩
  ·split at hd<;>simp at hd;subst hd;exact⟨fun _=>by simp,by simp⟩
  ·unfold AV.toD0 at hd
   split at hd
   ·cases hd
   ·cases hd
   ·simp at hd;subst hd;exact⟨fun l hl=>by simp_all,fun hj=>by simp_all⟩
   ·simp at hd;subst hd;exact⟨fun _=>by simp,by simp⟩
   ·split at hd
    ·cases hd
    ·simp at hd;subst hd;exact⟨fun _=>by simp,by simp⟩
   ·cases hd
 have single:d.one=true->d.cells=[d]->CN (Az w fb) d.cells u.cells/\∀y,y∈d.cells->y.one=true:=by
  intro h1 hc
  rw[hc,Gk (hr.oneCell h1)]
  refine⟨⟨rfl,fun i c v hc hv=>?_⟩,by simpa using h1⟩
  match i with
  |0=>simp at hc hv;subst hc hv;exact hr
  |i+1=>simp at hc
 cases d with
 |agg cs=>cases hr with|agg _ vs hl h1 hc=>exact⟨⟨hl,hc⟩,h1⟩
 |tup l=>exact absurd rfl (hne.1 l)
 |junk=>exact absurd rfl hne.2
 |_=>exact single rfl rfl
theorem Vn (h:Br E c β s tm w) {t:TypeId}{n:Nat}(hsz:Ej E.P t=some n) (hn:0<n) {dst:Option Nat}{p x:AV}{up ux:Value}
  (hp:AM w (c.bar β s.V) β s.V.cn p up) (hx:AM w (c.bar β s.V) β s.V.cn x ux) (he:ev E dst s.V (.store n) [p,x] K) :
  iH E c s tm K ((Instr.storeAt t up ux).run E.P w):=by
 unfold ev at he
 simp only at he
 split at he
 ·rename_i o g off x' heq
  simp only[List.cons.injEq,and_true] at heq;obtain⟨rfl,rfl⟩:=heq
  split at he
  ·rename_i cs vs hg hc
   obtain⟨hvn,hfit,he⟩:=he
   have hob:=AL.get_some hg
   obtain⟨hlt,ho⟩:=h.objs _ _ _ hob
   cases hp with|ptr _ _ _ b hlt hβ =>
   rw[hβ] at ho
   cases ho with|cells _ _ cur e hb hl h1 hr =>
   obtain⟨h3,h4⟩:=J5 hx hc
   have hones:=Gz (one:=AV.one) h3 h4 fun y v h1 h2=>h2.oneCell h1
   have hun:ux.cells.size=n:=by have:=h3.1;omega
   refine⟨_,_,β,FT hsz hb hun hones (by omega),he,h.kept hob (by rw[hβ];exact Dx rfl) fun fb' hf hfe=>?_⟩
   have hst:Ah (c.bar β s.V) w (w.setRow b (Bs cur.toList off ux.cells.toList).toArray):=fun k hk hlt=>by
    refine setRow_other w b k _ fun hkb=>hk (.inr ⟨o,g,_,hob,by rw[hβ,hkb];exact rfl⟩)
   rw[hβ]
   have hsp:=UX (off:=off) ⟨hl,hr⟩ h3 (by omega)
   refine .cells _ b _ e (setRow_heap w b cur _ e _ hb) hsp.1 (fun y hy=>(Jn hy).elim (h1 y) (h4 y)) fun i y u hy hu=>?_
   exact(hsp.2 i y u hy hu).mono hst hf (fun _ _ _=>rfl) (fun _=>Nat.le_refl _)
  ·exact he.elim
 ·rename_i o g es0 i off q p' heq
  simp only[List.cons.injEq,and_true] at heq;obtain⟨rfl,rfl⟩:=heq
  obtain⟨hq1,hq2⟩:=J5 hx (show AV.cells? (.own q p')=some [.own q p'] from rfl)
  have hones:=Gz (one:=AV.one) hq1 hq2 fun y v h1 h2=>h2.oneCell h1
  have hu0:∃u,ux.cells.toList=[u]/\AM w (c.bar β s.V) β s.V.cn (.own q p') u:=by
   have h1:=hq1.1
   simp at h1
   refine⟨ux.cells[0]'(by omega),?_,hq1.2 0 _ _ (by simp) (Array.getElem?_eq_getElem (by omega))⟩
   apply List.ext_getElem
   ·simpa using h1
   ·intro j h2 h3
    simp at h3;subst h3;simp
  obtain⟨u0,hu1,hu2⟩:=hu0
  cases hu2 with|own _ _ hpl hpo =>
  have key:∀(l:List D) (b b0 cap:Nat) (ety:Nat) (cur:Array Value),β o g=.slice (some ⟨b,b0,none⟩) l.length cap->w.heap[b]?=some (.cells cur ety (0,0))->l.length<=cap->cap<=maxLen->b0+cap*1<=cur.size ->
    (∀x,x∈l->x.cells.length=1)->(∀x c,x∈l->c∈x.cells->c.one=true)->i<l.length ->
    (∀(j:Nat) (x:D) (cc:D),j≠i->l[j]?=some x->x.cells[0]?=some cc->∃u,cur[b0+j]?=some u/\Az w (c.bar β s.V) cc u) ->
    (∃y,s.V.ob o=some (g,y))->es0=1->off=0->n=1->up=.pointer (some ⟨b,b0+i*es0+off,none⟩)->K .undef (.keep o g (.rowH ety l i q p'))->iH E c s tm K ((Instr.storeAt t up ux).run E.P w):=by
   intro l b b0 cap ety cur hβ h3 h4 h5 h6 h8 h10 hi h9 hobe hes hoff hn1 hup hK
   obtain⟨yy,hob⟩:=hobe
   subst hes hoff hn1 hup
   have hun:ux.cells.size=1:=by have:=congrArg List.length hu1;simpa using this
   refine⟨_,_,β,FT hsz h3 hun hones (by omega),hK,h.kept hob (by rw[hβ];exact Dx rfl) fun fb' hf hfe=>?_⟩
   have hst:Ah (c.bar β s.V) w (w.setRow b (Bs cur.toList (b0+i*1+0) ux.cells.toList).toArray):=fun k hk hlt=>by
    refine setRow_other w b k _ fun hkb=>hk (.inr ⟨o,g,_,hob,by rw[hβ,hkb];exact rfl⟩)
   have hfit':(b0+i*1+0)+ux.cells.toList.length<=cur.toList.length:=by rw[hu1];simp;omega
   refine .rowH _ _ _ _ _ _ ⟨b,b0,cap,_,by rw[hβ],setRow_heap w b cur _ _ _ h3,h4,h5,by rw[List.size_toArray,CU hfit'];simpa using h6,h8,h10,⟨hi,?_,hpl,hpo⟩,fun j x cc hj hx hc=>?_⟩
   ·rw[List.getElem?_toArray,Cs hfit',hu1]
    rw[if_neg (by omega),if_pos (by simp)]
    simp
   ·obtain⟨u,hu,hd⟩:=h9 j x cc hj hx hc
    refine⟨u,?_,hd.mono hst hf⟩
    rw[List.getElem?_toArray,Cs hfit',hu1]
    by_cases hji:b0+j<b0+i*1+0
    ·rw[if_pos hji];simpa using hu
    ·rw[if_neg hji,if_neg (by simp;omega)];simpa using hu
  split at he
  ·rename_i ety es nl l hg
   obtain⟨hes,hes2,hnl,hoff,hn1,hi,hK⟩:=he
   subst hes2
   have hob:=AL.get_some hg
   obtain⟨hlt,ho⟩:=h.objs _ _ _ hob
   cases hp with|rptr _ _ _ _ _ b b0 len cap hlt hβ =>
   rw[hβ] at ho
   cases ho with|row _ _ _ _ _ ho =>
   rcases ho with⟨_,_,h3⟩|⟨_,b',off',cap',cur,h2,h3,h4,h5,h6,h7,h8,h10,h9⟩
   ·cases h3
   ·simp only[Value.slice.injEq,Option.some.injEq,Addr.mk.injEq] at h2
    obtain⟨⟨rfl,rfl,_⟩,rfl,rfl⟩:=h2
    refine key l b b0 cap ety cur hβ h3 h4 h5 h6 h8 h10 hi (fun j x cc _ hx hc=>?_) ⟨_,hob⟩ hes hoff hn1 rfl hK
    obtain⟨u,hu,hd⟩:=h9 j x 0 cc hx hc
    exact⟨u,by simpa using hu,hd⟩
  ·rename_i ety l k q1 p1 hg
   obtain⟨hes,hoff,hn1,hik,hK⟩:=he
   subst hik
   have hob:=AL.get_some hg
   obtain⟨hlt,ho⟩:=h.objs _ _ _ hob
   cases hp with|rptr _ _ _ _ _ b b0 len cap hlt hβ =>
   rw[hβ] at ho
   cases ho with|rowH _ _ _ _ _ _ ho =>
   obtain⟨b',off',cap',cur,h2,h3,h4,h5,h6,h8,h10,⟨k1,k2,k3,k4⟩,h9⟩:=ho
   simp only[Value.slice.injEq,Option.some.injEq,Addr.mk.injEq] at h2
   obtain⟨⟨rfl,rfl,_⟩,rfl,rfl⟩:=h2
   exact key l b b0 cap ety cur hβ h3 h4 h5 h6 h8 h10 k1 h9 ⟨_,hob⟩ hes hoff hn1 rfl hK
  ·exact he.elim
 ·rename_i o g es0 i off x' hno heq
  simp only[List.cons.injEq,and_true] at heq;obtain⟨rfl,rfl⟩:=heq
  split at he
  ·rename_i ety es nl l y hg hd
   obtain⟨rfl,he⟩:=he
   split at he
   ·rename_i z hz
    obtain⟨hyn,hfit,hcase,he⟩:=he
    have hob:=AL.get_some hg
    obtain⟨hlt,ho⟩:=h.objs _ _ _ hob
    cases hp with|rptr _ _ _ _ _ b b0 len cap hlt hβ =>
    rw[hβ] at ho
    cases ho with|row _ _ _ _ _ ho =>
    rcases ho with⟨_,_,h3⟩|⟨hnl,b',off',cap',cur,h2,h3,h4,h5,h6,h7,h8,h10,h9⟩
    ·cases h3
    ·simp only[Value.slice.injEq,Option.some.injEq,Addr.mk.injEq] at h2
     obtain⟨⟨rfl,rfl,_⟩,rfl,rfl⟩:=h2
     obtain⟨hyr,hy1⟩:=Rd hx hd
     have hones:=Gz (one:=D.one) hyr hy1 fun y v h1 h2=>h2.oneCell h1
     have hun:ux.cells.size=n:=by have:=hyr.1;omega
     have hzl:z.cells.length=es0:=h8 z (List.mem_of_getElem? hz)
     have hi:i<l.length:=(List.getElem?_eq_some_iff.1 hz).1
     have hbig:b0+i*es0+off+n<=cur.size:=by
      have:(i+1)*es0<=cap*es0:=Nat.mul_le_mul_right _ (by omega)
      rw[Nat.add_mul] at this;omega
     generalize hz':(if n=es0 then y else D.agg (Bs z.cells off y.cells))=z' at he
     have hz'c:z'.cells=Bs z.cells off y.cells:=by
      rw[←hz']
      split
      ·rename_i hne
       have:off=0:=by omega
       subst this
       simp[Bs,hzl,hyn,hne]
      ·rfl
     have hz'l:z'.cells.length=es0:=by rw[hz'c,CU (by omega)];exact hzl
     refine⟨_,_,β,FT hsz h3 hun hones hbig,he,h.kept hob (by rw[hβ];exact Dx rfl) fun fb' hf hfe=>?_⟩
     have hst:Ah (c.bar β s.V) w (w.setRow b (Bs cur.toList (b0+i*es0+off) ux.cells.toList).toArray):=fun k hk hlt=>by
      refine setRow_other w b k _ fun hkb=>hk (.inr ⟨o,g,_,hob,by rw[hβ,hkb];exact rfl⟩)
     rw[hβ]
     have hfit':(b0+i*es0+off)+ux.cells.toList.length<=cur.toList.length:=by simp;omega
     refine .row _ _ _ _ _ (.inr ⟨hnl,b,b0,cap,_,by simp,setRow_heap w b cur _ _ _ h3,by simpa using h4,h5,by rw[List.size_toArray,CU hfit'];simpa using h6,h7,fun q hq=>?_,fun q cc hq hc=>?_,fun k q j cc hk hj=>?_⟩)
     ·rcases List.mem_or_eq_of_mem_set hq with hq|rfl
      ·exact h8 q hq
      ·exact hz'l
     ·rcases List.mem_or_eq_of_mem_set hq with hq|rfl
      ·exact h10 q cc hq hc
      ·rw[hz'c] at hc
       exact(Jn hc).elim (h10 z cc (List.mem_of_getElem? hz)) (hy1 cc)
     ·rw[List.getElem?_toArray,Cs hfit']
      have hlen:ux.cells.toList.length=n:=by simpa using hun
      rw[hlen]
      have hjlt:j<q.cells.length:=(List.getElem?_eq_some_iff.1 hj).1
      by_cases hki:i=k
      ·subst hki
       simp[hi] at hk;subst hk
       rw[hz'l] at hjlt
       rw[hz'c,Cs (by omega),hyn] at hj
       by_cases hj1:j<off
       ·rw[if_pos hj1] at hj
        rw[if_pos (by omega)]
        obtain⟨u,hu,hd⟩:=h9 i z j cc hz hj
        exact⟨u,by simpa using hu,hd.mono hst hf⟩
       ·rw[if_neg hj1] at hj
        rw[if_neg (by omega)]
        by_cases hj2:j<off+n
        ·rw[if_pos hj2] at hj
         rw[if_pos (by omega),show b0+i*es0+j-(b0+i*es0+off)=j-off by omega]
         obtain⟨u,hu⟩:∃u,ux.cells[j-off]?=some u:=⟨_,Array.getElem?_eq_getElem (by omega)⟩
         exact⟨u,by simpa using hu,(hyr.2 _ cc u hj hu).mono hst hf⟩
        ·rw[if_neg hj2] at hj
         rw[if_neg (by omega)]
         obtain⟨u,hu,hd⟩:=h9 i z j cc hz hj
         exact⟨u,by simpa using hu,hd.mono hst hf⟩
      ·rw[List.getElem?_set_ne hki] at hk
       rw[h8 q (List.mem_of_getElem? hk)] at hjlt
       obtain⟨u,hu,hd⟩:=h9 k q j cc hk hj
       have hout:¬(b0+i*es0+off<=b0+k*es0+j/\b0+k*es0+j<b0+i*es0+off+n):=by
        rintro⟨g1,g2⟩
        rcases Nat.lt_or_ge k i with hlt|hge
        ·have:(k+1)*es0<=i*es0:=Nat.mul_le_mul_right _ hlt
         rw[Nat.add_mul] at this;omega
        ·have:(i+1)*es0<=k*es0:=Nat.mul_le_mul_right _ (by omega)
         rw[Nat.add_mul] at this;omega
       refine⟨u,?_,hd.mono hst hf⟩
       split
       ·simpa using hu
       ·rw[if_neg (by omega)];simpa using hu
   ·exact he.elim
  ·exact he.elim
 ·rename_i i o g j o' g' heq
  simp only[List.cons.injEq,and_true] at heq;obtain⟨rfl,rfl⟩:=heq
  split at he
  ·rename_i e1 e2 nl ix rows hg
   obtain⟨rfl,rfl,rfl,hi,hj,hK⟩:=he
   have hob:=AL.get_some hg
   obtain⟨hlt,ho⟩:=h.objs _ _ _ hob
   obtain⟨v,hv⟩:∃v,β o' g'=v:=⟨_,rfl⟩
   cases hp with|mref _ _ _ _ _ hm _ =>
   cases hx with|mref _ _ _ _ _ hmx hux1 =>
   rw[hv] at ho
   cases ho with|mat _ _ _ _ _ _ ho =>
   obtain⟨v0,vs,hvv,hlen,h0,hr,hsep⟩:=ho
   have hv':=hv
   rw[hvv] at hv'
   rw[hv'] at hm hmx
   simp only[EH,B_,List.getElem?_cons_succ] at hmx
   rcases h0 with⟨_,h01,_⟩|⟨hnl,b,off,cap,cur,h2,h3,h4,h5,h6,h7⟩
   ·rw[h01] at hi;simp at hi
   ·subst h2
    simp only[EH,B_,List.getElem?_cons_zero,Option.bind_some,Rl,Option.some.injEq] at hm
    subst hm
    have hcs:=Gk hux1
    have hblk:C8 (β o' g') b:=by rw[hv'];exact⟨0,_,by rw[B_];rfl,rfl⟩
    refine⟨_,_,β,FT (n:=1) hsz h3 (by rw[hcs];rfl) (fun v hv=>by rw[hcs] at hv;simp at hv;subst hv;exact hux1) (by omega),hK,h.kept hob (Dx hblk) fun fb' hf hfe=>?_⟩
    have hst:Ah (c.bar β s.V) w (w.setRow b (Bs cur.toList (off+i) ux.cells.toList).toArray):=fun k hk hlt=>by
     refine setRow_other w b k _ fun hkb=>hk (.inr ⟨_,_,_,hob,hkb ▸ hblk⟩)
    rw[hv']
    have hfit:off+i+[ux].length<=cur.toList.length:=by simp;omega
    refine .mat _ _ _ _ _ _ ⟨_,vs,rfl,hlen,.inr ⟨hnl,b,off,cap,_,by simp,setRow_heap w b cur _ _ _ h3,by simpa using h4,h5,?_,fun p q hp=>?_⟩,fun q y u hy hu=>?_,hsep⟩
    ·rw[hcs,List.size_toArray,CU (by simpa using hfit)];simpa using h6
    ·rw[hcs,List.getElem?_toArray,show (#[ux]:Array Value).toList=[ux] from rfl,Cs hfit]
     have hpl:p<ix.length:=by have:=(List.getElem?_eq_some_iff.1 hp).1;simpa using this
     by_cases hpi:p=i
     ·subst hpi
      rw[List.getElem?_set_self hi] at hp
      simp at hp;subst hp
      exact⟨ux,hmx,by rw[if_neg (by omega),if_pos (by simp)];simp⟩
     ·rw[List.getElem?_set_ne (Ne.symm hpi)] at hp
      obtain⟨u,hu1,hu2⟩:=h7 p q hp
      refine⟨u,hu1,?_⟩
      by_cases hlt2:p<i
      ·rw[if_pos (by omega)];simpa using hu2
      ·rw[if_neg (by omega),if_neg (by simp;omega)];simpa using hu2
    ·refine⟨(hr q y u hy hu).1,fun ha=>?_⟩
     have hrow:=(hr q y u hy hu).2 ha
     refine hrow.mono hst hf fun b' hb' _=>setRow_other w b b' _ fun hbb=>?_
     have:=hsep 0 (q+1) _ u b rfl (by simpa using hu) Sk (KB hy ha) rfl (hbb ▸ hrow.blk hb')
     omega
  ·exact he.elim
 ·rename_i i o g q p' heq
  simp only[List.cons.injEq,and_true] at heq;obtain⟨rfl,rfl⟩:=heq
  split at he
  ·rename_i e1 e2 nl ix rows e2' es2 nl2 l2 hg hg2
   obtain⟨rfl,hol,hql,hoq,he1,he2,hi,hK⟩:=he
   subst he1 he2
   have hob:=AL.get_some hg
   have hob2:=AL.get_some hg2
   obtain⟨hlt,ho⟩:=h.objs _ _ _ hob
   obtain⟨hlt2,ho2⟩:=h.objs _ _ _ hob2
   obtain⟨v,hv⟩:∃v,β o g=v:=⟨_,rfl⟩
   obtain⟨uq,hvq⟩:∃u,β q p'=u:=⟨_,rfl⟩
   cases hp with|mref _ _ _ _ _ hm _ =>
   have hux:ux=uq/\uq.oneCell'=true:=by cases hx with|own _ _ _ h1=>exact⟨hvq,hvq ▸ h1⟩
   obtain⟨rfl,hux1⟩:=hux
   rw[hvq] at ho2
   cases ho2 with|row _ _ _ _ _ ho2 =>
   rw[hv] at ho
   cases ho with|mat _ _ _ _ _ _ ho =>
   obtain⟨v0,vs,hvv,hlen,h0,hr,hsep⟩:=ho
   have hv':=hv
   rw[hvv] at hv'
   rw[hv'] at hm
   rcases h0 with⟨_,h01,_⟩|⟨hnl,b,off,cap,cur,h2,h3,h4,h5,h6,h7⟩
   ·rw[h01] at hi;simp at hi
   ·subst h2
    simp only[EH,B_,List.getElem?_cons_zero,Option.bind_some,Rl,Option.some.injEq] at hm
    subst hm
    have hcs:=Gk hux1
    have hblk0:C8 (.tuple (.slice (some ⟨b,off,none⟩) ix.length cap::vs).toArray) b:=⟨0,_,by rw[B_];rfl,rfl⟩
    have hblk:C8 (β o g) b:=by rw[hv'];exact hblk0
    have hrun:=FT (n:=1) hsz h3 (off:=off+i) (u:=ux) (by rw[hcs];rfl) (fun v hv=>by rw[hcs] at hv;simp at hv;subst hv;exact hux1) (by omega)
    have hblkr:∀{j u b},vs[j]?=some u->BX u=some b->C8 (β o g) b:=fun {j u b} hj hb=>by rw[hv'];exact⟨j+1,u,by simpa using hj,hb⟩
    have hblkq:∀{b},BX ux=some b->C8 (β q p') b:=fun {b} hb=>by
     rw[hvq]
     rcases ho2 with⟨_,_,h⟩|⟨_,_,_,_,_,h,_⟩
     ·rw[h] at hb;cases hb
     ·rw[h] at hb ⊢;exact hb
    have hsepq:∀{b},C8 (β o g) b->BX ux=some b->False:=fun {b} hb hq=>hoq (h.sep _ _ _ _ _ _ b hob hob2 hb (hblkq hq))
    have hst:Ah (c.bar β s.V) w (w.setRow b (Bs cur.toList (off+i) ux.cells.toList).toArray):=fun k hk hlt=>by
     refine setRow_other w b k _ fun hkb=>hk (.inr ⟨_,_,_,hob,hkb ▸ hblk⟩)
    have hfit:off+i+[ux].length<=cur.toList.length:=by simp;omega
    have hpart:∀{j u},(Value.slice (some ⟨b,off,none⟩) ix.length cap::(vs++[ux]))[j]?=some u->(j=0/\u=.slice (some ⟨b,off,none⟩) ix.length cap)\/(∃j',j=j'+1/\vs[j']?=some u)\/(j=vs.length+1/\u=ux):=fun {j u} hj=>by
     cases j with
     |zero=>simp at hj;exact .inl ⟨rfl,hj.symm⟩
     |succ j =>
      simp only[List.getElem?_cons_succ] at hj
      by_cases hjl:j<vs.length
      ·rw[List.getElem?_append_left hjl] at hj;exact .inr (.inl ⟨j,rfl,hj⟩)
      ·rw[List.getElem?_append_right (by omega)] at hj
       have:=(List.getElem?_eq_some_iff.1 hj).1
       simp at this
       have hjj:j=vs.length:=by omega
       subst hjj
       simp at hj;exact .inr (.inr ⟨rfl,hj.symm⟩)
    have hrel1:=h.absorb (us:=[ux]) (x:=.mat e1 e2' nl (ix.set i rows.length) (rows++[(nl2,l2)])) hob hob2 hoq hol hv' (Dx (cur:=(Bs cur.toList (off+i) ux.cells.toList).toArray) hblk0) (fun b' u hu hb'=>by
     simp at hu;subst hu;exact hblkq hb') fun β' fb' hf=>by
      refine .mat _ _ _ _ _ _ ⟨_,vs++[ux],rfl,by simp[hlen],.inr ⟨hnl,b,off,cap,_,by simp,setRow_heap w b cur _ _ _ h3,by simpa using h4,h5,?_,fun p j hp=>?_⟩,fun j x u hx hu=>?_,fun a a' u u' b' ha ha' al al' hu hu'=>?_⟩
      ·rw[hcs,List.size_toArray,CU (by simpa using hfit)];simpa using h6
      ·rw[hcs,List.getElem?_toArray,show (#[ux]:Array Value).toList=[ux] from rfl,Cs hfit]
       have hpl:p<ix.length:=by have:=(List.getElem?_eq_some_iff.1 hp).1;simpa using this
       by_cases hpi:p=i
       ·subst hpi
        rw[List.getElem?_set_self hi] at hp
        simp at hp;subst hp
        exact⟨ux,by rw[←hlen];simp,by rw[if_neg (by omega),if_pos (by simp)];simp⟩
       ·rw[List.getElem?_set_ne (Ne.symm hpi)] at hp
        obtain⟨u,hu1,hu2⟩:=h7 p j hp
        refine⟨u,by rw[List.getElem?_append_left (List.getElem?_eq_some_iff.1 hu1).1];exact hu1,?_⟩
        by_cases hlt2:p<i
        ·rw[if_pos (by omega)];simpa using hu2
        ·rw[if_neg (by omega),if_neg (by simp;omega)];simpa using hu2
      ·by_cases hjl:j<vs.length
       ·rw[List.getElem?_append_left hjl] at hu
        rw[List.getElem?_append_left (by omega)] at hx
        refine⟨(hr j x u hx hu).1,fun ha=>?_⟩
        have hrow:=(hr j x u hx hu).2 ha
        refine hrow.mono hst hf fun b' hb' _=>setRow_other w b b' _ fun hbb=>?_
        have:=hsep 0 (j+1) _ u b rfl (by simpa using hu) Sk (KB hx ha) rfl (hbb ▸ hrow.blk hb')
        omega
       ·rw[List.getElem?_append_right (by omega)] at hu
        rw[List.getElem?_append_right (by omega)] at hx
        have:=(List.getElem?_eq_some_iff.1 hu).1
        simp at this
        have hjj:j=vs.length:=by omega
        subst hjj
        simp at hu;subst hu
        rw[hlen] at hx;simp at hx;subst hx
        exact⟨ho2.one,fun _=>ho2.mono hst hf fun b' hb' _=>setRow_other w b b' _ fun hbb=>hsepq hblk (hbb ▸ ho2.blk hb')⟩
      ·rcases hpart ha with⟨rfl,rfl⟩|⟨j,rfl,hj⟩|⟨rfl,rfl⟩<;>rcases hpart ha' with⟨rfl,rfl⟩|⟨j',rfl,hj'⟩|⟨rfl,rfl⟩
       ·rfl
       ·exact hsep 0 (j'+1) _ u' b' rfl (by simpa using hj') al.left al'.left hu hu'
       ·simp[BX] at hu;subst hu;exact(hsepq hblk hu').elim
       ·exact hsep (j+1) 0 u _ b' (by simpa using hj) rfl al.left al'.left hu hu'
       ·exact hsep (j+1) (j'+1) u u' b' (by simpa using hj) (by simpa using hj') al.left al'.left hu hu'
       ·exact(hsepq (hblkr hj hu) hu').elim
       ·simp[BX] at hu';subst hu';exact(hsepq hblk hu).elim
       ·exact(hsepq (hblkr hj' hu') hu).elim
       ·rfl
    have hrel2:=hrel1.fresh (o:=q) (x:=.row e2' 1 true []) hql (vo:=.slice none 0 0) (FR.of_below _ (Below.refl _ _)) (fun b hb=>by simp[C8,BX] at hb) fun β' fb' _ _ _=>.row _ _ _ _ _ (.inl ⟨rfl,rfl,rfl⟩)
    have hV:(AL.app (AL.app (AL.mk (CO s.V.ob q none) s.V.cn) (.keep o g (.mat e1 e2' nl (ix.set i rows.length) (rows++[(nl2,l2)])))) (.fresh q (.row e2' 1 true [])))=s.V.app (.seq (.keep o g (.mat e1 e2' nl (ix.set i rows.length) (rows++[(nl2,l2)]))) (.fresh q (.row e2' 1 true []))):=by
     simp only[AL.app]
     congr 1
     funext z
     by_cases h1:z=q<;>by_cases h2:z=o<;>simp[CO,h1,h2]
    exact⟨_,_,_,hrun,hK,hV ▸ hrel2⟩
  ·exact he.elim
 ·rename_i j k o g x' heq
  simp only[List.cons.injEq,and_true] at heq;obtain⟨rfl,rfl⟩:=heq
  split at he
  ·rename_i e1 e2 nl ix rows y hg hd
   split at he
   ·rename_i x0 hx0
    obtain⟨rfl,hy1,hk,hK⟩:=he
    have hob:=AL.get_some hg
    obtain⟨hlt,ho⟩:=h.objs _ _ _ hob
    obtain⟨v,hv⟩:∃v,β o g=v:=⟨_,rfl⟩
    cases hp with|mref _ _ _ _ _ hm _ =>
    rw[hv] at ho
    cases ho with|mat _ _ _ _ _ _ ho =>
    obtain⟨v0,vs,hvv,hlen,h0,hr,hsep⟩:=ho
    have hv':=hv
    rw[hvv] at hv'
    rw[hv'] at hm
    obtain⟨uj,huj⟩:∃u,vs[j]?=some u:=⟨_,List.getElem?_eq_getElem (by have:=(List.getElem?_eq_some_iff.1 hx0).1;omega)⟩
    rcases (hr j x0 uj hx0 huj).2 (Oz (by omega)) with⟨_,h01,_⟩|⟨hnl,b,off,cap,cur,h2,h3,h4,h5,h6,h7,h8,h10,h9⟩
    ·rw[h01] at hk;simp at hk
    ·subst h2
     simp only[EH,B_,List.getElem?_cons_succ,huj,Option.bind_some,Rl,Option.some.injEq] at hm
     subst hm
     obtain⟨hyr,hyo⟩:=Rd hx hd
     have hones:=Gz (one:=D.one) hyr hyo fun y v h1 h2=>h2.oneCell h1
     have hun:ux.cells.size=1:=by have:=hyr.1;omega
     obtain⟨uy,huy⟩:∃uy,ux.cells.toList=[uy]:=by
      refine⟨ux.cells[0]'(by omega),?_⟩
      apply List.ext_getElem
      ·simpa using hun
      ·intro j h2 h3;simp at h3;subst h3;simp
     have hblk:C8 (β o g) b:=by rw[hv'];exact⟨j+1,_,by simpa using huj,rfl⟩
     refine⟨_,_,β,FT (n:=1) hsz h3 hun hones (by omega),hK,h.kept hob (Dx hblk) fun fb' hf hfe=>?_⟩
     have hst:Ah (c.bar β s.V) w (w.setRow b (Bs cur.toList (off+k) ux.cells.toList).toArray):=fun k hk hlt=>by
      refine setRow_other w b k _ fun hkb=>hk (.inr ⟨_,_,_,hob,hkb ▸ hblk⟩)
     rw[hv']
     have hfit:off+k+[uy].length<=cur.toList.length:=by simp;omega
     have hkx:KC x0=true:=Oz (by omega)
     refine .mat _ _ _ _ _ _ ⟨_,vs,rfl,by simpa using hlen,?_,fun q y' u hy' hu=>?_,fun a a' u u' b' ha ha' al al'=>hsep a a' u u' b' ha ha' (al.unset hx0 fun _=>hkx) (al'.unset hx0 fun _=>hkx)⟩
     ·rcases h0 with h0|⟨k0,b',off',cap',cur',k2,k3,k4,k5,k6,k7⟩
      ·exact .inl h0
      ·refine .inr ⟨k0,b',off',cap',cur',k2,?_,k4,k5,k6,k7⟩
       rw[setRow_other w b b' _ fun hbb=>?_];exact k3
       subst k2
       have:=hsep 0 (j+1) _ _ b rfl (by simpa using huj) Sk (KB hx0 hkx) (by rw[←hbb];rfl) rfl
       omega
     ·by_cases hqj:q=j
      ·subst hqj
       rw[List.getElem?_set_self (List.getElem?_eq_some_iff.1 hx0).1] at hy'
       simp at hy';subst hy'
       rw[huj] at hu;simp at hu;subst hu
       refine⟨rfl,fun _=>.inr ⟨hnl,b,off,cap,_,by simp,setRow_heap w b cur _ _ _ h3,by simpa using h4,h5,?_,h7,fun z hz=>?_,fun z cc hz hc=>?_,fun p z m cc hp hm=>?_⟩⟩
       ·rw[huy,List.size_toArray,CU hfit];simpa using h6
       ·rcases List.mem_or_eq_of_mem_set hz with hz|rfl
        ·exact h8 z hz
        ·exact hy1
       ·rcases List.mem_or_eq_of_mem_set hz with hz|rfl
        ·exact h10 z cc hz hc
        ·exact hyo cc hc
       ·have hget:∀q,(Bs cur.toList (off+k) ux.cells.toList).toArray[q]?=if q<off+k then cur.toList[q]? else if q<off+k+[uy].length then [uy][q-(off+k)]? else cur.toList[q]?:=fun q=>by
         rw[huy,List.getElem?_toArray,Cs hfit]
        rw[hget]
        by_cases hpk:p=k
        ·subst hpk
         simp only[List.getElem?_set_self hk,Option.some.injEq] at hp
         subst hp
         have hm0:m=0:=by have:=(List.getElem?_eq_some_iff.1 hm).1;omega
         subst hm0
         refine⟨uy,by rw[if_neg (by omega),if_pos (by simp)];simp,(hyr.2 0 cc uy hm ?_).mono hst hf⟩
         rw[←Array.getElem?_toList,huy];rfl
        ·simp only[List.getElem?_set_ne (Ne.symm hpk)] at hp
         have hm0:m=0:=by have:=(List.getElem?_eq_some_iff.1 hm).1;have:=h8 z (List.mem_of_getElem? hp);omega
         subst hm0
         obtain⟨u,hu1,hu2⟩:=h9 p z 0 cc hp hm
         refine⟨u,?_,hu2.mono hst hf⟩
         by_cases hlt2:p<k
         ·rw[if_pos (by omega)];simpa using hu1
         ·rw[if_neg (by omega),if_neg (by simp;omega)];simpa using hu1
      ·rw[List.getElem?_set_ne (Ne.symm hqj)] at hy'
       refine⟨(hr q y' u hy' hu).1,fun ha=>?_⟩
       have hrow:=(hr q y' u hy' hu).2 ha
       refine hrow.mono hst hf fun b' hb' _=>setRow_other w b b' _ fun hbb=>?_
       have:=hsep (j+1) (q+1) _ u b (by simpa using huj) (by simpa using hu) (KB hx0 hkx) (KB hy' ha) rfl (hbb ▸ hrow.blk hb')
       omega
   ·exact he.elim
  ·exact he.elim
 ·exact he.elim
end
end Go.Pw
end
