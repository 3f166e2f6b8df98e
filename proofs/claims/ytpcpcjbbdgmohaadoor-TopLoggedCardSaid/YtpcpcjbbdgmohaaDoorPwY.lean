/- A part of the proof. -/
import Derived.Test.YtpcpcjbbdgmohaaDoorPwX
set_option linter.all false
namespace Go.Pw
open Go.RowKit
def bG (x:Nat):List Nat->List Nat
 |[]=>[x]
 |y::ys=>if x<y then x::y::ys else if x=y then y::ys else y::bG x ys
def dJ (xs ys:List Nat):List Nat:=xs.foldl (fun r x=>bG x r) ys
def b_ (acc:List (List Nat)) (o:Oper):List Nat :=
 o.after.toList.foldl (fun r e=>if Region.binds .any e then dJ (bG e.on (match acc[e.on]? with|some p=>p|none=>[])) r else r) []
def Yu (ops:List Oper):List (List Nat):=ops.foldl (fun acc o=>acc++[b_ acc o]) []
def Zc (pre:List (List Nat)) (is:List Ew):List (Ew×List Nat) :=
 is.zipIdx.map fun(I,k)=>(I,(List.range k).filter fun j=>!(match pre[k]? with|some p=>p.contains j|none=>false) &&
  (match is[j]? with|some J=>!RA J.op.foot I.op.foot|none=>false))
def bI (I:Ew):Bool:=match I.op with|.mapent ..=>true|_=>false
def dw (fl:List Nat) (o:Oper):Bool:=match o.dst with|some t=>fl.contains (t+1000000)|none=>false
def YX (fl:List Nat):List Oper->Option (List Oper×Oper×List Oper)
 |[]=>none
 |o::l=>if dw fl o=true then some ([],o,l) else match YX fl l with
  |some (a,b,c)=>some (o::a,b,c)
  |none=>none
theorem UN {fl:List Nat}:∀{l a c:List Oper}{b:Oper},YX fl l=some (a,b,c)->l=a++b::c
 |[],a,c,b,h=>by cases h
 |o::l,a,c,b,h=>by
  simp only[YX] at h
  split at h
  ·simp at h;obtain⟨rfl,rfl,rfl⟩:=h;rfl
  ·split at h
   ·rename_i x y z hx
    simp at h;obtain⟨rfl,rfl,rfl⟩:=h
    rw[UN hx];rfl
   ·cases h
def Z6 (ns:Nat):Option Nat->Bool
 |some t=>decide (t<ns)
 |none=>true
def bn (E:C2) (fl:List Nat) (ns:Nat) (ops a:List Oper) (o:Oper) (b:List Oper) (x:Operand) (args:List Operand):Option PC :=
 match Qu E x,SR E args,BD (Ks E false fl ns ops) a,BD (Ks E false fl ns ops) b with
 |some y,some ys,some l1,some l2=>if (o.guard.isNone && Z6 ns o.dst)=true then some (.yld [] l1 o.dst y ys l2 []) else none
 |_,_,_,_=>none
def bo (E:C2) (fl:List Nat) (ns:Nat) (ops a:List Oper) (o:Oper) (b:List Oper):Option PC :=
 match o.op with
 |.call cl=>match cl.callee with
  |.value x=>bn E fl ns ops a o b x cl.args.toList
  |_=>none
 |_=>none
def T2 (E:C2) (fl:List Nat) (ns:Nat) (ops:List Oper):Option PC :=
 match YX fl ops with
 |none=>none
 |some (a,o,b)=>bo E fl ns ops a o b
def NV (E:C2) (fl:List Nat) (ns:Nat):Code->Option PC
 |.skip=>some .skip
 |.region id ops draw =>
  match (if draw then none else T2 E fl ns ops.toList) with
  |some p=>some p
  |none=>match BD (Ks E draw fl ns ops.toList) ops.toList with
  |none=>some .dead
  |some is=>if draw then
    (
     if (!is.any bI && dE ops.toList (Yu ops.toList) (Zc (Yu ops.toList) is))=true then some (.draw [] (Zc (Yu ops.toList) is) [])
     else match Pq ops is ops.size (Array.replicate ops.size false) with
      |some t=>some (.any [] t [])
      |none=>none)
   else some (.reg [] is [])
 |.seq a b=>match NV E fl ns a,NV E fl ns b with
  |some x,some y=>some (.seq x y)
  |_,_=>none
 |.cond c a b=>match Qu E c,NV E fl ns a,NV E fl ns b with
  |some z,some x,some y=>some (.cond z x y)
  |_,_,_=>none
 |.block id a=>(NV E fl ns a).map (.block id)
 |.loop a=>(NV E fl ns a).map (.loop [] [] [])
 |.exit id=>some (.exit id)
 |.ret=>some .ret
 |.scope a=>(NV E fl ns a).map .scope
 |.label _=>some .lab
 |.rangeFunc x ps b a=>match Qu E x,NV E fl ns b,NV E fl ns a with
  |some g,some pb,some pa=>if (ps.toList.all fun p=>decide (p<ns))=true then some (.rngF [] g ps.toList [] [] pb [] [] pa) else none
  |_,_,_=>none
 |_=>none
theorem X1 (pre:List (List Nat)) (is:List Ew):(Zc pre is).map (·.1)=is:=by
 simp only[Zc,List.map_map]
 apply List.ext_getElem?
 intro i
 simp only[List.getElem?_map,List.getElem?_zipIdx,Option.map_map]
 cases is[i]?<;>rfl
theorem Qt {E:C2}{fl:List Nat}{ns id:Nat}{ops:List Oper}{p:PC}(h:T2 E fl ns ops=some p):Db E fl ns p (.region id ops.toArray false):=by
 unfold T2 at h
 split at h
 ·cases h
 ·rename_i a o b hs
  rw[UN hs] at h ⊢
  unfold bo at h
  split at h
  ·rename_i cl hop
   split at h
   ·rename_i x hc
    unfold bn at h
    split at h
    ·rename_i y ys l1 l2 hy hys h1 h2
     split at h
     ·rename_i hok
      simp only[Bool.and_eq_true] at hok
      simp at h;subst h
      refine .yld h1 h2 hop hc (by simpa using hok.1) hy hys fun t ht=>?_
      have:=hok.2
      rw[ht] at this
      simpa[Z6] using this
     ·cases h
    ·cases h
   ·cases h
  ·cases h
theorem EQ {E:C2}{fl:List Nat}{ns:Nat}:∀{code:Code}{p:PC},NV E fl ns code=some p->Db E fl ns p code
 |.skip,p,h=>by simp[NV] at h;subst h;exact .skip
 |.region id ops draw,p,h=>by
  obtain⟨ops⟩:=ops
  simp only[NV] at h
  split at h
  ·rename_i p' hp'
   simp at h;subst h
   split at hp'
   ·cases hp'
   ·rename_i hd
    have:draw=false:=by simpa using hd
    subst this
    exact Qt hp'
  split at h
  ·simp at h;subst h;exact .dead
  ·rename_i is his
   cases draw with
   |true =>
    simp only[if_true] at h
    split at h
    ·rename_i hok;simp at h;subst h
     simp only[Bool.and_eq_true] at hok
     exact .draw (pre:=Yu ops) (by rw[X1];exact his) hok.2
    ·split at h
     ·rename_i t ht
      simp at h;subst h
      exact .any his (by simpa using ht)
     ·cases h
   |false =>
    simp at h;subst h
    exact .reg his
 |.seq a b,p,h=>by
  simp only[NV] at h
  split at h
  ·rename_i x y hx hy;simp at h;subst h;exact .seq (EQ hx) (EQ hy)
  ·cases h
 |.cond c a b,p,h=>by
  simp only[NV] at h
  split at h
  ·rename_i z x y hz hx hy;simp at h;subst h;exact .cond hz (EQ hx) (EQ hy)
  ·cases h
 |.block id a,p,h=>by
  simp only[NV,Option.map_eq_some_iff] at h
  obtain⟨x,hx,rfl⟩:=h;exact .block (EQ hx)
 |.loop a,p,h=>by
  simp only[NV,Option.map_eq_some_iff] at h
  obtain⟨x,hx,rfl⟩:=h;exact .loop (EQ hx)
 |.exit id,p,h=>by simp[NV] at h;subst h;exact .exit
 |.ret,p,h=>by simp[NV] at h;subst h;exact .ret
 |.rangeFunc x ps b a,p,h=>by
  obtain⟨ps⟩:=ps
  simp only[NV] at h
  split at h
  ·rename_i g pb pa hg hb ha
   split at h
   ·rename_i hps
    simp at h;subst h
    exact .rngF hg (fun q hq=>by simpa using List.all_eq_true.1 hps q hq) (EQ hb) (EQ ha)
   ·cases h
  ·cases h
 |.scope a,p,h=>by
  simp only[NV,Option.map_eq_some_iff] at h
  obtain⟨x,hx,rfl⟩:=h;exact .scope (EQ hx)
 |.label _,p,h=>by simp[NV] at h;subst h;exact .lab
 |.goto _,p,h=>by simp[NV] at h
 |.refuse _,p,h=>by simp[NV] at h
def PC.raw:PC->PC
 |.skip=>.skip
 |.reg _ l _=>.reg [] l []
 |.draw _ l _=>.draw [] l []
 |.any _ t _=>.any [] t []
 |.seq a b=>.seq a.raw b.raw
 |.cond c a b=>.cond c a.raw b.raw
 |.block id a=>.block id a.raw
 |.loop _ _ _ a=>.loop [] [] [] a.raw
 |.exit id=>.exit id
 |.ret=>.ret
 |.dead=>.dead
 |.scope a=>.scope a.raw
 |.lab=>.lab
 |.yld _ l1 d y xs l2 _=>.yld [] l1 d y xs l2 []
 |.rngF _ g ps _ _ b _ _ a=>.rngF [] g ps [] [] b.raw [] [] a.raw
theorem EL {E:C2}{fl:List Nat}{ns:Nat}:∀{p:PC}{code:Code},Db E fl ns p.raw code->Db E fl ns p code
 |.skip,_,h=>by cases h;exact .skip
 |.reg _ _ _,_,h=>by cases h with|reg h=>exact .reg h
 |.draw _ _ _,_,h=>by cases h with|draw h hok=>exact .draw h hok
 |.any _ _ _,_,h=>by cases h with|any h ht=>exact .any h ht
 |.seq _ _,_,h=>by cases h with|seq h h'=>exact .seq (EL h) (EL h')
 |.cond _ _ _,_,h=>by cases h with|cond hx h h'=>exact .cond hx (EL h) (EL h')
 |.block _ _,_,h=>by cases h with|block h=>exact .block (EL h)
 |.loop _ _ _ _,_,h=>by cases h with|loop h=>exact .loop (EL h)
 |.exit _,_,h=>by cases h;exact .exit
 |.ret,_,h=>by cases h;exact .ret
 |.dead,_,_=>.dead
 |.scope _,_,h=>by cases h with|scope h=>exact .scope (EL h)
 |.lab,_,h=>by cases h;exact .lab
 |.rngF _ _ _ _ _ _ _ _ _,_,h=>by cases h with|rngF hx hp h h'=>exact .rngF hx hp (EL h) (EL h')
 |.yld _ _ _ _ _ _ _,_,h=>by cases h with|yld h1 h2 h3 h4 h5 h6 h7 h8=>exact .yld h1 h2 h3 h4 h5 h6 h7 h8
inductive RT where
 |t (n:Nat)
 |c (a ty:Nat) (ag:Bool) (n:Nat)
def RT.slot:RT->Nat
 |.t n=>n
 |.c a _ _ _=>a
def dD (P:Program):ResultVar->Option RT
 |.tmp t=>some (.t t)
 |.cell a ty=>match FK P ty,D8 P ty with
  |some ag,some n=>some (.c a ty ag n)
  |_,_=>none
def ae (P:Program) (l:List ResultVar):Option (List RT):=BD (dD P) l
def cr (E:C2) (fl:List Nat) (f:FuncId):Option (PC×List RT×Nat) :=
 match E.P.funcs[f]? with
 |none=>none
 |some fn=>match fn.body,ae E.P fn.results.toList with
  |some code,some rs=>(NV E fl fn.ntmps code).map fun p=>(p,rs,fn.ntmps)
  |_,_=>none
structure D7 (E:C2) (f:FuncId) (p:PC) (rs:List RT) (n:Nat):Prop where
 ex:∃fl fn code,E.P.funcs[f]?=some fn/\fn.body=some code/\ae E.P fn.results.toList=some rs/\fn.ntmps=n/\Db E fl n p code
theorem Ab {E:C2}{fl:List Nat}{f:FuncId}{p:PC}{rs:List RT}{n:Nat}(h:cr E fl f=some (p.raw,rs,n)):D7 E f p rs n:=by
 unfold cr at h
 split at h
 ·cases h
 ·rename_i fn hfn
  split at h
  ·rename_i code rs' hb hr
   simp only[Option.map_eq_some_iff] at h
   obtain⟨q,hq,he⟩:=h
   simp at he;obtain⟨rfl,rfl,rfl⟩:=he
   exact⟨fl,fn,code,hfn,hb,hr,rfl,EL (EQ hq)⟩
  ·cases h
abbrev Dh.of (w:World) (fb mine:Nat->Prop) (b0:Nat->Value):Dh:={ w0:=w,fb:=fb,mine:=mine,b0:=b0 }
def BP.enter (ds:List D):BP:=⟨fun t=>match ds[t]? with|some d=>.d d|none=>.undef,⟨fun _=>none,fun _=>0⟩⟩
def TD (E:C2) (s:BP):RT->(AV->Prop)->Prop
 |.t n,K=>K (s.sl n)
 |.c a _ ag n,K=>ev E none s.V (.load ag n) [s.sl a] fun v _=>K v
def GF (E:C2) (s:BP):List RT->(List AV->Prop)->Prop
 |[],K=>K []
 |r::l,K=>TD E s r fun v=>GF E s l fun vs=>K (v::vs)
def Nt (V:AB) (r:D):List AV->Prop
 |[v]=>v.snap V=some r
 |vs=>(BD (AV.snap V) vs).map .tup=some r
def b8 (E:C2) (rs:List RT) (r:D):CO->BP->Prop
 |.exit _,_=>False
 |_,s=>GF E s rs (Nt s.V r)
def O2:List Value->Value
 |[v]=>v
 |vs=>.tuple vs.toArray
def b9 (tm:Array Value):ResultVar->Sem Value
 |.tmp t=>pure (tm.getD t undef)
 |.cell a t=>do loadVar t (←asAddr (tm.getD a undef))
theorem G9 {E:C2}{c:Dh}{β:Nat->Nat->Value}{s:BP}{tm:Array Value}{w:World}(h:B0 E c β s tm w) {fn:Func}{rs:List RT}(hr:ae E.P fn.results.toList=some rs) {K:List AV->Prop}(hK:GF E s rs K) :
  ∃vs us,K vs/\DB (AL w (c.bar β s.V) β s.V.cn) vs us/\(results fn tm).run E.P w=.ok (O2 us) w:=by
 have key:∀(f:ResultVar->Sem Value),(∀t,f (.tmp t)=pure (tm.getD t undef))->(∀a t,f (.cell a t)=do loadVar t (←asAddr (tm.getD a undef)))->∀(l:List ResultVar) (rs:List RT) (K:List AV->Prop),BD (dD E.P) l=some rs->GF E s rs K ->
   ∃vs us,K vs/\DB (AL w (c.bar β s.V) β s.V.cn) vs us/\(l.mapM f).run E.P w=.ok us w:=by
  intro f hf1 hf2 l
  induction l with
  |nil =>
   intro rs K hrs hK
   simp[BD] at hrs;subst hrs
   exact⟨[],[],hK,⟨rfl,by simp⟩,by simp⟩
  |cons x l ih =>
   intro rs K hrs hK
   simp only[BD] at hrs
   split at hrs
   ·cases hrs
   ·rename_i r hr1
    split at hrs
    ·cases hrs
    ·rename_i rs' hrs'
     simp at hrs;subst hrs
     simp only[GF] at hK
     have one:∃v u,GF E s rs' (fun vs=>K (v::vs))/\AL w (c.bar β s.V) β s.V.cn v u/\(f x).run E.P w=.ok u w:=by
      cases x with
      |tmp t =>
       simp[dD] at hr1;subst hr1
       exact⟨_,_,hK,h.slots t,by rw[hf1];simp⟩
      |cell a ty =>
       simp only[dD] at hr1
       split at hr1
       ·rename_i ag n hag hn
        simp at hr1;subst hr1
        simp only[TD] at hK
        obtain⟨u,hu,v,hv,hrep⟩:=Nq h hag hn (h.slots a) hK
        refine⟨v,u,hv,hrep,?_⟩
        rw[hf2,←hu]
        simp only[Instr.loadAt]
        have hp:∃ad,tm.getD a undef=.pointer (some ad):=by
         have hs:=h.slots a
         unfold ev at hK
         simp only at hK
         split at hK
         ·rename_i heq;simp at heq;rw[heq] at hs
          generalize tm.getD a undef=z at hs ⊢;cases hs;exact⟨_,rfl⟩
         ·rename_i heq;simp at heq;rw[heq] at hs
          generalize tm.getD a undef=z at hs ⊢;cases hs;exact⟨_,rfl⟩
         ·rename_i heq;simp at heq;rw[heq] at hs
          generalize tm.getD a undef=z at hs ⊢;cases hs;exact⟨_,rfl⟩
         ·rename_i heq;simp at heq;rw[heq] at hs
          generalize tm.getD a undef=z at hs ⊢
          cases hs with|d _ _ hs=>cases hs;exact⟨_,rfl⟩
         ·rename_i heq;simp at heq;rw[heq] at hs
          cases hs with|mref _ _ _ _ _ hm _=>exact UW hm
         ·rename_i heq;simp at heq;rw[heq] at hs
          cases hs with|mref _ _ _ _ _ hm _=>exact UX hm
         ·rename_i heq;simp at heq;rw[heq] at hs
          cases hs with|ablk _ _ _ b base vs u hb hne h1 hc hv hu=>exact⟨_,by rw[hu];rfl⟩
         ·exact hK.elim
        obtain⟨ad,hp⟩:=hp
        rw[hp];simp[asAddr,Instr.sureAddr]
       ·cases hr1
     obtain⟨v,u,h1,h2,h3⟩:=one
     obtain⟨vs,us,h4,h5,h6⟩:=ih rs' _ hrs' h1
     refine⟨v::vs,u::us,h4,⟨by simp[h5.1],fun i x y hx hy=>?_⟩,by simp only[List.mapM_cons,Sem.run_bind,h3,Result.andThen_ok,h6,Sem.run_pure]⟩
     cases i with
     |zero=>simp at hx hy;subst hx hy;exact h2
     |succ i=>simp at hx hy;exact h5.2 i x y hx hy
 have hF:results fn tm=(do let vs ←fn.results.mapM (b9 tm);pure (if h:vs.size=1 then vs[0] else .tuple vs)):=by
  unfold results
  refine congrArg (fun g:ResultVar->Sem Value=>(do let vs ←fn.results.mapM g;pure (if h:vs.size=1 then vs[0] else .tuple vs):Sem Value)) (funext fun x=>?_)
  cases x<;>rfl
 obtain⟨vs,us,h1,h2,h3⟩:=key (b9 tm) (fun t=>rfl) (fun a t=>rfl) fn.results.toList rs K hr hK
 refine⟨vs,us,h1,h2,?_⟩
 have hrr:fn.results=fn.results.toList.toArray:=by simp
 rw[hF,hrr]
 simp only[List.mapM_toArray,Sem.run_bind,Sem.run_map]
 rw[h3]
 simp only[Result.andThen_ok,Sem.run_pure]
 cases us with
 |nil=>simp[O2]
 |cons t us=>cases us<;>simp[O2]
section
variable {E:C2}
theorem T0 (ds:List D) (vs:Array Value) (n:Nat) (hv:vs.size=ds.length) (t:Nat):∃u,(vs++Array.replicate (n-vs.size) undef).getD t undef=u/\∀d,ds[t]?=some d->vs[t]?=some u:=by
 refine⟨_,rfl,fun d hd=>?_⟩
 have hlt:t<vs.size:=by rw[hv];exact(List.getElem?_eq_some_iff.1 hd).1
 simp[Array.getD_eq_getD_getElem?,Array.getElem?_append_left hlt,hlt]
theorem Pb {w:World}{fb:Nat->Prop}{ds:List D}{vs:Array Value}{n:Nat}{β:Nat->Nat->Value}(hfb:∀b,fb b->b<w.heap.size) (hg:WV E w fb) (hv:vs.size=ds.length)
  (hd:∀(i:Nat) (d:D) (v:Value),ds[i]?=some d->vs[i]?=some v->A4 w fb d v):B0 E (Dh.of w fb (fun _=>False) (fun _=>undef)) β (BP.enter ds) (vs++Array.replicate (n-vs.size) undef) w:=by
 have hbar:∀b,((Dh.of w fb (fun _=>False) (fun _=>undef)):Dh).bar β (BP.enter ds).V b->fb b:=fun b hb=>by
  rcases hb with hb|⟨o,g,x,h1,h2⟩
  ·exact hb
  ·cases h1
 refine⟨⟨rfl,rfl,rfl,Nat.le_refl _,fun _ _ _=>rfl⟩,fun b hb=>⟨hfb b hb,id⟩,fun g cs hgg=>(hg g cs hgg).mono (A2.refl _ _) fun b _ hb=>hbar b hb,fun t=>?_,fun o g x h=>(nomatch h),?_,fun o g x b h=>(nomatch h),fun o g x _ h=>(nomatch h),fun o g els n st h=>(nomatch h)⟩
 case refine_2=>exact fun o o' g g' x x' b h=>(nomatch h)
 obtain⟨u,hu,hut⟩:=T0 ds vs n hv t
 rw[hu]
 show AL w _ β _ (match ds[t]? with|some d=>.d d|none=>.undef) u
 cases hdt:ds[t]? with
 |none=>exact .undef u
 |some d=>exact .d _ _ ((hd t d u hdt (hut d hdt)).mono (A2.refl _ _) fun b _ hb=>hbar b hb)
theorem KP {w w':World}{M:Nat->Prop}(h:Dg M w w') (hM:∀b,¬M b):Below w.heap.size w w' :=
 ⟨h.os,h.tape,h.output,h.size,fun k hk=>h.block k hk (hM k)⟩
theorem Ub {fn:Func}{R:Ending->World->Prop}{tm:Array Value}{s:BP}{β:Nat->Nat->Value}:∀{Ds:List Nat}{c:Dh}{w:World},B0 E c β s tm w->Ds.Nodup->(∀D,D∈Ds->w.heap[D]?=some (.deferred (some []))/\c.fb D) ->
  (∀c2 w2,B0 E c2 β s tm w2->c2.fb=c.fb->c2.b0=c.b0->(∀b,(c2.w0.heap.size<=b\/c2.mine b)->c.w0.heap.size<=b\/c.mine b)->Dg (fun b=>b∈Ds) w w2->∃v,(results fn tm).run E.P w2=.ok v w2/\R (.returned v) w2) ->
  LeavesInM Fence.wide 0 E.P fn tm R (Ds.map HG) .returning w
 |[],c,w,h,hn,hd,hk=>by
  show ∃v,_/\_
  exact hk c w h rfl rfl (fun _ h=>h) (Dg.refl _ _)
 |D::Ds,c,w,h,hn,hd,hk=>by
  obtain⟨hD,hf⟩:=hd D (by simp)
  refine⟨by simp,.inl ⟨D,w.putObj D (.deferred none),rfl,run_takeDeferred hD,?_⟩⟩
  have hlt:D<w.heap.size:=(Array.getElem?_eq_some_iff.1 hD).1
  have hne:∀k,k≠D->(w.putObj D (.deferred none)).heap[k]?=w.heap[k]?:=fun k hk=>by
   simp[World.putObj,Array.getElem?_setIfInBounds_ne (Ne.symm hk)]
  have hsz:(w.putObj D (.deferred none)).heap.size=w.heap.size:=by simp[World.putObj]
  have hup:Dg (fun b=>b=D) w (w.putObj D (.deferred none)):=⟨rfl,rfl,rfl,by rw[hsz];exact Nat.le_refl _,fun k _ hk=>hne k hk⟩
  have hst:A2 (c.bar β s.V) w (w.putObj D (.deferred none)):=fun b hn _=>hne b fun e=>hn (.inl (e ▸ hf))
  obtain⟨c2,hc2⟩:∃c2:Dh,c2={ c with w0:=w.putObj D (.deferred none),mine:=Dv β s.V,J:=fun _ _ _ _ _=>True }:=⟨_,rfl⟩
  have hbar:∀b,b<w.heap.size->c2.bar β s.V b->c.bar β s.V b:=fun b _ hb=>by subst hc2;exact hb
  have hr:B0 E c2 β s tm (w.putObj D (.deferred none)):=by
   refine⟨by subst hc2;exact(Dg.refl _ _).keep,fun b hb=>?_,fun gg cs hgg=>(h.glob gg cs hgg).mono hst hbar,fun t=>(h.slots t).mono hst hbar (fun _ _ _=>rfl) (fun _=>Nat.le_refl _),fun o g x hx=>?_,h.sep,fun o g x b hx hb=>?_,fun o g x hl hx=>?_,fun o g els n st hx=>?_⟩
   ·subst hc2
    refine⟨by show b<(w.putObj D (.deferred none)).heap.size;rw[hsz];exact Nat.lt_of_lt_of_le (h.low b hb).1 h.keep.size,fun ho=>?_⟩
    obtain⟨o,g,x,h1,h2⟩:=ho
    exact(h.home o g x b h1 h2).2.2 hb
   ·obtain⟨h1,h2⟩:=h.objs o g x hx
    exact⟨h1,h2.mono hst hbar (fun _ _ _=>rfl) (fun _=>Nat.le_refl _) fun b hb _=>hne b fun e=>(h.home o g x b hx hb).2.2 (e ▸ hf)⟩
   ·subst hc2
    obtain⟨h1,_,h3⟩:=h.home o g x b hx hb
    exact⟨by rw[hsz];exact h1,.inr ⟨o,g,x,hx,hb⟩,h3⟩
   ·subst hc2;exact h.pin o g x hl hx
   ·subst hc2
    obtain⟨h1,h2,_,h4⟩:=h.hist o g els n st hx
    exact⟨h1,h2,trivial,h4⟩
  rw[List.nodup_cons] at hn
  refine Ub (c:=c2) hr hn.2 (fun D' hD'=>?_) fun c3 w3 h3 e1 e2 e3 e4=>?_
  ·obtain⟨k1,k2⟩:=hd D' (List.mem_cons_of_mem _ hD')
   refine⟨?_,by subst hc2;exact k2⟩
   rw[hne D' fun e=>hn.1 (e ▸ hD')];exact k1
  ·refine hk c3 w3 h3 (by rw[e1];subst hc2;rfl) (by rw[e2];subst hc2;rfl) (fun b hb=>?_) ((hup.mono fun i _ hi=>by subst hi;simp).trans e4 fun i _ hi=>List.mem_cons_of_mem _ hi)
   have:=e3 b hb
   subst hc2
   rcases this with h5|h5
   ·left
    have h6:(w.putObj D (.deferred none)).heap.size<=b:=h5
    rw[hsz] at h6
    exact Nat.le_trans h.keep.size h6
   ·obtain⟨o,g,x,k1,k2⟩:=h5
    exact(h.home o g x b k1 k2).2.1
theorem HT {fl:List Nat}{f:FuncId}{fn:Func}{code:Code}{p:PC}{args:Array Value}{R:Ending->World->Prop}{Q:CO->BP->Prop}{s:BP}{c:Dh}{β:Nat->Nat->Value}{w:World}(hfn:E.P.funcs[f]?=some fn) (hb:fn.body=some code) (hm:E.P.follows .mixedOrders=true) (hp:Db E fl fn.ntmps p code)
  (h:B0 E c β s (args++Array.replicate (fn.ntmps-args.size) undef) w) (hy:WU E c) (hnr:c.nr=true->p.noR=true) (hsz:args.size<=fn.ntmps) (hpw:pw E p Q s)
  (hq:∀e s' β' tm' c' w',Q e s'->(∀id,e=.exit id->False)/\(B0 E c' β' s' tm' w'->(∀b,c.fb b->c'.fb b\/c.may b)->(∀o,o<5000000->c'.b0 o=c.b0 o)->(∀b,(c'.w0.heap.size<=b\/c'.mine b)->c.w0.heap.size<=b\/c.mine b)->Dg (fun b=>c.mine b\/c.may b) c.w0 w' ->
   ∃v,(results fn tm').run E.P w'=.ok v w'/\R (.returned v) w')):Calls E.P f args w R:=by
 refine callsIn_wide.1 (callsIn_of_wp_marks (n:=0) hfn hb trivial (Rk hm hp none 0 h hy hnr (fun e=>by cases e) (by simp;omega) hpw fun e s' β' c' tm' Ds w' hk he hy' hmk hr htm=>?_))
 have fin:(∀id,e=.exit id->False)->LeavesInM Fence.wide 0 E.P fn tm' R (Ds.map HG++[]) .returning w':=fun hne=>by
  rw[List.append_nil]
  have hkw:Dg (fun b=>c.mine b\/c.may b) c.w0 w':=he.keep w' (hr.keep.upto.mono fun i _ hi=>.inl hi)
  refine Ub hr hmk.nodup (fun D hD=>?_) fun c2 w2 h2 e1 e2 e3 e4=>?_
  ·obtain⟨ha,_⟩:=hmk.alive D hD
   refine⟨?_,ha.2.2.2⟩
   rw[hr.keep.block D ha.lt ha.2.1];exact ha.1
  ·refine(hq e s' β' tm' c2 w2 hk).2 h2 (fun b hb=>?_) (fun o ho=>by rw[e2];exact he.b0 o (.inl ho)) (fun b hb=>he.mine b (e3 b hb)) (hkw.trans (e4.mono (M':=fun b=>b∈Ds) fun _ _ h=>h) fun i hi hD=>?_)
   ·rw[e1];exact he.fb b hb
   ·have:=(hmk.alive i hD).2;omega
 have hx:=(hq e s' β' tm' c' w' hk).1
 cases e with
 |normal=>exact fin hx
 |ret=>exact fin hx
 |exit id=>exact(hx id rfl).elim
theorem Yi {c:Dh}{β:Nat->Nat->Value}{s:BP}{tm:Array Value}{w:World}(h:B0 E c β s tm w) {vs:List AV}{us:List Value}{r:D}(hv:DB (AL w (c.bar β s.V) β s.V.cn) vs us) (hr:Nt s.V r vs):A4 w c.fb r (O2 us):=by
 have many:(BD (AV.snap s.V) vs).map .tup=some r->A4 w c.fb r (.tuple us.toArray):=by
  intro hts
  simp only[Option.map_eq_some_iff] at hts
  obtain⟨l,hl,rfl⟩:=hts
  refine .tup _ _ (by simp[Aw hl,hv.1]) fun i d u hd hu=>?_
  obtain⟨x,hx,hsn⟩:=BK hl hd
  exact Nr h (hv.2 i x u hx (by simpa using hu)) hsn
 unfold Nt at hr
 split at hr
 ·rename_i v
  obtain⟨u,rfl,h1⟩:=GK hv
  exact Nr h h1 hr
 ·rename_i hne
  have:O2 us=.tuple us.toArray:=by
   unfold O2;split
   ·have:=hv.1
    cases vs with
    |nil=>simp at this
    |cons v vs=>cases vs with
     |nil=>exact absurd rfl (hne _)
     |cons _ _=>simp at this
   ·rfl
  rw[this];exact many hr
theorem Ap {f:FuncId}{p:PC}{rs:List RT}{n:Nat}{ds:List D}{r:D}(hf:D7 E f p rs n) (hm:E.P.follows .mixedOrders=true) (hn:ds.length<=n) (h:(∀d,d∈ds->d.WF)->pw E p (b8 E rs r) (BP.enter ds)):D6 E f ds r:=by
 obtain⟨fl,fn,code,hfn,hb,hr,hnn,hp⟩:=hf
 intro w fb vs hfb hg hv hd
 have hwf:∀d,d∈ds->d.WF:=fun d hdm=>by
  obtain⟨i,hi⟩:=List.getElem?_of_mem hdm
  have hlt:i<vs.size:=by rw[hv];exact(List.getElem?_eq_some_iff.1 hi).1
  exact(hd i d _ hi (Array.getElem?_eq_getElem hlt)).wf
 subst hnn
 refine HT hfn hb hm hp (β:=fun _ _=>undef) (c:=(Dh.of w fb (fun _=>False) (fun _=>undef))) (Pb hfb hg hv hd) (.pure rfl rfl) (fun e=>by cases e) (by omega) (h hwf) fun e s' β' tm' c' w' hq=>?_
 have hres:(∀id,e=.exit id->False)/\GF E s' rs (Nt s'.V r):=by cases e with
  |normal=>exact⟨fun _ h=>CO.noConfusion h,hq⟩
  |ret=>exact⟨fun _ h=>CO.noConfusion h,hq⟩
  |exit id=>exact hq.elim
 refine⟨hres.1,fun hrel k1 k2 k3 k4=>?_⟩
 obtain⟨vs,us,h1,h2,h3⟩:=G9 hrel hr hres.2
 exact⟨_,h3,_,rfl,KP k4 fun b hb=>hb.elim id id,(Yi hrel h2 h1).mono (A2.refl _ _) fun b _ hb=>(k1 b hb).resolve_right id⟩
def VG (V:AB) (ety es:Nat) (nl:Bool) (l:List D):List AV->Prop
 |[.own o g]=>V.get o g=some (.row ety es nl l)
 |[.d (.list true [])]=>nl=true/\l=[]
 |_=>False
def aX (E:C2) (rs:List RT) (ety es:Nat) (nl:Bool) (l:List D):CO->BP->Prop
 |.exit _,_=>False
 |_,s=>GF E s rs (VG s.V ety es nl l)
theorem TC {f:FuncId}{p:PC}{rs:List RT}{n ety es:Nat}{ds:List D}{nl:Bool}{l:List D}(hf:D7 E f p rs n) (hm:E.P.follows .mixedOrders=true) (hn:ds.length<=n) (h:(∀d,d∈ds->d.WF)->pw E p (aX E rs ety es nl l) (BP.enter ds)):Z0 E f ds ety es nl l:=by
 obtain⟨fl,fn,code,hfn,hb,hr,hnn,hp⟩:=hf
 intro w fb vs hfb hg hv hd
 have hwf:∀d,d∈ds->d.WF:=fun d hdm=>by
  obtain⟨i,hi⟩:=List.getElem?_of_mem hdm
  have hlt:i<vs.size:=by rw[hv];exact(List.getElem?_eq_some_iff.1 hi).1
  exact(hd i d _ hi (Array.getElem?_eq_getElem hlt)).wf
 subst hnn
 refine HT hfn hb hm hp (β:=fun _ _=>undef) (c:=(Dh.of w fb (fun _=>False) (fun _=>undef))) (Pb hfb hg hv hd) (.pure rfl rfl) (fun e=>by cases e) (by omega) (h hwf) fun e s' β' tm' c' w' hq=>?_
 have hres:(∀id,e=.exit id->False)/\GF E s' rs (VG s'.V ety es nl l):=by cases e with
  |normal=>exact⟨fun _ h=>CO.noConfusion h,hq⟩
  |ret=>exact⟨fun _ h=>CO.noConfusion h,hq⟩
  |exit id=>exact hq.elim
 refine⟨hres.1,fun hrel q1 q2 q3 q4=>?_⟩
 have hmin:∀b,(c'.w0.heap.size<=b\/c'.mine b)->w.heap.size<=b:=fun b hb=>(q3 b hb).resolve_right id
 ·obtain⟨vs,us,h1,h2,h3⟩:=G9 hrel hr hres.2
  refine⟨_,h3,_,rfl,KP q4 fun b hb=>hb.elim id id,?_⟩
  unfold VG at h1
  split at h1
  ·rename_i o g
   obtain⟨u,rfl,hs⟩:=GK h2
   show (∀b,DK u b->_)/\Cw w' (fun b=>fb b\/DK u b) ety es nl l u
   cases hs with
   |own _ _ hgg hone =>
    obtain⟨_,ho⟩:=hrel.objs _ _ _ (AB.get_some h1)
    refine⟨fun b hbb=>?_,?_⟩
    ·exact hmin b (hrel.home o g _ b (AB.get_some h1) hbb).2.1
    ·have hown:∀b,DK (β' o g) b->Dv β' s'.V b:=fun b hbb=>⟨o,g,_,AB.get_some h1,hbb⟩
     generalize hvv:β' o g=v at ho hown
     cases ho with
     |row _ _ _ _ _ ho =>
      exact ho.mono (A2.refl _ _) (fun b _ hb=>hb.elim (fun h=>.inl ((q1 b h).resolve_right id)) fun h=>.inr (hown b h)) fun _ _ _=>rfl
  ·obtain⟨u,rfl,hs⟩:=GK h2
   obtain⟨rfl,rfl⟩:=h1
   cases hs with
   |d _ _ hs=>cases hs;exact⟨fun b hbb=>by simp[O2,DK,BM] at hbb,.inl ⟨rfl,rfl,rfl⟩⟩
  ·exact h1.elim
def Af:List (Nat×(Nat×AI))->Nat->Option (Nat×AI)
 |[]=>fun _=>none
 |(k,v)::l=>fun t=>if t=k then some v else Af l t
theorem EN:∀{l:List (Nat×(Nat×AI))}{o:Nat}{v:Nat×AI},Af l o=some v->(o,v)∈l
 |[],_,_,h=>by cases h
 |(k,u)::l,o,v,h=>by
  simp only[Af] at h
  split at h
  ·rename_i e;simp at h;subst e h;simp
  ·exact List.mem_cons_of_mem _ (EN h)
def AV.WF:AV->Prop
 |.d z=>z.WF
 |_=>True
def AI.WF:AI->Prop
 |.cells xs=>∀x,x∈xs->x.WF
 |.row _ _ nl l=>(D.list nl l).WF
 |.map _ kvs=>∀kv,kv∈kvs->kv.1.WF/\kv.2.WF
 |.hist _ _ _=>True
 |.rowH ..=>True
 |.mat _ _ nl ix rows=>ix.length<=maxLen/\(nl=true->ix=[])/\(∀j,j∈ix->j<rows.length)/\∀x,x∈rows->(D.list x.1 x.2).WF
theorem AL.wf {w:World} {fb β cn} {x:AV}{v:Value}(h:AL w fb β cn x v):x.WF:=by
 cases h with
 |d x v h=>exact h.wf
 |_=>trivial
theorem Cw.wf {w:World}{fb:Nat->Prop} {ety es nil xs v} (h:Cw w fb ety es nil xs v):(D.list nil xs).WF:=by
 rw[D.WF]
 rcases h with⟨h1,h2,h3⟩|⟨h1,b,off,cap,cur,h2,h3,h4,h5,h6,h7,h8,h10,h9⟩
 ·subst h2;simp[maxLen]
 ·refine⟨by omega,fun x hx=>D.wf_of_cells fun c hc=>?_⟩
  obtain⟨i,hi⟩:=List.getElem?_of_mem hx
  obtain⟨j,hj⟩:=List.getElem?_of_mem hc
  obtain⟨u,_,hd⟩:=h9 i x j c hi hj
  exact hd.wf
theorem EC.wf {w:World} {fb β cn} {x:AI}{v:Value}(h:EC w fb β cn x v):x.WF:=by
 cases h with
 |cells xs b cur e hb hl h1 h =>
  intro x hx
  obtain⟨i,hi⟩:=List.getElem?_of_mem hx
  have hlt:i<cur.size:=by have:=(List.getElem?_eq_some_iff.1 hi).1;omega
  exact(h i x _ hi (Array.getElem?_eq_getElem hlt)).wf
 |row ety es nil xs v h =>
  show (D.list nil xs).WF
  rw[D.WF]
  rcases h with⟨h1,h2,h3⟩|⟨h1,b,off,cap,cur,h2,h3,h4,h5,h6,h7,h8,h10,h9⟩
  ·subst h2;simp[maxLen]
  ·refine⟨by omega,fun x hx=>D.wf_of_cells fun c hc=>?_⟩
   obtain⟨i,hi⟩:=List.getElem?_of_mem hx
   obtain⟨j,hj⟩:=List.getElem?_of_mem hc
   obtain⟨u,_,hd⟩:=h9 i x j c hi hj
   exact hd.wf
 |map tys kvs b es hb hl h =>
  intro kv hkv
  obtain⟨i,hi⟩:=List.getElem?_of_mem hkv
  have hlt:i<es.size:=by have:=(List.getElem?_eq_some_iff.1 hi).1;omega
  obtain⟨_,h1,h2,_⟩:=h i kv _ hi (Array.getElem?_eq_getElem hlt)
  exact⟨h1.wf,h2.wf⟩
 |hist=>trivial
 |rowH=>trivial
 |mat e1 e2 nil ix rows v h =>
  obtain⟨v0,vs,hvv,hlen,h0,hr,hsep⟩:=h
  refine⟨?_,?_,fun j hj=>?_,fun x hx=>?_⟩
  ·rcases h0 with⟨_,h2,_⟩|⟨_,b,off,cap,cur,h2,h3,h4,h5,_⟩
   ·subst h2;simp
   ·omega
  ·rcases h0 with⟨_,h2,_⟩|⟨h2,_⟩
   ·exact fun _=>h2
   ·intro hh;rw[h2] at hh;cases hh
  ·rcases h0 with⟨_,h2,_⟩|⟨_,b,off,cap,cur,h2,h3,h4,h5,h6,h7⟩
   ·subst h2;cases hj
   ·obtain⟨p,hp⟩:=List.getElem?_of_mem hj
    obtain⟨u,hu,_⟩:=h7 p j hp
    have:=(List.getElem?_eq_some_iff.1 hu).1;omega
  ·obtain⟨j,hj⟩:=List.getElem?_of_mem hx
   obtain⟨u,hu⟩:∃u,vs[j]?=some u:=⟨_,List.getElem?_eq_getElem (by have:=(List.getElem?_eq_some_iff.1 hj).1;omega)⟩
   exact(hr j x u hj hu).wf
def BP.enterM (V0:List (Nat×Nat×AI)) (xs:List AV):BP:=⟨fun t=>match xs[t]? with|some x=>x|none=>.undef,⟨Af V0,fun _=>1⟩⟩
def EG (V0:List (Nat×Nat×AI)):Bool:=(V0.all fun p=>p.2.1 == 0 && (decide (p.1<5000000) && !p.2.2.isHist)) && AQ (V0.map (·.1))
theorem TE {w:World}{fb:Nat->Prop}{V0:List (Nat×Nat×AI)}{xs:List AV}{vs:Array Value}{n:Nat}{β:Nat->Nat->Value}(hfb:∀b,fb b->b<w.heap.size) (hg:WV E w (fun b=>fb b\/Ev β V0 b))
  (hat:At w fb β (fun _=>1) V0) (hok:EG V0=true) (hv:vs.size=xs.length)
  (hd:∀(i:Nat) (x:AV) (v:Value),xs[i]?=some x->vs[i]?=some v->AL w (fun b=>fb b\/Ev β V0 b) β (fun _=>1) x v) :
  B0 E (Dh.of w fb (Ev β V0) (fun o=>β o 0)) β (BP.enterM V0 xs) (vs++Array.replicate (n-vs.size) undef) w:=by
 simp only[EG,Bool.and_eq_true,List.all_eq_true] at hok
 obtain⟨hz,hnd⟩:=hok
 have hbar:∀b,(Dh.of w fb (Ev β V0) (fun o=>β o 0)).bar β (BP.enterM V0 xs).V b->(fb b\/Ev β V0 b):=fun b hb=>by
  rcases hb with hb|⟨o,g,x,h1,h2⟩
  ·exact .inl hb
  ·exact .inr ⟨o,g,x,EN h1,h2⟩
 refine⟨⟨rfl,rfl,rfl,Nat.le_refl _,fun _ _ _=>rfl⟩,fun b hb=>⟨hfb b hb,fun⟨o,g,x,h1,h2⟩=>(hat.home o g x b h1 h2).2 hb⟩,fun g cs hgg=>(hg g cs hgg).mono (A2.refl _ _) fun b _ hb=>hbar b hb,fun t=>?_,fun o g x h=>?_,fun o o' g g' x x' b h h' hb hb'=>?_,fun o g x b h hb=>?_,fun o g x _ h=>?_,fun o g els n st h=>?_⟩
 ·have hu:∃u,(vs++Array.replicate (n-vs.size) undef).getD t undef=u/\∀d,xs[t]?=some d->vs[t]?=some u:=by
   refine⟨_,rfl,fun d hd=>?_⟩
   have hlt:t<vs.size:=by rw[hv];exact(List.getElem?_eq_some_iff.1 hd).1
   simp[Array.getD_eq_getD_getElem?,Array.getElem?_append_left hlt,hlt]
  obtain⟨u,hu,hut⟩:=hu
  rw[hu]
  show AL w _ β _ (match xs[t]? with|some x=>x|none=>.undef) u
  cases hxt:xs[t]? with
  |none=>exact .undef u
  |some x=>exact(hd t x u hxt (hut x hxt)).mono (A2.refl _ _) (fun b _ hb=>hbar b hb) (fun _ _ _=>rfl) fun _=>Nat.le_refl _
 ·obtain⟨h1,h2⟩:=hat.objs o g x (EN h)
  exact⟨h1,h2.mono (A2.refl _ _) (fun b _ hb=>hbar b hb) (fun _ _ _=>rfl) (fun _=>Nat.le_refl _) fun _ _ _=>rfl⟩
 ·exact(hat.sep _ _ _ _ _ _ b (EN h) (EN h') hb hb').1
 ·obtain⟨h1,h2⟩:=hat.home o g x b (EN h) hb
  exact⟨h1,.inr ⟨o,g,x,EN h,hb⟩,h2⟩
 ·have:=hz _ (EN h)
  simp at this
  rw[this.1]
 ·have:=hz _ (EN h)
  simp[AI.isHist] at this
def Tc (V1:List (Nat×Nat×AI)) (o:Nat):Bool:=V1.any fun p=>p.1 == o
def Lp (V1:List (Nat×Nat×AI)) (V:AB) (v:AV):AV->Prop
 |.d d=>v.snap V=some d/\(v.sites.all fun o=>!Tc V1 o)=true
 |r=>v=r
def Lq (V1:List (Nat×Nat×AI)) (V:AB):List AV->List AV->Prop
 |[],[]=>True
 |v::vs,r::rs=>Lp V1 V v r/\Lq V1 V vs rs
 |_,_=>False
def Y' (V1:List (Nat×Nat×AI)) (V:AB) (r:AV):List AV->Prop
 |[v]=>Lp V1 V v r
 |vs=>match r with
  |.tup rs=>Lq V1 V vs rs
  |_=>False
def XX (V:AB):List (Nat×Nat×AI)->Prop
 |[]=>True
 |(o,g,x)::l=>V.ob o=some (g,x)/\XX V l
def ab (E:C2) (rs:List RT) (V1:List (Nat×Nat×AI)) (r:AV):CO->BP->Prop
 |.exit _,_=>False
 |_,s=>GF E s rs (Y' V1 s.V r)/\XX s.V V1
theorem Fw {V:AB}:∀{V1:List (Nat×Nat×AI)},XX V V1->∀o g x,(o,g,x)∈V1->V.ob o=some (g,x)
 |(o',g',x')::l,h,o,g,x,hm=>by
  rcases List.mem_cons.1 hm with he|hm
  ·cases he;exact h.1
  ·exact Fw h.2 o g x hm
theorem P5 {c:Dh}{β:Nat->Nat->Value}{s:BP}{tm:Array Value}{w:World}(h:B0 E c β s tm w) {V1:List (Nat×Nat×AI)}(hin:XX s.V V1) {v r:AV}{u:Value}(hv:AL w (c.bar β s.V) β s.V.cn v u) (hr:Lp V1 s.V v r) :
  AL w (fun b=>c.fb b\/Ev β V1 b) β s.V.cn r u:=by
 have hb:∀b,(c.fb b\/Ev β V1 b)->c.bar β s.V b:=fun b hb=>by
  rcases hb with hb|⟨o,g,x,h1,h2⟩
  ·exact .inl hb
  ·exact .inr ⟨o,g,x,Fw hin _ _ _ h1,h2⟩
 have other:v=r->AL w (fun b=>c.fb b\/Ev β V1 b) β s.V.cn r u:=fun e=>by
  subst e;exact hv.mono (A2.refl _ _) (fun b _ h=>hb b h) (fun _ _ _=>rfl) fun _=>Nat.le_refl _
 cases r with
 |d d =>
  obtain⟨h1,h2⟩:=hr
  refine .d _ _ (PW h hb hv h1 fun o g y b ho hob hbb hf=>?_)
  rcases hf with hf|⟨o',g',x',h3,h4⟩
  ·exact(h.home o g y b hob hbb).2.2 hf
  ·have:=h.sep _ _ _ _ _ _ b hob (Fw hin _ _ _ h3) hbb h4
   subst this
   have:=List.all_eq_true.1 h2 _ ho
   have hh:Tc V1 o=true:=by simp only[Tc,List.any_eq_true];exact⟨_,h3,by simp⟩
   rw[hh] at this;cases this
 |_=>exact other hr
theorem Y_ {c:Dh}{β:Nat->Nat->Value}{s:BP}{tm:Array Value}{w:World}(h:B0 E c β s tm w) {V1:List (Nat×Nat×AI)}(hin:XX s.V V1) {vs:List AV}{us:List Value}{r:AV}(hv:DB (AL w (c.bar β s.V) β s.V.cn) vs us) (hmk:Y' V1 s.V r vs) :
  AL w (fun b=>c.fb b\/Ev β V1 b) β s.V.cn r (O2 us):=by
 have many:(∃rs,r=.tup rs/\Lq V1 s.V vs rs)->AL w (fun b=>c.fb b\/Ev β V1 b) β s.V.cn r (.tuple us.toArray):=by
  rintro⟨rs,rfl,hts⟩
  ·have key:∀(vs rs:List AV) (us:List Value),DB (AL w (c.bar β s.V) β s.V.cn) vs us->Lq V1 s.V vs rs->us.length=rs.length/\∀(i:Nat) (x:AV) (u:Value),rs[i]?=some x->us[i]?=some u->AL w (fun b=>c.fb b\/Ev β V1 b) β s.V.cn x u:=by
    intro vs
    induction vs with
    |nil =>
     intro rs us hv hc
     cases rs with
     |nil=>rw[hv.nil];exact⟨rfl,fun i x u hx=>by simp at hx⟩
     |cons _ _=>exact hc.elim
    |cons v vs ih =>
     intro rs us hv hc
     cases rs with
     |nil=>exact hc.elim
     |cons r rs =>
      obtain⟨u,us',rfl,h1,h2⟩:=hv.cons'
      obtain⟨i1,i2⟩:=ih rs us' h2 hc.2
      refine⟨by simp[i1],fun i x y hx hy=>?_⟩
      cases i with
      |zero=>simp at hx hy;subst hx hy;exact P5 h hin h1 hc.1
      |succ i=>simp at hx hy;exact i2 i x y hx hy
   obtain⟨k1,k2⟩:=key vs rs us hv hts
   exact .tup _ _ (by simpa using k1) fun i x u hx hu=>k2 i x u hx (by simpa using hu)
 unfold Y' at hmk
 split at hmk
 ·obtain⟨u,rfl,h1⟩:=GK hv
  exact P5 h hin h1 hmk
 ·rename_i hne
  have:O2 us=.tuple us.toArray:=by
   unfold O2;split
   ·have:=hv.1
    cases vs with
    |nil=>simp at this
    |cons v vs=>cases vs with
     |nil=>exact absurd rfl (hne _)
     |cons _ _=>simp at this
   ·rfl
  rw[this]
  refine many ?_
  split at hmk
  ·exact⟨_,rfl,hmk⟩
  ·exact hmk.elim
theorem A6 {f:FuncId}{p:PC}{rs:List RT}{n:Nat}{V0 V1:List (Nat×Nat×AI)}{xs:List AV}{r:AV}(hf:D7 E f p rs n) (hm:E.P.follows .mixedOrders=true) (hn:xs.length<=n) (h0:EG V0=true)
  (h1:(V0.all fun q=>decide (q.1<BH) || A3 V1 q.1 q.2.1)=true) (h:(∀x,x∈xs->x.WF)->(∀q,q∈V0->q.2.2.WF)->pw E p (ab E rs V1 r) (BP.enterM V0 xs)):Ea E f V0 xs V1 r:=by
 obtain⟨fl,fn,code,hfn,hb,hr,hnn,hp⟩:=hf
 intro w fb β vs hfb hg hat hv hd
 have hwf:∀x,x∈xs->x.WF:=fun x hxm=>by
  obtain⟨i,hi⟩:=List.getElem?_of_mem hxm
  have hlt:i<vs.size:=by rw[hv];exact(List.getElem?_eq_some_iff.1 hi).1
  exact(hd i x _ hi (Array.getElem?_eq_getElem hlt)).wf
 have hwo:∀q,q∈V0->q.2.2.WF:=fun q hq=>(hat.objs q.1 q.2.1 q.2.2 hq).2.wf
 subst hnn
 refine HT hfn hb hm hp (β:=β) (c:=(Dh.of w fb (Ev β V0) (fun o=>β o 0))) (TE hfb hg hat h0 hv hd) (.pure rfl rfl) (fun e=>by cases e) (by omega) (h hwf hwo) fun e s' β' tm' c' w' hq=>?_
 have hres:(∀id,e=.exit id->False)/\(GF E s' rs (Y' V1 s'.V r)/\XX s'.V V1):=by cases e with
  |normal=>exact⟨fun _ h=>CO.noConfusion h,hq⟩
  |ret=>exact⟨fun _ h=>CO.noConfusion h,hq⟩
  |exit id=>exact hq.elim
 refine⟨hres.1,fun hrel q1 q2 q3 q4=>?_⟩
 obtain⟨hres,hin⟩:=hres.2
 ·have hfb1:∀b,fb b->c'.fb b:=fun b hb=>(q1 b hb).resolve_right id
  obtain⟨vs,us,k1,k2,k3⟩:=G9 hrel hr hres
  have hbb:∀b,(fb b\/Ev β' V1 b)->c'.bar β' s'.V b:=fun b hb=>by
   rcases hb with hb|⟨o,g,x,h1,h2⟩
   ·exact .inl (hfb1 b hb)
   ·exact .inr ⟨o,g,x,Fw hin _ _ _ h1,h2⟩
  refine⟨_,k3,_,β',s'.V.cn,rfl,q4.os,q4.tape,q4.output,q4.size,fun k hk hn=>q4.block k hk fun hb=>hb.elim hn id,⟨fun o g x hm=>?_,fun o g x o' g' x' b hm hm' hb hb'=>?_,fun o g x b hm hb=>?_⟩,fun o g x hm hlo=>?_,fun o g x b hm hb=>?_,(Y_ hrel hin k2 k1).mono (A2.refl _ _) (fun b _ hb=>hb.imp (hfb1 b) id) (fun _ _ _=>rfl) fun _=>Nat.le_refl _⟩
  ·obtain⟨j1,j2⟩:=hrel.objs o g x (Fw hin _ _ _ hm)
   exact⟨j1,j2.mono (A2.refl _ _) (fun b _ hb=>hbb b hb) (fun _ _ _=>rfl) (fun _=>Nat.le_refl _) fun _ _ _=>rfl⟩
  ·have e1:=Fw hin _ _ _ hm
   have e2:=Fw hin _ _ _ hm'
   have:=hrel.sep _ _ _ _ _ _ b e1 e2 hb hb'
   subst this
   rw[e1] at e2;simp at e2;exact⟨rfl,e2.1⟩
  ·obtain⟨j1,_,j3⟩:=hrel.home o g x b (Fw hin _ _ _ hm) hb
   exact⟨j1,fun hb=>j3 (hfb1 b hb)⟩
  ·have:=List.all_eq_true.1 h1 _ hm
   simp only[Bool.or_eq_true,decide_eq_true_eq] at this
   obtain⟨x',hx'⟩:=MO (this.resolve_left fun hh=>absurd hlo (by omega))
   refine⟨⟨x',hx'⟩,?_⟩
   simp only[EG,Bool.and_eq_true,List.all_eq_true] at h0
   have hz:=h0.1 _ hm
   simp at hz
   have:=hrel.pin o g x' hlo (Fw hin _ _ _ hx')
   rw[this,q2 o hz.2.1,hz.1]
  ·exact q3 b (hrel.home o g x b (Fw hin _ _ _ hm) hb).2.1
end
end Go.Pw
