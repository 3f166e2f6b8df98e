/- A part of the proof. -/
import Derived.Test.YtmdklgapccickaaGreatDoorPwX
set_option linter.all false
namespace Go.Pw
open Go.RowKit
def nh (x:Nat):List Nat->List Nat
 |[]=>[x]
 |y::ys=>if x<y then x::y::ys else if x=y then y::ys else y::nh x ys
def qe (xs ys:List Nat):List Nat:=xs.foldl (fun r x=>nh x r) ys
def pT (acc:List (List Nat)) (o:Oper):List Nat :=
 o.after.toList.foldl (fun r e=>if Region.binds .any e then qe (nh e.on (match acc[e.on]? with|some p=>p|none=>[])) r else r) []
def X6 (ops:List Oper):List (List Nat):=ops.foldl (fun acc o=>acc++[pT acc o]) []
def cu (pre:List (List Nat)) (is:List Ew):List (Ew×List Nat) :=
 is.zipIdx.map fun(I,k)=>(I,(List.range k).filter fun j=>!(match pre[k]? with|some p=>p.contains j|none=>false) &&
  (match is[j]? with|some J=>!Vf J.op.foot I.op.foot|none=>false))
def nj (I:Ew):Bool:=match I.op with|.mapent ..=>true|_=>false
def sr (fl:List Nat) (o:Oper):Bool:=match o.dst with|some t=>fl.contains (t+1000000)|none=>false
def eL (fl:List Nat):List Oper->Option (List Oper×Oper×List Oper)
 |[]=>none
 |o::l=>if sr fl o=true then some ([],o,l) else match eL fl l with
  |some (a,b,c)=>some (o::a,b,c)
  |none=>none
theorem UY {fl:List Nat}:∀{l a c:List Oper}{b:Oper},eL fl l=some (a,b,c)->l=a++b::c
 |[],a,c,b,h=>by cases h
 |o::l,a,c,b,h=>by
  simp only[eL] at h
  split at h
  ·simp at h;obtain⟨rfl,rfl,rfl⟩:=h;rfl
  ·split at h
   ·rename_i x y z hx
    simp at h;obtain⟨rfl,rfl,rfl⟩:=h
    rw[UY hx];rfl
   ·cases h
def T5 (ns:Nat):Option Nat->Bool
 |some t=>decide (t<ns)
 |none=>true
def om (E:CW) (fl:List Nat) (ns:Nat) (ops a:List Oper) (o:Oper) (b:List Oper) (x:Operand) (args:List Operand):Option PC :=
 match Oi E x,Qa E args,BV (Hz E false fl ns ops) a,BV (Hz E false fl ns ops) b with
 |some y,some ys,some l1,some l2=>if (o.guard.isNone && T5 ns o.dst)=true then some (.yld [] l1 o.dst y ys l2 []) else none
 |_,_,_,_=>none
def oo (E:CW) (fl:List Nat) (ns:Nat) (ops a:List Oper) (o:Oper) (b:List Oper):Option PC :=
 match o.op with
 |.call cl=>match cl.callee with
  |.value x=>om E fl ns ops a o b x cl.args.toList
  |_=>none
 |_=>none
def Y0 (E:CW) (fl:List Nat) (ns:Nat) (ops:List Oper):Option PC :=
 match eL fl ops with
 |none=>none
 |some (a,o,b)=>oo E fl ns ops a o b
def oq (E:CW) (fl:List Nat) (ns:Nat) (ops a:List Oper) (o:Oper) (b:List Oper) (x:Operand) (args:List Operand):Option PC :=
 match Oi E x,Qa E args,BV (Hz E true fl ns ops) a,BV (Hz E true fl ns ops) b,dB ns ops o.guard with
 |some y,some ys,some l1,some l2,some gd=>if (qW a (o::b) (X6 ops) (cu (X6 ops) l1) && T5 ns o.dst)=true then some (.ydr [] (cu (X6 ops) l1) gd o.dst y ys l2 []) else none
 |_,_,_,_,_=>none
def ot (E:CW) (fl:List Nat) (ns:Nat) (ops a:List Oper) (o:Oper) (b:List Oper):Option PC :=
 match o.op with
 |.call cl=>match cl.callee with
  |.value x=>oq E fl ns ops a o b x cl.args.toList
  |_=>none
 |_=>none
def Y1 (E:CW) (fl:List Nat) (ns:Nat) (ops:List Oper):Option PC :=
 match eL fl ops with
 |none=>none
 |some (a,o,b)=>ot E fl ns ops a o b
def Y3 (E:CW) (fl:List Nat) (ns:Nat):List Oper->Option PC
 |[]=>none
 |o::b=>match o.op with
  |.next x false=>match Oi E x,BV (Hz E false fl ns (o::b)) b with
   |some y,some l2=>if (o.guard.isNone && T5 ns o.dst)=true then some (.nxt [] o.dst y l2 []) else none
   |_,_=>none
  |_=>none
def gh (E:CW) (fl:List Nat) (ns:Nat) (ops:List Oper):Option PC:=match Y0 E fl ns ops with
 |some p=>some p
 |none=>Y3 E fl ns ops
def RL (E:CW) (fl:List Nat) (ns:Nat):Code->Option PC
 |.skip=>some .skip
 |.region id ops draw =>
  match (if draw then Y1 E fl ns ops.toList else gh E fl ns ops.toList) with
  |some p=>some p
  |none=>match BV (Hz E draw fl ns ops.toList) ops.toList with
  |none=>some .dead
  |some is=>if draw then
    (
     if (!is.any nj && nN ops.toList (X6 ops.toList) (cu (X6 ops.toList) is))=true then some (.draw [] (cu (X6 ops.toList) is) [])
     else match Tr ops is ops.size (Array.replicate ops.size false) with
      |some t=>some (.any [] t [])
      |none=>none)
   else some (.reg [] is [])
 |.seq a b=>match RL E fl ns a,RL E fl ns b with
  |some x,some y=>some (.seq x y)
  |_,_=>none
 |.cond c a b=>match Oi E c,RL E fl ns a,RL E fl ns b with
  |some z,some x,some y=>some (.cond z x y)
  |_,_,_=>none
 |.block id a=>(RL E fl ns a).map (.block id)
 |.loop a=>(RL E fl ns a).map (.loop [] [] [])
 |.exit id=>some (.exit id)
 |.ret=>some .ret
 |.scope a=>(RL E fl ns a).map .scope
 |.label _=>some .lab
 |.rangeFunc x ps b a=>match Oi E x,RL E fl ns b,RL E fl ns a with
  |some g,some pb,some pa=>if (ps.toList.all fun p=>decide (p<ns))=true then some (.rngF [] g ps.toList [] [] pb [] [] pa) else none
  |_,_,_=>none
 |_=>none
theorem Ws (pre:List (List Nat)) (is:List Ew):(cu pre is).map (·.1)=is:=by
 simp only[cu,List.map_map]
 apply List.ext_getElem?
 intro i
 simp only[List.getElem?_map,List.getElem?_zipIdx,Option.map_map]
 cases is[i]?<;>rfl
theorem VF {E:CW}{fl:List Nat}{ns id:Nat}{ops:List Oper}{p:PC}(h:Y0 E fl ns ops=some p):DW E fl ns p (.region id ops.toArray false):=by
 unfold Y0 at h
 split at h
 ·cases h
 ·rename_i a o b hs
  rw[UY hs] at h ⊢
  unfold oo at h
  split at h
  ·rename_i cl hop
   split at h
   ·rename_i x hc
    unfold om at h
    split at h
    ·rename_i y ys l1 l2 hy hys h1 h2
     split at h
     ·rename_i hok
      simp only[Bool.and_eq_true] at hok
      simp at h;subst h
      refine .yld h1 h2 hop hc (by simpa using hok.1) hy hys fun t ht=>?_
      have:=hok.2
      rw[ht] at this
      simpa[T5] using this
     ·cases h
    ·cases h
   ·cases h
  ·cases h
theorem VG {E:CW}{fl:List Nat}{ns id:Nat}{ops:List Oper}{p:PC}(h:Y1 E fl ns ops=some p):DW E fl ns p (.region id ops.toArray true):=by
 unfold Y1 at h
 split at h
 ·cases h
 ·rename_i a o b hs
  rw[UY hs] at h ⊢
  unfold ot at h
  split at h
  ·rename_i cl hop
   split at h
   ·rename_i x hc
    unfold oq at h
    split at h
    ·rename_i y ys l1 l2 gd hy hys h1 h2 hg
     split at h
     ·rename_i hok
      simp only[Bool.and_eq_true] at hok
      simp at h;subst h
      refine .ydr (by rw[Ws];exact h1) h2 hop hc hg hy hys (fun t ht=>?_) hok.1
      have:=hok.2
      rw[ht] at this
      simpa[T5] using this
     ·cases h
    ·cases h
   ·cases h
  ·cases h
theorem VI {E:CW}{fl:List Nat}{ns id:Nat}{ops:List Oper}{p:PC}(h:Y3 E fl ns ops=some p):DW E fl ns p (.region id ops.toArray false):=by
 unfold Y3 at h
 split at h
 ·cases h
 ·rename_i o b
  split at h
  ·rename_i x hop
   split at h
   ·rename_i y l2 hy h2
    split at h
    ·rename_i hok
     simp only[Bool.and_eq_true] at hok
     simp at h;subst h
     refine .nxt h2 hop (by simpa using hok.1) hy fun t ht=>?_
     have:=hok.2
     rw[ht] at this
     simpa[T5] using this
    ·cases h
   ·cases h
  ·cases h
theorem W2 {E:CW}{fl:List Nat}{ns id:Nat}{ops:List Oper}{p:PC}(h:gh E fl ns ops=some p):DW E fl ns p (.region id ops.toArray false):=by
 unfold gh at h
 split at h
 ·rename_i q hq;simp at h;subst h;exact VF hq
 ·exact VI h
theorem E_ {E:CW}{fl:List Nat}{ns:Nat}:∀{code:Code}{p:PC},RL E fl ns code=some p->DW E fl ns p code
 |.skip,p,h=>by simp[RL] at h;subst h;exact .skip
 |.region id ops draw,p,h=>by
  obtain⟨ops⟩:=ops
  simp only[RL] at h
  split at h
  ·rename_i p' hp'
   simp at h;subst h
   split at hp'
   ·rename_i hd
    have:draw=true:=by simpa using hd
    subst this
    exact VG hp'
   ·rename_i hd
    have:draw=false:=by simpa using hd
    subst this
    exact W2 hp'
  split at h
  ·simp at h;subst h;exact .dead
  ·rename_i is his
   cases draw with
   |true =>
    simp only[if_true] at h
    split at h
    ·rename_i hok;simp at h;subst h
     simp only[Bool.and_eq_true] at hok
     exact .draw (pre:=X6 ops) (by rw[Ws];exact his) hok.2
    ·split at h
     ·rename_i t ht
      simp at h;subst h
      exact .any his (by simpa using ht)
     ·cases h
   |false =>
    simp at h;subst h
    exact .reg his
 |.seq a b,p,h=>by
  simp only[RL] at h
  split at h
  ·rename_i x y hx hy;simp at h;subst h;exact .seq (E_ hx) (E_ hy)
  ·cases h
 |.cond c a b,p,h=>by
  simp only[RL] at h
  split at h
  ·rename_i z x y hz hx hy;simp at h;subst h;exact .cond hz (E_ hx) (E_ hy)
  ·cases h
 |.block id a,p,h=>by
  simp only[RL,Option.map_eq_some_iff] at h
  obtain⟨x,hx,rfl⟩:=h;exact .block (E_ hx)
 |.loop a,p,h=>by
  simp only[RL,Option.map_eq_some_iff] at h
  obtain⟨x,hx,rfl⟩:=h;exact .loop (E_ hx)
 |.exit id,p,h=>by simp[RL] at h;subst h;exact .exit
 |.ret,p,h=>by simp[RL] at h;subst h;exact .ret
 |.rangeFunc x ps b a,p,h=>by
  obtain⟨ps⟩:=ps
  simp only[RL] at h
  split at h
  ·rename_i g pb pa hg hb ha
   split at h
   ·rename_i hps
    simp at h;subst h
    exact .rngF hg (fun q hq=>by simpa using List.all_eq_true.1 hps q hq) (E_ hb) (E_ ha)
   ·cases h
  ·cases h
 |.scope a,p,h=>by
  simp only[RL,Option.map_eq_some_iff] at h
  obtain⟨x,hx,rfl⟩:=h;exact .scope (E_ hx)
 |.label _,p,h=>by simp[RL] at h;subst h;exact .lab
 |.goto _,p,h=>by simp[RL] at h
 |.refuse _,p,h=>by simp[RL] at h
def PC.raw:PC->PC
 |.skip=>.skip
 |.reg _ l _=>.reg [] l []
 |.draw _ l _=>.draw [] l []
 |.any _ t _=>.any [] t []
 |.seq a b=>.seq a.raw b.raw
 |.cond c a b=>.cond c a.raw b.raw
 |.block id a=>.block id a.raw
 |.loop _ _ _ a=>.loop [] [] [] a.raw
 |.exit id=>.exit id
 |.ret=>.ret
 |.dead=>.dead
 |.scope a=>.scope a.raw
 |.lab=>.lab
 |.yld _ l1 d y xs l2 _=>.yld [] l1 d y xs l2 []
 |.nxt _ d y l2 _=>.nxt [] d y l2 []
 |.ydr _ l1 gd d y xs l2 _=>.ydr [] l1 gd d y xs l2 []
 |.rngF _ g ps _ _ b _ _ a=>.rngF [] g ps [] [] b.raw [] [] a.raw
theorem E8 {E:CW}{fl:List Nat}{ns:Nat}:∀{p:PC}{code:Code},DW E fl ns p.raw code->DW E fl ns p code
 |.skip,_,h=>by cases h;exact .skip
 |.reg _ _ _,_,h=>by cases h with|reg h=>exact .reg h
 |.draw _ _ _,_,h=>by cases h with|draw h hok=>exact .draw h hok
 |.any _ _ _,_,h=>by cases h with|any h ht=>exact .any h ht
 |.seq _ _,_,h=>by cases h with|seq h h'=>exact .seq (E8 h) (E8 h')
 |.cond _ _ _,_,h=>by cases h with|cond hx h h'=>exact .cond hx (E8 h) (E8 h')
 |.block _ _,_,h=>by cases h with|block h=>exact .block (E8 h)
 |.loop _ _ _ _,_,h=>by cases h with|loop h=>exact .loop (E8 h)
 |.exit _,_,h=>by cases h;exact .exit
 |.ret,_,h=>by cases h;exact .ret
 |.dead,_,_=>.dead
 |.scope _,_,h=>by cases h with|scope h=>exact .scope (E8 h)
 |.lab,_,h=>by cases h;exact .lab
 |.rngF _ _ _ _ _ _ _ _ _,_,h=>by cases h with|rngF hx hp h h'=>exact .rngF hx hp (E8 h) (E8 h')
 |.yld _ _ _ _ _ _ _,_,h=>by cases h with|yld h1 h2 h3 h4 h5 h6 h7 h8=>exact .yld h1 h2 h3 h4 h5 h6 h7 h8
 |.ydr _ _ _ _ _ _ _ _,_,h=>by cases h with|ydr h1 h2 h3 h4 h5 h6 h7 h8 h9=>exact .ydr h1 h2 h3 h4 h5 h6 h7 h8 h9
 |.nxt _ _ _ _ _,_,h=>by cases h with|nxt h1 h2 h3 h4 h5=>exact .nxt h1 h2 h3 h4 h5
inductive RT where
 |t (n:Nat)
 |c (a ty:Nat) (ag:Bool) (n:Nat)
def RT.slot:RT->Nat
 |.t n=>n
 |.c a _ _ _=>a
def qU (P:Program):ResultVar->Option RT
 |.tmp t=>some (.t t)
 |.cell a ty=>match F0 P ty,Ej P ty with
  |some ag,some n=>some (.c a ty ag n)
  |_,_=>none
def mw (P:Program) (l:List ResultVar):Option (List RT):=BV (qU P) l
def qA (E:CW) (fl:List Nat) (f:FuncId):Option (PC×List RT×Nat) :=
 match E.P.funcs[f]? with
 |none=>none
 |some fn=>match fn.body,mw E.P fn.results.toList with
  |some code,some rs=>(RL E fl fn.ntmps code).map fun p=>(p,rs,fn.ntmps)
  |_,_=>none
structure Cx (E:CW) (f:FuncId) (p:PC) (rs:List RT) (n:Nat):Prop where
 ex:∃fl fn code,E.P.funcs[f]?=some fn/\fn.body=some code/\mw E.P fn.results.toList=some rs/\fn.ntmps=n/\DW E fl n p code
theorem AK {E:CW}{fl:List Nat}{f:FuncId}{p:PC}{rs:List RT}{n:Nat}(h:qA E fl f=some (p.raw,rs,n)):Cx E f p rs n:=by
 unfold qA at h
 split at h
 ·cases h
 ·rename_i fn hfn
  split at h
  ·rename_i code rs' hb hr
   simp only[Option.map_eq_some_iff] at h
   obtain⟨q,hq,he⟩:=h
   simp at he;obtain⟨rfl,rfl,rfl⟩:=he
   exact⟨fl,fn,code,hfn,hb,hr,rfl,E8 (E_ hq)⟩
  ·cases h
abbrev D_.of (w:World) (fb mine:Nat->Prop) (b0:Nat->Value):D_:={ w0:=w,fb:=fb,mine:=mine,b0:=b0 }
def Bg.enter (ds:List D):Bg:=⟨fun t=>match ds[t]? with|some d=>.d d|none=>.undef,⟨fun _=>none,fun _=>0⟩⟩
def X4 (E:CW) (s:Bg):RT->(AV->Prop)->Prop
 |.t n,K=>K (s.sl n)
 |.c a _ ag n,K=>ev E none s.V (.load ag n) [s.sl a] fun v _=>K v
def Fy (E:CW) (s:Bg):List RT->(List AV->Prop)->Prop
 |[],K=>K []
 |r::l,K=>X4 E s r fun v=>Fy E s l fun vs=>K (v::vs)
def Nr (V:AL) (r:D):List AV->Prop
 |[v]=>v.snap V=some r
 |vs=>(BV (AV.snap V) vs).map .tup=some r
def pO (E:CW) (rs:List RT) (r:D):B7->Bg->Prop
 |.exit _,_=>False
 |_,s=>Fy E s rs (Nr s.V r)
def Sz:List Value->Value
 |[v]=>v
 |vs=>.tuple vs.toArray
def pP (tm:Array Value):ResultVar->Sem Value
 |.tmp t=>pure (tm.getD t undef)
 |.cell a t=>do loadVar t (←asAddr (tm.getD a undef))
theorem II {E:CW}{c:D_}{β:Nat->Nat->Value}{s:Bg}{tm:Array Value}{w:World}(h:Br E c β s tm w) {fn:Func}{rs:List RT}(hr:mw E.P fn.results.toList=some rs) {K:List AV->Prop}(hK:Fy E s rs K) :
  ∃vs us,K vs/\DL (AM w (c.bar β s.V) β s.V.cn) vs us/\(results fn tm).run E.P w=.ok (Sz us) w:=by
 have key:∀(f:ResultVar->Sem Value),(∀t,f (.tmp t)=pure (tm.getD t undef))->(∀a t,f (.cell a t)=do loadVar t (←asAddr (tm.getD a undef)))->∀(l:List ResultVar) (rs:List RT) (K:List AV->Prop),BV (qU E.P) l=some rs->Fy E s rs K ->
   ∃vs us,K vs/\DL (AM w (c.bar β s.V) β s.V.cn) vs us/\(l.mapM f).run E.P w=.ok us w:=by
  intro f hf1 hf2 l
  induction l with
  |nil =>
   intro rs K hrs hK
   simp[BV] at hrs;subst hrs
   exact⟨[],[],hK,⟨rfl,by simp⟩,by simp⟩
  |cons x l ih =>
   intro rs K hrs hK
   simp only[BV] at hrs
   split at hrs
   ·cases hrs
   ·rename_i r hr1
    split at hrs
    ·cases hrs
    ·rename_i rs' hrs'
     simp at hrs;subst hrs
     simp only[Fy] at hK
     have one:∃v u,Fy E s rs' (fun vs=>K (v::vs))/\AM w (c.bar β s.V) β s.V.cn v u/\(f x).run E.P w=.ok u w:=by
      cases x with
      |tmp t =>
       simp[qU] at hr1;subst hr1
       exact⟨_,_,hK,h.slots t,by rw[hf1];simp⟩
      |cell a ty =>
       simp only[qU] at hr1
       split at hr1
       ·rename_i ag n hag hn
        simp at hr1;subst hr1
        simp only[X4] at hK
        obtain⟨u,hu,v,hv,hrep⟩:=Rm h hag hn (h.slots a) hK
        refine⟨v,u,hv,hrep,?_⟩
        rw[hf2,←hu]
        simp only[Instr.loadAt]
        have hp:∃ad,tm.getD a undef=.pointer (some ad):=by
         have hs:=h.slots a
         unfold ev at hK
         simp only at hK
         split at hK
         ·rename_i heq;simp at heq;rw[heq] at hs
          generalize tm.getD a undef=z at hs ⊢;cases hs;exact⟨_,rfl⟩
         ·rename_i heq;simp at heq;rw[heq] at hs
          generalize tm.getD a undef=z at hs ⊢;cases hs;exact⟨_,rfl⟩
         ·rename_i heq;simp at heq;rw[heq] at hs
          generalize tm.getD a undef=z at hs ⊢;cases hs;exact⟨_,rfl⟩
         ·rename_i heq;simp at heq;rw[heq] at hs
          generalize tm.getD a undef=z at hs ⊢
          cases hs with|d _ _ hs=>cases hs;exact⟨_,rfl⟩
         ·rename_i heq;simp at heq;rw[heq] at hs
          cases hs with|mref _ _ _ _ _ hm _=>exact Zc hm
         ·rename_i heq;simp at heq;rw[heq] at hs
          cases hs with|mref _ _ _ _ _ hm _=>exact Zd hm
         ·rename_i heq;simp at heq;rw[heq] at hs
          cases hs with|ablk _ _ _ b base vs u hb hne h1 hc hv hu=>exact⟨_,by rw[hu];rfl⟩
         ·exact hK.elim
        obtain⟨ad,hp⟩:=hp
        rw[hp];simp[asAddr,Instr.sureAddr]
       ·cases hr1
     obtain⟨v,u,h1,h2,h3⟩:=one
     obtain⟨vs,us,h4,h5,h6⟩:=ih rs' _ hrs' h1
     refine⟨v::vs,u::us,h4,⟨by simp[h5.1],fun i x y hx hy=>?_⟩,by simp only[List.mapM_cons,Sem.run_bind,h3,Result.andThen_ok,h6,Sem.run_pure]⟩
     cases i with
     |zero=>simp at hx hy;subst hx hy;exact h2
     |succ i=>simp at hx hy;exact h5.2 i x y hx hy
 have hF:results fn tm=(do let vs ←fn.results.mapM (pP tm);pure (if h:vs.size=1 then vs[0] else .tuple vs)):=by
  unfold results
  refine congrArg (fun g:ResultVar->Sem Value=>(do let vs ←fn.results.mapM g;pure (if h:vs.size=1 then vs[0] else .tuple vs):Sem Value)) (funext fun x=>?_)
  cases x<;>rfl
 obtain⟨vs,us,h1,h2,h3⟩:=key (pP tm) (fun t=>rfl) (fun a t=>rfl) fn.results.toList rs K hr hK
 refine⟨vs,us,h1,h2,?_⟩
 have hrr:fn.results=fn.results.toList.toArray:=by simp
 rw[hF,hrr]
 simp only[List.mapM_toArray,Sem.run_bind,Sem.run_map]
 rw[h3]
 simp only[Result.andThen_ok,Sem.run_pure]
 cases us with
 |nil=>simp[Sz]
 |cons t us=>cases us<;>simp[Sz]
section
variable {E:CW}
theorem Yx (ds:List D) (vs:Array Value) (n:Nat) (hv:vs.size=ds.length) (t:Nat):∃u,(vs++Array.replicate (n-vs.size) undef).getD t undef=u/\∀d,ds[t]?=some d->vs[t]?=some u:=by
 refine⟨_,rfl,fun d hd=>?_⟩
 have hlt:t<vs.size:=by rw[hv];exact(List.getElem?_eq_some_iff.1 hd).1
 simp[Array.getD_eq_getD_getElem?,Array.getElem?_append_left hlt,hlt]
theorem Ti {w:World}{fb:Nat->Prop}{ds:List D}{vs:Array Value}{n:Nat}{β:Nat->Nat->Value}(hfb:∀b,fb b->b<w.heap.size) (hg:db E w fb) (hv:vs.size=ds.length)
  (hd:∀(i:Nat) (d:D) (v:Value),ds[i]?=some d->vs[i]?=some v->Az w fb d v):Br E (D_.of w fb (fun _=>False) (fun _=>undef)) β (Bg.enter ds) (vs++Array.replicate (n-vs.size) undef) w:=by
 have hbar:∀b,((D_.of w fb (fun _=>False) (fun _=>undef)):D_).bar β (Bg.enter ds).V b->fb b:=fun b hb=>by
  rcases hb with hb|⟨o,g,x,h1,h2⟩
  ·exact hb
  ·cases h1
 refine⟨⟨rfl,rfl,rfl,Nat.le_refl _,fun _ _ _=>rfl⟩,fun b hb=>⟨hfb b hb,id⟩,fun g cs hgg=>(hg g cs hgg).mono (Ah.refl _ _) fun b _ hb=>hbar b hb,fun t=>?_,fun o g x h=>(nomatch h),?_,fun o g x b h=>(nomatch h),fun o g x _ h=>(nomatch h),fun o g els n st h=>(nomatch h)⟩
 case refine_2=>exact fun o o' g g' x x' b h=>(nomatch h)
 obtain⟨u,hu,hut⟩:=Yx ds vs n hv t
 rw[hu]
 show AM w _ β _ (match ds[t]? with|some d=>.d d|none=>.undef) u
 cases hdt:ds[t]? with
 |none=>exact .undef u
 |some d=>exact .d _ _ ((hd t d u hdt (hut d hdt)).mono (Ah.refl _ _) fun b _ hb=>hbar b hb)
theorem My {w w':World}{M:Nat->Prop}(h:D1 M w w') (hM:∀b,¬M b):Below w.heap.size w w' :=
 ⟨h.os,h.tape,h.output,h.size,fun k hk=>h.block k hk (hM k)⟩
theorem Zh {fn:Func}{R:Ending->World->Prop}{tm:Array Value}{s:Bg}{β:Nat->Nat->Value}:∀{Ds:List Nat}{c:D_}{w:World},Br E c β s tm w->Ds.Nodup->(∀D,D∈Ds->w.heap[D]?=some (.deferred (some []))/\c.fb D) ->
  (∀c2 w2,Br E c2 β s tm w2->c2.fb=c.fb->c2.b0=c.b0->(∀b,(c2.w0.heap.size<=b\/c2.mine b)->c.w0.heap.size<=b\/c.mine b)->D1 (fun b=>b∈Ds) w w2->∃v,(results fn tm).run E.P w2=.ok v w2/\R (.returned v) w2) ->
  LeavesInM Fence.wide 0 E.P fn tm R (Ds.map IX) .returning w
 |[],c,w,h,hn,hd,hk=>by
  show ∃v,_/\_
  exact hk c w h rfl rfl (fun _ h=>h) (D1.refl _ _)
 |D::Ds,c,w,h,hn,hd,hk=>by
  obtain⟨hD,hf⟩:=hd D (by simp)
  refine⟨by simp,.inl ⟨D,w.putObj D (.deferred none),rfl,run_takeDeferred hD,?_⟩⟩
  have hlt:D<w.heap.size:=(Array.getElem?_eq_some_iff.1 hD).1
  have hne:∀k,k≠D->(w.putObj D (.deferred none)).heap[k]?=w.heap[k]?:=fun k hk=>by
   simp[World.putObj,Array.getElem?_setIfInBounds_ne (Ne.symm hk)]
  have hsz:(w.putObj D (.deferred none)).heap.size=w.heap.size:=by simp[World.putObj]
  have hup:D1 (fun b=>b=D) w (w.putObj D (.deferred none)):=⟨rfl,rfl,rfl,by rw[hsz];exact Nat.le_refl _,fun k _ hk=>hne k hk⟩
  have hst:Ah (c.bar β s.V) w (w.putObj D (.deferred none)):=fun b hn _=>hne b fun e=>hn (.inl (e ▸ hf))
  obtain⟨c2,hc2⟩:∃c2:D_,c2={ c with w0:=w.putObj D (.deferred none),mine:=De β s.V,J:=fun _ _ _ _ _=>True }:=⟨_,rfl⟩
  have hbar:∀b,b<w.heap.size->c2.bar β s.V b->c.bar β s.V b:=fun b _ hb=>by subst hc2;exact hb
  have hr:Br E c2 β s tm (w.putObj D (.deferred none)):=by
   refine⟨by subst hc2;exact(D1.refl _ _).keep,fun b hb=>?_,fun gg cs hgg=>(h.glob gg cs hgg).mono hst hbar,fun t=>(h.slots t).mono hst hbar (fun _ _ _=>rfl) (fun _=>Nat.le_refl _),fun o g x hx=>?_,h.sep,fun o g x b hx hb=>?_,fun o g x hl hx=>?_,fun o g els n st hx=>?_⟩
   ·subst hc2
    refine⟨by show b<(w.putObj D (.deferred none)).heap.size;rw[hsz];exact Nat.lt_of_lt_of_le (h.low b hb).1 h.keep.size,fun ho=>?_⟩
    obtain⟨o,g,x,h1,h2⟩:=ho
    exact(h.home o g x b h1 h2).2.2 hb
   ·obtain⟨h1,h2⟩:=h.objs o g x hx
    exact⟨h1,h2.mono hst hbar (fun _ _ _=>rfl) (fun _=>Nat.le_refl _) fun b hb _=>hne b fun e=>(h.home o g x b hx hb).2.2 (e ▸ hf)⟩
   ·subst hc2
    obtain⟨h1,_,h3⟩:=h.home o g x b hx hb
    exact⟨by rw[hsz];exact h1,.inr ⟨o,g,x,hx,hb⟩,h3⟩
   ·subst hc2;exact h.pin o g x hl hx
   ·subst hc2
    obtain⟨h1,h2,_,h4⟩:=h.hist o g els n st hx
    exact⟨h1,h2,trivial,h4⟩
  rw[List.nodup_cons] at hn
  refine Zh (c:=c2) hr hn.2 (fun D' hD'=>?_) fun c3 w3 h3 e1 e2 e3 e4=>?_
  ·obtain⟨k1,k2⟩:=hd D' (List.mem_cons_of_mem _ hD')
   refine⟨?_,by subst hc2;exact k2⟩
   rw[hne D' fun e=>hn.1 (e ▸ hD')];exact k1
  ·refine hk c3 w3 h3 (by rw[e1];subst hc2;rfl) (by rw[e2];subst hc2;rfl) (fun b hb=>?_) ((hup.mono fun i _ hi=>by subst hi;simp).trans e4 fun i _ hi=>List.mem_cons_of_mem _ hi)
   have:=e3 b hb
   subst hc2
   rcases this with h5|h5
   ·left
    have h6:(w.putObj D (.deferred none)).heap.size<=b:=h5
    rw[hsz] at h6
    exact Nat.le_trans h.keep.size h6
   ·obtain⟨o,g,x,k1,k2⟩:=h5
    exact(h.home o g x b k1 k2).2.1
theorem I1 {fl:List Nat}{f:FuncId}{fn:Func}{code:Code}{p:PC}{args:Array Value}{R:Ending->World->Prop}{Q:B7->Bg->Prop}{s:Bg}{c:D_}{β:Nat->Nat->Value}{w:World}(hfn:E.P.funcs[f]?=some fn) (hb:fn.body=some code) (hm:E.P.follows .mixedOrders=true) (hp:DW E fl fn.ntmps p code)
  (h:Br E c β s (args++Array.replicate (fn.ntmps-args.size) undef) w) (hy:VQ E c) (hnr:c.nr=true->p.noR=true) (hsz:args.size<=fn.ntmps) (hpw:pw E p Q s)
  (hq:∀e s' β' tm' c' w',Q e s'->(∀id,e=.exit id->False)/\(Br E c' β' s' tm' w'->(∀b,c.fb b->c'.fb b\/c.may b)->(∀o,o<5000000->c'.b0 o=c.b0 o)->(∀b,(c'.w0.heap.size<=b\/c'.mine b)->c.w0.heap.size<=b\/c.mine b)->D1 (fun b=>c.mine b\/c.may b) c.w0 w' ->
   ∃v,(results fn tm').run E.P w'=.ok v w'/\R (.returned v) w')):Calls E.P f args w R:=by
 refine callsIn_wide.1 (callsIn_of_wp_marks (n:=0) hfn hb trivial (WH hm hp none 0 h hy hnr (fun e=>by cases e) (by simp;omega) hpw fun e s' β' c' tm' Ds w' hk he hy' hmk hr htm=>?_))
 have fin:(∀id,e=.exit id->False)->LeavesInM Fence.wide 0 E.P fn tm' R (Ds.map IX++[]) .returning w':=fun hne=>by
  rw[List.append_nil]
  have hkw:D1 (fun b=>c.mine b\/c.may b) c.w0 w':=he.keep w' (hr.keep.upto.mono fun i _ hi=>.inl hi)
  refine Zh hr hmk.nodup (fun D hD=>?_) fun c2 w2 h2 e1 e2 e3 e4=>?_
  ·obtain⟨ha,_⟩:=hmk.alive D hD
   refine⟨?_,ha.2.2.2⟩
   rw[hr.keep.block D ha.lt ha.2.1];exact ha.1
  ·refine(hq e s' β' tm' c2 w2 hk).2 h2 (fun b hb=>?_) (fun o ho=>by rw[e2];exact he.b0 o (.inl ho)) (fun b hb=>he.mine b (e3 b hb)) (hkw.trans (e4.mono (M':=fun b=>b∈Ds) fun _ _ h=>h) fun i hi hD=>?_)
   ·rw[e1];exact he.fb b hb
   ·have:=(hmk.alive i hD).2;omega
 have hx:=(hq e s' β' tm' c' w' hk).1
 cases e with
 |normal=>exact fin hx
 |ret=>exact fin hx
 |exit id=>exact(hx id rfl).elim
theorem jO {c:D_}{β:Nat->Nat->Value}{s:Bg}{tm:Array Value}{w:World}(h:Br E c β s tm w) {vs:List AV}{us:List Value}{r:D}(hv:DL (AM w (c.bar β s.V) β s.V.cn) vs us) (hr:Nr s.V r vs):Az w c.fb r (Sz us):=by
 have many:(BV (AV.snap s.V) vs).map .tup=some r->Az w c.fb r (.tuple us.toArray):=by
  intro hts
  simp only[Option.map_eq_some_iff] at hts
  obtain⟨l,hl,rfl⟩:=hts
  refine .tup _ _ (by simp[Aw hl,hv.1]) fun i d u hd hu=>?_
  obtain⟨x,hx,hsn⟩:=Bi hl hd
  exact Ro h (hv.2 i x u hx (by simpa using hu)) hsn
 unfold Nr at hr
 split at hr
 ·rename_i v
  obtain⟨u,rfl,h1⟩:=HC hv
  exact Ro h h1 hr
 ·rename_i hne
  have:Sz us=.tuple us.toArray:=by
   unfold Sz;split
   ·have:=hv.1
    cases vs with
    |nil=>simp at this
    |cons v vs=>cases vs with
     |nil=>exact absurd rfl (hne _)
     |cons _ _=>simp at this
   ·rfl
  rw[this];exact many hr
theorem AN {f:FuncId}{p:PC}{rs:List RT}{n:Nat}{ds:List D}{r:D}(hf:Cx E f p rs n) (hm:E.P.follows .mixedOrders=true) (hn:ds.length<=n) (h:(∀d,d∈ds->d.WF)->pw E p (pO E rs r) (Bg.enter ds)):Cc E f ds r:=by
 obtain⟨fl,fn,code,hfn,hb,hr,hnn,hp⟩:=hf
 intro w fb vs hfb hg hv hd
 have hwf:∀d,d∈ds->d.WF:=fun d hdm=>by
  obtain⟨i,hi⟩:=List.getElem?_of_mem hdm
  have hlt:i<vs.size:=by rw[hv];exact(List.getElem?_eq_some_iff.1 hi).1
  exact(hd i d _ hi (Array.getElem?_eq_getElem hlt)).wf
 subst hnn
 refine I1 hfn hb hm hp (β:=fun _ _=>undef) (c:=(D_.of w fb (fun _=>False) (fun _=>undef))) (Ti hfb hg hv hd) (.pure rfl rfl) (fun e=>by cases e) (by omega) (h hwf) fun e s' β' tm' c' w' hq=>?_
 have hres:(∀id,e=.exit id->False)/\Fy E s' rs (Nr s'.V r):=by cases e with
  |normal=>exact⟨fun _ h=>B7.noConfusion h,hq⟩
  |ret=>exact⟨fun _ h=>B7.noConfusion h,hq⟩
  |exit id=>exact hq.elim
 refine⟨hres.1,fun hrel k1 k2 k3 k4=>?_⟩
 obtain⟨vs,us,h1,h2,h3⟩:=II hrel hr hres.2
 exact⟨_,h3,_,rfl,My k4 fun b hb=>hb.elim id id,(jO hrel h2 h1).mono (Ah.refl _ _) fun b _ hb=>(k1 b hb).resolve_right id⟩
def mj (V:AL) (ety es:Nat) (nl:Bool) (l:List D):List AV->Prop
 |[.own o g]=>V.get o g=some (.row ety es nl l)
 |[.d (.list true [])]=>nl=true/\l=[]
 |_=>False
def Rr (V:AL) (ety es:Nat) (P:Bool->List D->Prop):List AV->Prop
 |[.own o g]=>(∃nl l,V.get o g=some (.row ety es nl l)/\P nl l)\/V.get o g=some (.rowP ety es P)
 |[.d (.list true [])]=>P true []
 |_=>False
def qt (E:CW) (rs:List RT) (ety es:Nat) (nl:Bool) (l:List D):B7->Bg->Prop
 |.exit _,_=>False
 |_,s=>Fy E s rs (mj s.V ety es nl l)
def ej (E:CW) (rs:List RT) (ety es:Nat) (P:Bool->List D->Prop):B7->Bg->Prop
 |.exit _,_=>False
 |_,s=>Fy E s rs (Rr s.V ety es P)
theorem Rt {f:FuncId}{p:PC}{rs:List RT}{n ety es:Nat}{ds:List D}{P:Bool->List D->Prop}{q:B7->Bg->Prop}{R:AL->List AV->Prop}(hR:∀V vs,R V vs->Rr V ety es P vs) (hq:∀e s,q e s->(∀id,e=.exit id->False)/\Fy E s rs (R s.V))
  (hf:Cx E f p rs n) (hm:E.P.follows .mixedOrders=true) (hn:ds.length<=n) (h:(∀d,d∈ds->d.WF)->pw E p q (Bg.enter ds)):ZH E f ds ety es P:=by
 obtain⟨fl,fn,code,hfn,hb,hr,hnn,hp⟩:=hf
 intro w fb vs hfb hg hv hd
 have hwf:∀d,d∈ds->d.WF:=fun d hdm=>by
  obtain⟨i,hi⟩:=List.getElem?_of_mem hdm
  have hlt:i<vs.size:=by rw[hv];exact(List.getElem?_eq_some_iff.1 hi).1
  exact(hd i d _ hi (Array.getElem?_eq_getElem hlt)).wf
 subst hnn
 refine I1 hfn hb hm hp (β:=fun _ _=>undef) (c:=(D_.of w fb (fun _=>False) (fun _=>undef))) (Ti hfb hg hv hd) (.pure rfl rfl) (fun e=>by cases e) (by omega) (h hwf) fun e s' β' tm' c' w' hqq=>?_
 have hres:=hq _ _ hqq
 refine⟨hres.1,fun hrel q1 q2 q3 q4=>?_⟩
 have hmin:∀b,(c'.w0.heap.size<=b\/c'.mine b)->w.heap.size<=b:=fun b hb=>(q3 b hb).resolve_right id
 ·obtain⟨vs,us,h1,h2,h3⟩:=II hrel hr hres.2
  refine⟨_,h3,_,rfl,My q4 fun b hb=>hb.elim id id,?_⟩
  replace h1:=hR _ _ h1
  unfold Rr at h1
  split at h1
  ·rename_i o g
   obtain⟨u,rfl,hs⟩:=HC h2
   show (∀b,C8 u b->_)/\∃nl l,P nl l/\CM w' (fun b=>fb b\/C8 u b) ety es nl l u
   obtain⟨x,h1,h1'⟩:∃x,s'.V.get o g=some x/\((∃nl l,x=.row ety es nl l/\P nl l)\/x=.rowP ety es P):=by
    rcases h1 with⟨nl,l,h1,hp⟩|h1
    ·exact⟨_,h1,.inl ⟨nl,l,rfl,hp⟩⟩
    ·exact⟨_,h1,.inr rfl⟩
   cases hs with
   |own _ _ hgg hone =>
    obtain⟨_,ho⟩:=hrel.objs _ _ _ (AL.get_some h1)
    refine⟨fun b hbb=>?_,?_⟩
    ·exact hmin b (hrel.home o g _ b (AL.get_some h1) hbb).2.1
    ·have hown:∀b,C8 (β' o g) b->De β' s'.V b:=fun b hbb=>⟨o,g,_,AL.get_some h1,hbb⟩
     generalize hvv:β' o g=v at ho hown
     have key:∀{nl l},CM w' (c'.bar β' s'.V) ety es nl l v->CM w' (fun b=>fb b\/C8 v b) ety es nl l v:=fun ho=>ho.mono (Ah.refl _ _) (fun b _ hb=>hb.elim (fun h=>.inl ((q1 b h).resolve_right id)) fun h=>.inr (hown b h)) fun _ _ _=>rfl
     rcases h1' with⟨nl,l,rfl,hp⟩|rfl
     ·cases ho with|row _ _ _ _ _ ho=>exact⟨nl,l,hp,key ho⟩
     ·cases ho with|rowP _ _ _ nl l _ hp ho=>exact⟨nl,l,hp,key ho⟩
  ·obtain⟨u,rfl,hs⟩:=HC h2
   cases hs with
   |d _ _ hs=>cases hs;exact⟨fun b hbb=>by simp[Sz,C8,BX] at hbb,true,[],h1,.inl ⟨rfl,rfl,rfl⟩⟩
  ·exact h1.elim
theorem Ru {f:FuncId}{p:PC}{rs:List RT}{n ety es:Nat}{ds:List D}{P:Bool->List D->Prop}(hf:Cx E f p rs n) (hm:E.P.follows .mixedOrders=true) (hn:ds.length<=n) (h:(∀d,d∈ds->d.WF)->pw E p (ej E rs ety es P) (Bg.enter ds)):ZH E f ds ety es P :=
 Rt (R:=fun V=>Rr V ety es P) (fun _ _ h=>h) (fun e s hq=>by cases e with
  |normal=>exact⟨fun _ h=>B7.noConfusion h,hq⟩
  |ret=>exact⟨fun _ h=>B7.noConfusion h,hq⟩
  |exit id=>exact hq.elim) hf hm hn h
theorem NH {f:FuncId}{p:PC}{rs:List RT}{n ety es:Nat}{ds:List D}{nl:Bool}{l:List D}(hf:Cx E f p rs n) (hm:E.P.follows .mixedOrders=true) (hn:ds.length<=n) (h:(∀d,d∈ds->d.WF)->pw E p (qt E rs ety es nl l) (Bg.enter ds)):iC E f ds ety es nl l :=
 Rt (R:=fun V=>mj V ety es nl l) (fun V vs hv=>by
  unfold mj at hv
  split at hv
  ·exact .inl ⟨_,_,hv,rfl,rfl⟩
  ·exact⟨hv.1.symm,hv.2.symm⟩
  ·exact hv.elim) (fun e s hq=>by cases e with
  |normal=>exact⟨fun _ h=>B7.noConfusion h,hq⟩
  |ret=>exact⟨fun _ h=>B7.noConfusion h,hq⟩
  |exit id=>exact hq.elim) hf hm hn h
def Bt:List (Nat×(Nat×AW))->Nat->Option (Nat×AW)
 |[]=>fun _=>none
 |(k,v)::l=>fun t=>if t=k then some v else Bt l t
theorem E9:∀{l:List (Nat×(Nat×AW))}{o:Nat}{v:Nat×AW},Bt l o=some v->(o,v)∈l
 |[],_,_,h=>by cases h
 |(k,u)::l,o,v,h=>by
  simp only[Bt] at h
  split at h
  ·rename_i e;simp at h;subst e h;simp
  ·exact List.mem_cons_of_mem _ (E9 h)
def AV.WF:AV->Prop
 |.d z=>z.WF
 |_=>True
def AW.WF:AW->Prop
 |.cells xs=>∀x,x∈xs->x.WF
 |.row _ _ nl l=>(D.list nl l).WF
 |.map _ kvs=>∀kv,kv∈kvs->kv.1.WF/\kv.2.WF
 |.mapB _ ks _=>∀k,k∈ks->k.2.1.WF/\k.2.2.WF
 |.hist _ _ _=>True
 |.rowP ..=>True
 |.rowH ..=>True
 |.mitO ..=>True
 |.mitD ..=>True
 |.mat _ _ nl ix rows=>ix.length<=maxLen/\(nl=true->ix=[])/\(∀j,j∈ix->j<rows.length)/\∀x,x∈rows->(D.list x.1 x.2).WF
theorem AM.wf {w:World} {fb β cn} {x:AV}{v:Value}(h:AM w fb β cn x v):x.WF:=by
 cases h with
 |d x v h=>exact h.wf
 |_=>trivial
theorem CM.wf {w:World}{fb:Nat->Prop} {ety es nil xs v} (h:CM w fb ety es nil xs v):(D.list nil xs).WF:=by
 rw[D.WF]
 rcases h with⟨h1,h2,h3⟩|⟨h1,b,off,cap,cur,h2,h3,h4,h5,h6,h7,h8,h10,h9⟩
 ·subst h2;simp[maxLen]
 ·refine⟨by omega,fun x hx=>D.wf_of_cells fun c hc=>?_⟩
  obtain⟨i,hi⟩:=List.getElem?_of_mem hx
  obtain⟨j,hj⟩:=List.getElem?_of_mem hc
  obtain⟨u,_,hd⟩:=h9 i x j c hi hj
  exact hd.wf
theorem Dn.wf {w:World} {fb β cn} {x:AW}{v:Value}(h:Dn w fb β cn x v):x.WF:=by
 cases h with
 |cells xs b cur e hb hl h1 h =>
  intro x hx
  obtain⟨i,hi⟩:=List.getElem?_of_mem hx
  have hlt:i<cur.size:=by have:=(List.getElem?_eq_some_iff.1 hi).1;omega
  exact(h i x _ hi (Array.getElem?_eq_getElem hlt)).wf
 |row ety es nil xs v h =>
  show (D.list nil xs).WF
  rw[D.WF]
  rcases h with⟨h1,h2,h3⟩|⟨h1,b,off,cap,cur,h2,h3,h4,h5,h6,h7,h8,h10,h9⟩
  ·subst h2;simp[maxLen]
  ·refine⟨by omega,fun x hx=>D.wf_of_cells fun c hc=>?_⟩
   obtain⟨i,hi⟩:=List.getElem?_of_mem hx
   obtain⟨j,hj⟩:=List.getElem?_of_mem hc
   obtain⟨u,_,hd⟩:=h9 i x j c hi hj
   exact hd.wf
 |map tys kvs b es hb hl h =>
  intro kv hkv
  obtain⟨i,hi⟩:=List.getElem?_of_mem hkv
  have hlt:i<es.size:=by have:=(List.getElem?_eq_some_iff.1 hi).1;omega
  obtain⟨_,h1,h2,_⟩:=h i kv _ hi (Array.getElem?_eq_getElem hlt)
  exact⟨h1.wf,h2.wf⟩
 |mapB tys ks cl b es hb hl hr h =>
  intro k hk
  obtain⟨i,hi⟩:=List.getElem?_of_mem hk
  have hlt:i<es.size:=by have:=(List.getElem?_eq_some_iff.1 hi).1;omega
  obtain⟨_,h1,h2,_⟩:=h i k _ hi (Array.getElem?_eq_getElem hlt)
  exact⟨h1.wf,h2.wf⟩
 |mitO=>trivial
 |mitD=>trivial
 |hist=>trivial
 |rowP=>trivial
 |rowH=>trivial
 |mat e1 e2 nil ix rows v h =>
  obtain⟨v0,vs,hvv,hlen,h0,hr,hsep⟩:=h
  refine⟨?_,?_,fun j hj=>?_,fun x hx=>?_⟩
  ·rcases h0 with⟨_,h2,_⟩|⟨_,b,off,cap,cur,h2,h3,h4,h5,_⟩
   ·subst h2;simp
   ·omega
  ·rcases h0 with⟨_,h2,_⟩|⟨h2,_⟩
   ·exact fun _=>h2
   ·intro hh;rw[h2] at hh;cases hh
  ·rcases h0 with⟨_,h2,_⟩|⟨_,b,off,cap,cur,h2,h3,h4,h5,h6,h7⟩
   ·subst h2;cases hj
   ·obtain⟨p,hp⟩:=List.getElem?_of_mem hj
    obtain⟨u,hu,_⟩:=h7 p j hp
    have:=(List.getElem?_eq_some_iff.1 hu).1;omega
  ·obtain⟨j,hj⟩:=List.getElem?_of_mem hx
   obtain⟨u,hu⟩:∃u,vs[j]?=some u:=⟨_,List.getElem?_eq_getElem (by have:=(List.getElem?_eq_some_iff.1 hj).1;omega)⟩
   by_cases ha:KC x=true
   ·exact((hr j x u hj hu).2 ha).wf
   ·obtain⟨b,l⟩:=x
    cases l with
    |nil=>rw[D.WF];exact⟨by simp,fun _ h=>by cases h⟩
    |cons=>simp[KC] at ha
def Bg.enterM (V0:List (Nat×Nat×AW)) (xs:List AV):Bg:=⟨fun t=>match xs[t]? with|some x=>x|none=>.undef,⟨Bt V0,fun _=>1⟩⟩
def Jv (V0:List (Nat×Nat×AW)):Bool:=(V0.all fun p=>p.2.1 == 0 && (decide (p.1<5000000) && !p.2.2.isHist)) && Dt (V0.map (·.1))
theorem X5 {w:World}{fb:Nat->Prop}{V0:List (Nat×Nat×AW)}{xs:List AV}{vs:Array Value}{n:Nat}{β:Nat->Nat->Value}(hfb:∀b,fb b->b<w.heap.size) (hg:db E w (fun b=>fb b\/FZ β V0 b))
  (hat:At w fb β (fun _=>1) V0) (hok:Jv V0=true) (hv:vs.size=xs.length)
  (hd:∀(i:Nat) (x:AV) (v:Value),xs[i]?=some x->vs[i]?=some v->AM w (fun b=>fb b\/FZ β V0 b) β (fun _=>1) x v) :
  Br E (D_.of w fb (FZ β V0) (fun o=>β o 0)) β (Bg.enterM V0 xs) (vs++Array.replicate (n-vs.size) undef) w:=by
 simp only[Jv,Bool.and_eq_true,List.all_eq_true] at hok
 obtain⟨hz,hnd⟩:=hok
 have hbar:∀b,(D_.of w fb (FZ β V0) (fun o=>β o 0)).bar β (Bg.enterM V0 xs).V b->(fb b\/FZ β V0 b):=fun b hb=>by
  rcases hb with hb|⟨o,g,x,h1,h2⟩
  ·exact .inl hb
  ·exact .inr ⟨o,g,x,E9 h1,h2⟩
 refine⟨⟨rfl,rfl,rfl,Nat.le_refl _,fun _ _ _=>rfl⟩,fun b hb=>⟨hfb b hb,fun⟨o,g,x,h1,h2⟩=>(hat.home o g x b h1 h2).2 hb⟩,fun g cs hgg=>(hg g cs hgg).mono (Ah.refl _ _) fun b _ hb=>hbar b hb,fun t=>?_,fun o g x h=>?_,fun o o' g g' x x' b h h' hb hb'=>?_,fun o g x b h hb=>?_,fun o g x _ h=>?_,fun o g els n st h=>?_⟩
 ·have hu:∃u,(vs++Array.replicate (n-vs.size) undef).getD t undef=u/\∀d,xs[t]?=some d->vs[t]?=some u:=by
   refine⟨_,rfl,fun d hd=>?_⟩
   have hlt:t<vs.size:=by rw[hv];exact(List.getElem?_eq_some_iff.1 hd).1
   simp[Array.getD_eq_getD_getElem?,Array.getElem?_append_left hlt,hlt]
  obtain⟨u,hu,hut⟩:=hu
  rw[hu]
  show AM w _ β _ (match xs[t]? with|some x=>x|none=>.undef) u
  cases hxt:xs[t]? with
  |none=>exact .undef u
  |some x=>exact(hd t x u hxt (hut x hxt)).mono (Ah.refl _ _) (fun b _ hb=>hbar b hb) (fun _ _ _=>rfl) fun _=>Nat.le_refl _
 ·obtain⟨h1,h2⟩:=hat.objs o g x (E9 h)
  exact⟨h1,h2.mono (Ah.refl _ _) (fun b _ hb=>hbar b hb) (fun _ _ _=>rfl) (fun _=>Nat.le_refl _) fun _ _ _=>rfl⟩
 ·exact(hat.sep _ _ _ _ _ _ b (E9 h) (E9 h') hb hb').1
 ·obtain⟨h1,h2⟩:=hat.home o g x b (E9 h) hb
  exact⟨h1,.inr ⟨o,g,x,E9 h,hb⟩,h2⟩
 ·have:=hz _ (E9 h)
  simp at this
  rw[this.1]
 ·have:=hz _ (E9 h)
  simp[AW.isHist] at this
def YY (V1:List (Nat×Nat×AW)) (o:Nat):Bool:=V1.any fun p=>p.1 == o
def Qb (V1:List (Nat×Nat×AW)) (V:AL) (v:AV):AV->Prop
 |.d d=>v.snap V=some d/\(v.sites.all fun o=>!YY V1 o)=true
 |r=>v=r
def Om (V1:List (Nat×Nat×AW)) (V:AL):List AV->List AV->Prop
 |[],[]=>True
 |v::vs,r::rs=>Qb V1 V v r/\Om V1 V vs rs
 |_,_=>False
def jx (V1:List (Nat×Nat×AW)) (V:AL) (r:AV):List AV->Prop
 |[v]=>Qb V1 V v r
 |vs=>match r with
  |.tup rs=>Om V1 V vs rs
  |_=>False
def fq (V:AL):List (Nat×Nat×AW)->Prop
 |[]=>True
 |(o,g,x)::l=>V.ob o=some (g,x)/\fq V l
def mu (E:CW) (rs:List RT) (V1:List (Nat×Nat×AW)) (r:AV):B7->Bg->Prop
 |.exit _,_=>False
 |_,s=>Fy E s rs (jx V1 s.V r)/\fq s.V V1
theorem Gq {V:AL}:∀{V1:List (Nat×Nat×AW)},fq V V1->∀o g x,(o,g,x)∈V1->V.ob o=some (g,x)
 |(o',g',x')::l,h,o,g,x,hm=>by
  rcases List.mem_cons.1 hm with he|hm
  ·cases he;exact h.1
  ·exact Gq h.2 o g x hm
theorem T_ {c:D_}{β:Nat->Nat->Value}{s:Bg}{tm:Array Value}{w:World}(h:Br E c β s tm w) {V1:List (Nat×Nat×AW)}(hin:fq s.V V1) {v r:AV}{u:Value}(hv:AM w (c.bar β s.V) β s.V.cn v u) (hr:Qb V1 s.V v r) :
  AM w (fun b=>c.fb b\/FZ β V1 b) β s.V.cn r u:=by
 have hb:∀b,(c.fb b\/FZ β V1 b)->c.bar β s.V b:=fun b hb=>by
  rcases hb with hb|⟨o,g,x,h1,h2⟩
  ·exact .inl hb
  ·exact .inr ⟨o,g,x,Gq hin _ _ _ h1,h2⟩
 have other:v=r->AM w (fun b=>c.fb b\/FZ β V1 b) β s.V.cn r u:=fun e=>by
  subst e;exact hv.mono (Ah.refl _ _) (fun b _ h=>hb b h) (fun _ _ _=>rfl) fun _=>Nat.le_refl _
 cases r with
 |d d =>
  obtain⟨h1,h2⟩:=hr
  refine .d _ _ (Tb h hb hv h1 fun o g y b ho hob hbb hf=>?_)
  rcases hf with hf|⟨o',g',x',h3,h4⟩
  ·exact(h.home o g y b hob hbb).2.2 hf
  ·have:=h.sep _ _ _ _ _ _ b hob (Gq hin _ _ _ h3) hbb h4
   subst this
   have:=List.all_eq_true.1 h2 _ ho
   have hh:YY V1 o=true:=by simp only[YY,List.any_eq_true];exact⟨_,h3,by simp⟩
   rw[hh] at this;cases this
 |_=>exact other hr
theorem jw {c:D_}{β:Nat->Nat->Value}{s:Bg}{tm:Array Value}{w:World}(h:Br E c β s tm w) {V1:List (Nat×Nat×AW)}(hin:fq s.V V1) {vs:List AV}{us:List Value}{r:AV}(hv:DL (AM w (c.bar β s.V) β s.V.cn) vs us) (hmk:jx V1 s.V r vs) :
  AM w (fun b=>c.fb b\/FZ β V1 b) β s.V.cn r (Sz us):=by
 have many:(∃rs,r=.tup rs/\Om V1 s.V vs rs)->AM w (fun b=>c.fb b\/FZ β V1 b) β s.V.cn r (.tuple us.toArray):=by
  rintro⟨rs,rfl,hts⟩
  ·have key:∀(vs rs:List AV) (us:List Value),DL (AM w (c.bar β s.V) β s.V.cn) vs us->Om V1 s.V vs rs->us.length=rs.length/\∀(i:Nat) (x:AV) (u:Value),rs[i]?=some x->us[i]?=some u->AM w (fun b=>c.fb b\/FZ β V1 b) β s.V.cn x u:=by
    intro vs
    induction vs with
    |nil =>
     intro rs us hv hc
     cases rs with
     |nil=>rw[hv.nil];exact⟨rfl,fun i x u hx=>by simp at hx⟩
     |cons _ _=>exact hc.elim
    |cons v vs ih =>
     intro rs us hv hc
     cases rs with
     |nil=>exact hc.elim
     |cons r rs =>
      obtain⟨u,us',rfl,h1,h2⟩:=hv.cons'
      obtain⟨i1,i2⟩:=ih rs us' h2 hc.2
      refine⟨by simp[i1],fun i x y hx hy=>?_⟩
      cases i with
      |zero=>simp at hx hy;subst hx hy;exact T_ h hin h1 hc.1
      |succ i=>simp at hx hy;exact i2 i x y hx hy
   obtain⟨k1,k2⟩:=key vs rs us hv hts
   exact .tup _ _ (by simpa using k1) fun i x u hx hu=>k2 i x u hx (by simpa using hu)
 unfold jx at hmk
 split at hmk
 ·obtain⟨u,rfl,h1⟩:=HC hv
  exact T_ h hin h1 hmk
 ·rename_i hne
  have:Sz us=.tuple us.toArray:=by
   unfold Sz;split
   ·have:=hv.1
    cases vs with
    |nil=>simp at this
    |cons v vs=>cases vs with
     |nil=>exact absurd rfl (hne _)
     |cons _ _=>simp at this
   ·rfl
  rw[this]
  refine many ?_
  split at hmk
  ·exact⟨_,rfl,hmk⟩
  ·exact hmk.elim
theorem CT {f:FuncId}{p:PC}{rs:List RT}{n:Nat}{V0 V1:List (Nat×Nat×AW)}{xs:List AV}{r:AV}(hf:Cx E f p rs n) (hm:E.P.follows .mixedOrders=true) (hn:xs.length<=n) (h0:Jv V0=true)
  (h1:(V0.all fun q=>decide (q.1<C_) || It V1 q.1 q.2.1)=true) (h:(∀x,x∈xs->x.WF)->(∀q,q∈V0->q.2.2.WF)->pw E p (mu E rs V1 r) (Bg.enterM V0 xs)):Ft E f V0 xs V1 r:=by
 obtain⟨fl,fn,code,hfn,hb,hr,hnn,hp⟩:=hf
 intro w fb β vs hfb hg hat hv hd
 have hwf:∀x,x∈xs->x.WF:=fun x hxm=>by
  obtain⟨i,hi⟩:=List.getElem?_of_mem hxm
  have hlt:i<vs.size:=by rw[hv];exact(List.getElem?_eq_some_iff.1 hi).1
  exact(hd i x _ hi (Array.getElem?_eq_getElem hlt)).wf
 have hwo:∀q,q∈V0->q.2.2.WF:=fun q hq=>(hat.objs q.1 q.2.1 q.2.2 hq).2.wf
 subst hnn
 refine I1 hfn hb hm hp (β:=β) (c:=(D_.of w fb (FZ β V0) (fun o=>β o 0))) (X5 hfb hg hat h0 hv hd) (.pure rfl rfl) (fun e=>by cases e) (by omega) (h hwf hwo) fun e s' β' tm' c' w' hq=>?_
 have hres:(∀id,e=.exit id->False)/\(Fy E s' rs (jx V1 s'.V r)/\fq s'.V V1):=by cases e with
  |normal=>exact⟨fun _ h=>B7.noConfusion h,hq⟩
  |ret=>exact⟨fun _ h=>B7.noConfusion h,hq⟩
  |exit id=>exact hq.elim
 refine⟨hres.1,fun hrel q1 q2 q3 q4=>?_⟩
 obtain⟨hres,hin⟩:=hres.2
 ·have hfb1:∀b,fb b->c'.fb b:=fun b hb=>(q1 b hb).resolve_right id
  obtain⟨vs,us,k1,k2,k3⟩:=II hrel hr hres
  have hbb:∀b,(fb b\/FZ β' V1 b)->c'.bar β' s'.V b:=fun b hb=>by
   rcases hb with hb|⟨o,g,x,h1,h2⟩
   ·exact .inl (hfb1 b hb)
   ·exact .inr ⟨o,g,x,Gq hin _ _ _ h1,h2⟩
  refine⟨_,k3,_,β',s'.V.cn,rfl,q4.os,q4.tape,q4.output,q4.size,fun k hk hn=>q4.block k hk fun hb=>hb.elim hn id,⟨fun o g x hm=>?_,fun o g x o' g' x' b hm hm' hb hb'=>?_,fun o g x b hm hb=>?_⟩,fun o g x hm hlo=>?_,fun o g x b hm hb=>?_,(jw hrel hin k2 k1).mono (Ah.refl _ _) (fun b _ hb=>hb.imp (hfb1 b) id) (fun _ _ _=>rfl) fun _=>Nat.le_refl _⟩
  ·obtain⟨j1,j2⟩:=hrel.objs o g x (Gq hin _ _ _ hm)
   exact⟨j1,j2.mono (Ah.refl _ _) (fun b _ hb=>hbb b hb) (fun _ _ _=>rfl) (fun _=>Nat.le_refl _) fun _ _ _=>rfl⟩
  ·have e1:=Gq hin _ _ _ hm
   have e2:=Gq hin _ _ _ hm'
   have:=hrel.sep _ _ _ _ _ _ b e1 e2 hb hb'
   subst this
   rw[e1] at e2;simp at e2;exact⟨rfl,e2.1⟩
  ·obtain⟨j1,_,j3⟩:=hrel.home o g x b (Gq hin _ _ _ hm) hb
   exact⟨j1,fun hb=>j3 (hfb1 b hb)⟩
  ·have:=List.all_eq_true.1 h1 _ hm
   simp only[Bool.or_eq_true,decide_eq_true_eq] at this
   obtain⟨x',hx'⟩:=Pg (this.resolve_left fun hh=>absurd hlo (by omega))
   refine⟨⟨x',hx'⟩,?_⟩
   simp only[Jv,Bool.and_eq_true,List.all_eq_true] at h0
   have hz:=h0.1 _ hm
   simp at hz
   have:=hrel.pin o g x' hlo (Gq hin _ _ _ hx')
   rw[this,q2 o hz.2.1,hz.1]
  ·exact q3 b (hrel.home o g x b (Gq hin _ _ _ hm) hb).2.1
end
end Go.Pw
