/- Part. -/
import Derived.Test.YtmdklgapccickaaGreatDoorPwX
set_option linter.all false
open List renaming getElem?_of_mem->aa,getElem?_eq_some_iff->ay,all_eq_true->cw,mem_cons_of_mem->ea
open Nat renaming le_refl->ax
open Array renaming replicate->az,getElem?_eq_getElem->c8,getD_eq_getD_getElem?->eb,getElem?_append_left->et
open Bool renaming and_eq_true->ck
open Option renaming map_eq_some_iff->cp,map_map->f0
namespace Go.Pw
open Go.RowKit
def zA(x:Nat):List Nat->List Nat
 |[]=>[x]
 |y::ys=>if x<y then x::y::ys else if x=y then y::ys else y::zA x ys
def ABa(xs ys:List Nat):List Nat:=xs.foldl (fun r x=>zA x r) ys
def AAY(acc:List (List Nat))(o:Oper):List Nat :=
 o.after.toList.foldl (fun r e=>if Region.binds .any e then ABa (zA e.on (match acc[e.on]? with|some p=>p|none=>[])) r else r) []
def tg(ops:List Oper):List (List Nat):=ops.foldl (fun acc o=>acc++[AAY acc o]) []
def vV(pre:List (List Nat))(is:List Fu):List (Fu×List Nat) :=
 is.zipIdx.map fun(I,k)=>(I,(List.range k).filter fun j=>!(match pre[k]? with|some p=>p.contains j|none=>false) &&
  (match is[j]? with|some J=>!aV J.op.foot I.op.foot|none=>false))
def zE(I:Fu):Bool:=match I.op with|.mapent ..=>true|_=>false
def isY(fl:List Nat)(o:Oper):Bool:=match o.dst with|some t=>fl.contains (t+1000000)|none=>false
def sr(fl:List Nat):List Oper->Option (List Oper×Oper×List Oper)
 |[]=>none
 |o::l=>if isY fl o=true then some ([],o,l)else match sr fl l with
  |some (a,b,c)=>some (o::a,b,c)
  |none=>none
theorem iE{fl:List Nat}:∀{l a c:List Oper}{b:Oper},sr fl l=some (a,b,c)->l=a++b::c
 |[],a,c,b,h=>by cases h
 |o::l,a,c,b,h=>by
  simp only[sr]at h;split at h
  ·simp at h;obtain⟨rfl,rfl,rfl⟩:=h;rfl
  ·split at h
   ·rename_i x y z hx;simp at h;obtain⟨rfl,rfl,rfl⟩:=h;rw[iE hx];rfl
   ·cases h
def i9(ns:Nat):Option Nat->Bool
 |some t=>decide (t<ns)
 |none=>true
def AAA(E:CW)(fl:List Nat)(ns:Nat)(ops a:List Oper)(o:Oper)(b:List Oper)(x:Operand)(args:List Operand):Option PC :=
 match UO E x,X8 E args,Ax (Nv E false fl ns ops) a,Ax (Nv E false fl ns ops) b with
 |some y,some ys,some l1,some l2=>if(o.guard.isNone && i9 ns o.dst)=true then some (.yld [] l1 o.dst y ys l2 [])else none
 |_,_,_,_=>none
def AAB(E:CW)(fl:List Nat)(ns:Nat)(ops a:List Oper)(o:Oper)(b:List Oper):Option PC :=
 match o.op with
 |.call cl=>match cl.callee with
  |.value x=>AAA E fl ns ops a o b x cl.args.toList
  |_=>none
 |_=>none
def gV(E:CW)(fl:List Nat)(ns:Nat)(ops:List Oper):Option PC :=
 match sr fl ops with
 |none=>none
 |some (a,o,b)=>AAB E fl ns ops a o b
def gW(E:CW)(fl:List Nat)(ns:Nat):List Oper->Option PC
 |[]=>none
 |o::b=>match o.op with
  |.next x false=>match UO E x,Ax (Nv E false fl ns (o::b)) b with
   |some y,some l2=>if(o.guard.isNone && i9 ns o.dst)=true then some (.nxt [] o.dst y l2 [])else none
   |_,_=>none
  |_=>none
def rC(E:CW)(fl:List Nat)(ns:Nat)(ops:List Oper):Option PC:=match gV E fl ns ops with
 |some p=>some p
 |none=>gW E fl ns ops
def Uk(E:CW)(fl:List Nat)(ns:Nat):Code->Option PC
 |.skip=>some .skip
 |.region id ops draw =>
  match (if draw then none else rC E fl ns ops.toList)with
  |some p=>some p
  |none=>match Ax (Nv E draw fl ns ops.toList) ops.toList with
  |none=>some .dead
  |some is=>if draw then
    (
     if(!is.any zE && okD ops.toList (tg ops.toList) (vV (tg ops.toList) is))=true then some (.draw [] (vV (tg ops.toList) is) [])
     else match Xp ops is ops.size (az ops.size false)with
      |some t=>some (.any [] t [])
      |none=>none)
   else some (.reg [] is [])
 |.seq a b=>match Uk E fl ns a,Uk E fl ns b with
  |some x,some y=>some (.seq x y)
  |_,_=>none
 |.cond c a b=>match UO E c,Uk E fl ns a,Uk E fl ns b with
  |some z,some x,some y=>some (.cond z x y)
  |_,_,_=>none
 |.block id a=>(Uk E fl ns a).map (.block id)
 |.loop a=>(Uk E fl ns a).map (.loop [] [] [])
 |.exit id=>some (.exit id)
 |.ret=>some .ret
 |.scope a=>(Uk E fl ns a).map .scope
 |.label _=>some .lab
 |.rangeFunc x ps b a=>match UO E x,Uk E fl ns b,Uk E fl ns a with
  |some g,some pb,some pa=>if(ps.toList.all fun p=>decide (p<ns))=true then some (.rngF [] g ps.toList [] [] pb [] [] pa)else none
  |_,_,_=>none
 |_=>none
theorem qt(pre:List (List Nat))(is:List Fu):(vV pre is).map (·.1)=is:=by
 simp only[vV,List.map_map];apply List.ext_getElem?;intro i;simp only[List.getElem?_map,List.getElem?_zipIdx,f0]
 cases is[i]?<;>rfl
theorem ZY{E:CW}{fl:List Nat}{ns id:Nat}{ops:List Oper}{p:PC}(h:gV E fl ns ops=some p):DR E fl ns p (.region id ops.toArray false):=by
 unfold gV at h;split at h
 ·cases h
 ·rename_i a o b hs;rw[iE hs]at h ⊢;unfold AAB at h;split at h
  ·rename_i cl i;split at h
   ·rename_i x hc;unfold AAA at h;split at h
    ·rename_i y ys l1 l2 j e h1 h2;split at h
     ·rename_i hok;simp only[ck]at hok;simp at h;subst h;refine .yld h1 h2 i hc (by simpa using hok.1) j e fun t ht=>?_
      have:=hok.2;rw[ht]at this;simpa[i9]using this
     ·cases h
    ·cases h
   ·cases h
  ·cases h
theorem Za{E:CW}{fl:List Nat}{ns id:Nat}{ops:List Oper}{p:PC}(h:gW E fl ns ops=some p):DR E fl ns p (.region id ops.toArray false):=by
 unfold gW at h;split at h
 ·cases h
 ·rename_i o b;split at h
  ·rename_i x e;split at h
   ·rename_i y l2 i h2;split at h
    ·rename_i hok;simp only[ck]at hok;simp at h;subst h;refine .nxt h2 e (by simpa using hok.1) i fun t ht=>?_
     have:=hok.2;rw[ht]at this;simpa[i9]using this
    ·cases h
   ·cases h
  ·cases h
theorem dN{E:CW}{fl:List Nat}{ns id:Nat}{ops:List Oper}{p:PC}(h:rC E fl ns ops=some p):DR E fl ns p (.region id ops.toArray false):=by
 unfold rC at h;split at h
 ·rename_i q e;simp at h;subst h;exact ZY e
 ·exact Za h
theorem E'{E:CW}{fl:List Nat}{ns:Nat}:∀{code:Code}{p:PC},Uk E fl ns code=some p->DR E fl ns p code
 |.skip,p,h=>by simp[Uk]at h;subst h;exact .skip
 |.region id ops draw,p,h=>by
  obtain⟨ops⟩:=ops;simp only[Uk]at h;split at h
  ·rename_i p' i;simp at h;subst h;split at i
   ·rename_i hd;have:draw=true:=by simpa using hd
    subst this
    cases i
   ·rename_i hd;have:draw=false:=by simpa using hd
    subst this;exact dN i
  split at h
  ·simp at h;subst h;exact .dead
  ·rename_i is e
   cases draw with
   |true =>
    simp only[if_true]at h;split at h
    ·rename_i hok;simp at h;subst h;simp only[ck]at hok;exact .draw (pre:=tg ops) (by rw[qt];exact e) hok.2
    ·split at h
     ·rename_i t ht;simp at h;subst h;exact .any e (by simpa using ht)
     ·cases h
   |false =>
    simp at h;subst h;exact .reg e
 |.seq a b,p,h=>by
  simp only[Uk]at h;split at h
  ·rename_i x y hx j;simp at h;subst h;exact .seq (E' hx) (E' j)
  ·cases h
 |.cond c a b,p,h=>by
  simp only[Uk]at h;split at h
  ·rename_i z x y m hx j;simp at h;subst h;exact .cond m (E' hx) (E' j)
  ·cases h
 |.block id a,p,h=>by
  simp only[Uk,cp]at h;obtain⟨x,hx,rfl⟩:=h;exact .block (E' hx)
 |.loop a,p,h=>by
  simp only[Uk,cp]at h;obtain⟨x,hx,rfl⟩:=h;exact .loop (E' hx)
 |.exit id,p,h=>by simp[Uk]at h;subst h;exact .exit
 |.ret,p,h=>by simp[Uk]at h;subst h;exact .ret
 |.rangeFunc x ps b a,p,h=>by
  obtain⟨ps⟩:=ps;simp only[Uk]at h;split at h
  ·rename_i g r u hg hb n;split at h
   ·rename_i l;simp at h;subst h;exact .rngF hg (fun q o=>by simpa using cw.1 l q o) (E' hb) (E' n)
   ·cases h
  ·cases h
 |.scope a,p,h=>by
  simp only[Uk,cp]at h;obtain⟨x,hx,rfl⟩:=h;exact .scope (E' hx)
 |.label _,p,h=>by simp[Uk]at h;subst h;exact .lab
 |.goto _,p,h=>by simp[Uk]at h
 |.refuse _,p,h=>by simp[Uk]at h
def PC.raw:PC->PC
 |.skip=>.skip
 |.reg _ l _=>.reg [] l []
 |.draw _ l _=>.draw [] l []
 |.any _ t _=>.any [] t []
 |.seq a b=>.seq a.raw b.raw
 |.cond c a b=>.cond c a.raw b.raw
 |.block id a=>.block id a.raw
 |.loop _ _ _ a=>.loop [] [] [] a.raw
 |.exit id=>.exit id
 |.ret=>.ret
 |.dead=>.dead
 |.scope a=>.scope a.raw
 |.lab=>.lab
 |.yld _ l1 d y xs l2 _=>.yld [] l1 d y xs l2 []
 |.nxt _ d y l2 _=>.nxt [] d y l2 []
 |.rngF _ g ps _ _ b _ _ a=>.rngF [] g ps [] [] b.raw [] [] a.raw
theorem E9{E:CW}{fl:List Nat}{ns:Nat}:∀{p:PC}{code:Code},DR E fl ns p.raw code->DR E fl ns p code
 |.skip,_,h=>by cases h;exact .skip
 |.reg _ _ _,_,h=>by cases h with|reg h=>exact .reg h
 |.draw _ _ _,_,h=>by cases h with|draw h hok=>exact .draw h hok
 |.any _ _ _,_,h=>by cases h with|any h ht=>exact .any h ht
 |.seq _ _,_,h=>by cases h with|seq h h'=>exact .seq (E9 h) (E9 h')
 |.cond _ _ _,_,h=>by cases h with|cond hx h h'=>exact .cond hx (E9 h) (E9 h')
 |.block _ _,_,h=>by cases h with|block h=>exact .block (E9 h)
 |.loop _ _ _ _,_,h=>by cases h with|loop h=>exact .loop (E9 h)
 |.exit _,_,h=>by cases h;exact .exit
 |.ret,_,h=>by cases h;exact .ret
 |.dead,_,_=>.dead
 |.scope _,_,h=>by cases h with|scope h=>exact .scope (E9 h)
 |.lab,_,h=>by cases h;exact .lab
 |.rngF _ _ _ _ _ _ _ _ _,_,h=>by cases h with|rngF hx hp h h'=>exact .rngF hx hp (E9 h) (E9 h')
 |.yld _ _ _ _ _ _ _,_,h=>by cases h with|yld h1 h2 h3 h4 h5 h6 h7 h8=>exact .yld h1 h2 h3 h4 h5 h6 h7 h8
 |.nxt _ _ _ _ _,_,h=>by cases h with|nxt h1 h2 h3 h4 h5=>exact .nxt h1 h2 h3 h4 h5
inductive RT where
 |t (n:Nat)
 |c (a ty:Nat) (ag:Bool) (n:Nat)
def RT.slot:RT->Nat
 |.t n=>n
 |.c a _ _ _=>a
def rt1(P:Program):ResultVar->Option RT
 |.tmp t=>some (.t t)
 |.cell a ty=>match Ln P ty,HT P ty with
  |some ag,some n=>some (.c a ty ag n)
  |_,_=>none
def yQ(P:Program)(l:List ResultVar):Option (List RT):=Ax (rt1 P) l
def ABA(E:CW)(fl:List Nat)(f:FuncId):Option (PC×List RT×Nat) :=
 match E.P.funcs[f]? with
 |none=>none
 |some fn=>match fn.body,yQ E.P fn.results.toList with
  |some code,some rs=>(Uk E fl fn.ntmps code).map fun p=>(p,rs,fn.ntmps)
  |_,_=>none
structure Br (E:CW) (f:FuncId) (p:PC) (rs:List RT) (n:Nat):Prop where
 ex:∃fl fn code,E.P.funcs[f]?=some fn/\fn.body=some code/\yQ E.P fn.results.toList=some rs/\fn.ntmps=n/\DR E fl n p code
theorem AI{E:CW}{fl:List Nat}{f:FuncId}{p:PC}{rs:List RT}{n:Nat}(h:ABA E fl f=some (p.raw,rs,n)):Br E f p rs n:=by
 unfold ABA at h;split at h
 ·cases h
 ·rename_i fn e;split at h
  ·rename_i code rs' hb hr;simp only[cp]at h;obtain⟨q,j,i⟩:=h;simp at i;obtain⟨rfl,rfl,rfl⟩:=i;exact⟨fl,fn,code,e,hb,hr,rfl,E9 (E' j)⟩
  ·cases h
abbrev EG.of(w:World)(fb mine:Nat->Prop)(b0:Nat->Value):EG:={ w0:=w,fb:=fb,mine:=mine,b0:=b0 }
def BG.enter(ds:List D):BG:=⟨fun t=>match ds[t]? with|some d=>.d d|none=>.undef,⟨fun _=>none,fun _=>0⟩⟩
def eu(E:CW)(s:BG):RT->(AV->Prop)->Prop
 |.t n,K=>K (s.sl n)
 |.c a _ ag n,K=>ev E none s.V (.load ag n) [s.sl a] fun v _=>K v
def GL(E:CW)(s:BG):List RT->(List AV->Prop)->Prop
 |[],K=>K []
 |r::l,K=>eu E s r fun v=>GL E s l fun vs=>K (v::vs)
def Qe(V:AO)(r:D):List AV->Prop
 |[v]=>v.snap V=some r
 |vs=>(Ax (AV.snap V) vs).map .tup=some r
def yO(E:CW)(rs:List RT)(r:D):Bk->BG->Prop
 |.exit _,_=>False
 |_,s=>GL E s rs (Qe s.V r)
def Wn:List Value->Value
 |[v]=>v
 |vs=>.tuple vs.toArray
def AAW(tm:Array Value):ResultVar->Sem Value
 |.tmp t=>pure (tm.getD t undef)
 |.cell a t=>do loadVar t (←asAddr (tm.getD a undef))
theorem Jq{E:CW}{c:EG}{β:Nat->Nat->Value}{s:BG}{tm:Array Value}{w:World}(h:BZ E c β s tm w){fn:Func}{rs:List RT}(hr:yQ E.P fn.results.toList=some rs){K:List AV->Prop}(o:GL E s rs K) :
  ∃vs us,K vs/\C_ (AP w (c.bar β s.V) β s.V.cn) vs us/\(results fn tm).run E.P w=.ok (Wn us) w:=by
 have key:∀(f:ResultVar->Sem Value),(∀t,f (.tmp t)=pure (tm.getD t undef))->(∀a t,f (.cell a t)=do loadVar t (←asAddr (tm.getD a undef)))->∀(l:List ResultVar) (rs:List RT) (K:List AV->Prop),Ax (rt1 E.P) l=some rs->GL E s rs K ->
   ∃vs us,K vs/\C_ (AP w (c.bar β s.V) β s.V.cn) vs us/\(l.mapM f).run E.P w=.ok us w:=by
  intro f L J l
  induction l with
  |nil =>
   intro rs K j o;simp[Ax]at j;subst j;exact⟨[],[],o,⟨rfl,by simp⟩,by simp⟩
  |cons x l ih =>
   intro rs K j o;simp only[Ax]at j;split at j
   ·cases j
   ·rename_i r m;split at j
    ·cases j
    ·rename_i rs' p;simp at j;subst j;simp only[GL]at o
     have one:∃v u,GL E s rs' (fun vs=>K (v::vs))/\AP w (c.bar β s.V) β s.V.cn v u/\(f x).run E.P w=.ok u w:=by
      cases x with
      |tmp t =>
       simp[rt1]at m;subst m;exact⟨_,_,o,h.slots t,by rw[L];simp⟩
      |cell a ty =>
       simp only[rt1]at m;split at m
       ·rename_i ag n B hn;simp at m;subst m;simp only[eu]at o;obtain⟨u,hu,v,hv,q⟩:=VD h B hn (h.slots a) o;refine⟨v,u,hv,q,?_⟩;rw[J,←hu];simp only[Instr.loadAt]
        have hp:∃N,tm.getD a undef=.pointer (some N):=by
         have hs:=h.slots a;unfold ev at o;simp only at o;split at o
         ·rename_i e;simp at e;rw[e]at hs;generalize tm.getD a undef=z at hs ⊢;cases hs;exact⟨_,rfl⟩
         ·rename_i e;simp at e;rw[e]at hs;generalize tm.getD a undef=z at hs ⊢;cases hs;exact⟨_,rfl⟩
         ·rename_i e;simp at e;rw[e]at hs;generalize tm.getD a undef=z at hs ⊢;cases hs;exact⟨_,rfl⟩
         ·rename_i e;simp at e;rw[e]at hs;generalize tm.getD a undef=z at hs ⊢
          cases hs with|d _ _ hs=>cases hs;exact⟨_,rfl⟩
         ·rename_i e;simp at e;rw[e]at hs
          cases hs with|mref _ _ _ _ _ hm _=>exact ia hm
         ·rename_i e;simp at e;rw[e]at hs
          cases hs with|mref _ _ _ _ _ hm _=>exact ib hm
         ·rename_i e;simp at e;rw[e]at hs
          cases hs with|ablk _ _ _ b base vs u hb hne h1 hc hv hu=>exact⟨_,by rw[hu];rfl⟩
         ·exact o.elim
        obtain⟨N,hp⟩:=hp;rw[hp];simp[asAddr,Instr.sureAddr]
       ·cases m
     obtain⟨v,u,h1,h2,M⟩:=one;obtain⟨vs,us,R,O,S⟩:=ih rs' _ p h1;refine⟨v::vs,u::us,R,⟨by simp[O.1],fun i x y hx A=>?_⟩,by simp only[List.mapM_cons,Sem.run_bind,M,Result.andThen_ok,S,Sem.run_pure]⟩
     cases i with
     |zero=>simp at hx A;subst hx A;exact h2
     |succ i=>simp at hx A;exact O.2 i x y hx A
 have T:results fn tm=(do let vs ←fn.results.mapM (AAW tm);pure (if h:vs.size=1 then vs[0]else .tuple vs)):=by
  unfold results;refine congrArg (fun g:ResultVar->Sem Value=>(do let vs ←fn.results.mapM g;pure (if h:vs.size=1 then vs[0]else .tuple vs):Sem Value)) (funext fun x=>?_)
  cases x<;>rfl
 obtain⟨vs,us,h1,h2,M⟩:=key (AAW tm) (fun t=>rfl) (fun a t=>rfl) fn.results.toList rs K hr o;refine⟨vs,us,h1,h2,?_⟩;have G:fn.results=fn.results.toList.toArray:=by simp
 rw[T,G];simp only[List.mapM_toArray,Sem.run_bind,Sem.run_map];rw[M];simp only[Result.andThen_ok,Sem.run_pure]
 cases us with
 |nil=>simp[Wn]
 |cons t us=>cases us<;>simp[Wn]
section
variable {E:CW}
theorem gS(ds:List D)(vs:Array Value)(n:Nat)(hv:vs.size=ds.length)(t:Nat):∃u,(vs++az (n-vs.size) undef).getD t undef=u/\∀d,ds[t]?=some d->vs[t]?=some u:=by
 refine⟨_,rfl,fun d hd=>?_⟩;have e:t<vs.size:=by rw[hv];exact(ay.1 hd).1
 simp[eb,et e,e]
theorem Xf{w:World}{fb:Nat->Prop}{ds:List D}{vs:Array Value}{n:Nat}{β:Nat->Nat->Value}(m:∀b,fb b->b<w.heap.size)(hg:mn E w fb)(hv:vs.size=ds.length)
  (hd:∀(i:Nat) (d:D) (v:Value),ds[i]?=some d->vs[i]?=some v->Ar w fb d v):BZ E (EG.of w fb (fun _=>False) (fun _=>undef)) β (BG.enter ds) (vs++az (n-vs.size) undef) w:=by
 have e:∀b,((EG.of w fb (fun _=>False) (fun _=>undef)):EG).bar β (BG.enter ds).V b->fb b:=fun b hb=>by
  rcases hb with hb|⟨o,g,x,h1,h2⟩
  ·exact hb
  ·cases h1
 refine⟨⟨rfl,rfl,rfl,ax _,fun _ _ _=>rfl⟩,fun b hb=>⟨m b hb,id⟩,fun g cs j=>(hg g cs j).mono (Aq.refl _ _) fun b _ hb=>e b hb,fun t=>?_,fun o g x h=>(nomatch h),?_,fun o g x b h=>(nomatch h),fun o g x _ h=>(nomatch h),fun o g els n st h=>(nomatch h)⟩
 case refine_2=>exact fun o o' g g' x x' b h=>(nomatch h)
 obtain⟨u,hu,l⟩:=gS ds vs n hv t;rw[hu];show AP w _ β _ (match ds[t]? with|some d=>.d d|none=>.undef) u
 cases hdt:ds[t]? with
 |none=>exact .undef u
 |some d=>exact .d _ _ ((hd t d u hdt (l d hdt)).mono (Aq.refl _ _) fun b _ hb=>e b hb)
theorem PS{w w':World}{M:Nat->Prop}(h:Di M w w')(e:∀b,¬M b):Below w.heap.size w w' :=
 ⟨h.os,h.tape,h.output,h.size,fun k hk=>h.block k hk (e k)⟩
theorem ii{fn:Func}{R:Ending->World->Prop}{tm:Array Value}{s:BG}{β:Nat->Nat->Value}:∀{Ds:List Nat}{c:EG}{w:World},BZ E c β s tm w->Ds.Nodup->(∀D,D∈Ds->w.heap[D]?=some (.deferred (some []))/\c.fb D) ->
  (∀c2 q,BZ E c2 β s tm q->c2.fb=c.fb->c2.b0=c.b0->(∀b,(c2.w0.heap.size<=b\/c2.mine b)->c.w0.heap.size<=b\/c.mine b)->Di (fun b=>b∈Ds) w q->∃v,(results fn tm).run E.P q=.ok v q/\R (.returned v) q) ->
  LeavesInM Fence.wide 0 E.P fn tm R (Ds.map J4) .returning w
 |[],c,w,h,hn,hd,hk=>by
  show ∃v,_/\_;exact hk c w h rfl rfl (fun _ h=>h) (Di.refl _ _)
 |D::Ds,c,w,h,hn,hd,hk=>by
  obtain⟨B,L⟩:=hd D (by simp);refine⟨by simp,.inl ⟨D,w.putObj D (.deferred none),rfl,run_takeDeferred B,?_⟩⟩;have X:D<w.heap.size:=(Array.getElem?_eq_some_iff.1 B).1
  have hne:∀k,k≠D->(w.putObj D (.deferred none)).heap[k]?=w.heap[k]?:=fun k hk=>by
   simp[World.putObj,Array.getElem?_setIfInBounds_ne (Ne.symm hk)]
  have m:(w.putObj D (.deferred none)).heap.size=w.heap.size:=by simp[World.putObj]
  have y:Di (fun b=>b=D) w (w.putObj D (.deferred none)):=⟨rfl,rfl,rfl,by rw[m];exact ax _,fun k _ hk=>hne k hk⟩
  have p:Aq (c.bar β s.V) w (w.putObj D (.deferred none)):=fun b hn _=>hne b fun e=>hn (.inl (e▸L))
  obtain⟨c2,j⟩:∃c2:EG,c2={ c with w0:=w.putObj D (.deferred none),mine:=DJ β s.V,J:=fun _ _ _ _ _=>True }:=⟨_,rfl⟩
  have l:∀b,b<w.heap.size->c2.bar β s.V b->c.bar β s.V b:=fun b _ hb=>by subst j;exact hb
  have hr:BZ E c2 β s tm (w.putObj D (.deferred none)):=by
   refine⟨by subst j;exact(Di.refl _ _).keep,fun b hb=>?_,fun S cs u=>(h.glob S cs u).mono p l,fun t=>(h.slots t).mono p l (fun _ _ _=>rfl) (fun _=>ax _),fun o g x hx=>?_,h.sep,fun o g x b hx hb=>?_,fun o g x hl hx=>?_,fun o g els n st hx=>?_⟩
   ·subst j;refine⟨by show b<(w.putObj D (.deferred none)).heap.size;rw[m];exact Nat.lt_of_lt_of_le (h.low b hb).1 h.keep.size,fun ho=>?_⟩;obtain⟨o,g,x,h1,h2⟩:=ho;exact(h.home o g x b h1 h2).2.2 hb
   ·obtain⟨h1,h2⟩:=h.objs o g x hx;exact⟨h1,h2.mono p l (fun _ _ _=>rfl) (fun _=>ax _) fun b hb _=>hne b fun e=>(h.home o g x b hx hb).2.2 (e▸L)⟩
   ·subst j;obtain⟨h1,_,A⟩:=h.home o g x b hx hb;exact⟨by rw[m];exact h1,.inr ⟨o,g,x,hx,hb⟩,A⟩
   ·subst j;exact h.pin o g x hl hx
   ·subst j;obtain⟨h1,h2,_,U⟩:=h.hist o g els n st hx;exact⟨h1,h2,trivial,U⟩
  rw[List.nodup_cons]at hn;refine ii (c:=c2) hr hn.2 (fun D' r=>?_) fun T N A e1 e2 O M=>?_
  ·obtain⟨k1,k2⟩:=hd D' (ea _ r);refine⟨?_,by subst j;exact k2⟩;rw[hne D' fun e=>hn.1 (e▸r)];exact k1
  ·refine hk T N A (by rw[e1];subst j;rfl) (by rw[e2];subst j;rfl) (fun b hb=>?_) ((y.mono fun i _ hi=>by subst hi;simp).trans M fun i _ hi=>ea _ hi);have:=O b hb;subst j;rcases this with z|z
   ·left;have G:(w.putObj D (.deferred none)).heap.size<=b:=z;rw[m]at G;exact Nat.le_trans h.keep.size G
   ·obtain⟨o,g,x,k1,k2⟩:=z;exact(h.home o g x b k1 k2).2.1
theorem KQ{fl:List Nat}{f:FuncId}{fn:Func}{code:Code}{p:PC}{j:Array Value}{R:Ending->World->Prop}{Q:Bk->BG->Prop}{s:BG}{c:EG}{β:Nat->Nat->Value}{w:World}(t:E.P.funcs[f]?=some fn)(hb:fn.body=some code)(hm:E.P.follows .mixedOrders=true)(hp:DR E fl fn.ntmps p code)
  (h:BZ E c β s (j++az (fn.ntmps-j.size) undef) w) (J:Z_ E c) (y:c.nr=true->p.noR=true) (L:j.size<=fn.ntmps) (u:pw E p Q s)
  (z:∀e s' β' tm' c' w',Q e s'->(∀id,e=.exit id->False)/\(BZ E c' β' s' tm' w'->(∀b,c.fb b->c'.fb b\/c.may b)->(∀o,o<5000000->c'.b0 o=c.b0 o)->(∀b,(c'.w0.heap.size<=b\/c'.mine b)->c.w0.heap.size<=b\/c.mine b)->Di (fun b=>c.mine b\/c.may b) c.w0 w' ->
   ∃v,(results fn tm').run E.P w'=.ok v w'/\R (.returned v) w')):Calls E.P f j w R:=by
 refine callsIn_wide.1 (callsIn_of_wp_marks (n:=0) t hb trivial (bZ hm hp none 0 h J y (fun e=>by cases e) (by simp;omega) u fun e s' β' c' tm' Ds w' hk q N l hr B=>?_))
 have fin:(∀id,e=.exit id->False)->LeavesInM Fence.wide 0 E.P fn tm' R (Ds.map J4++[]) .returning w':=fun hne=>by
  rw[List.append_nil];have x:Di (fun b=>c.mine b\/c.may b) c.w0 w':=q.keep w' (hr.keep.upto.mono fun i _ hi=>.inl hi);refine ii hr l.nodup (fun D r=>?_) fun c2 G h2 e1 e2 M A=>?_
  ·obtain⟨m,_⟩:=l.alive D r;refine⟨?_,m.2.2.2⟩;rw[hr.keep.block D m.lt m.2.1];exact m.1
  ·refine(z e s' β' tm' c2 G hk).2 h2 (fun b hb=>?_) (fun o ho=>by rw[e2];exact q.b0 o (.inl ho)) (fun b hb=>q.mine b (M b hb)) (x.trans (A.mono (M':=fun b=>b∈Ds) fun _ _ h=>h) fun i hi r=>?_)
   ·rw[e1];exact q.fb b hb
   ·have:=(l.alive i r).2;omega
 have hx:=(z e s' β' tm' c' w' hk).1
 cases e with
 |normal=>exact fin hx
 |ret=>exact fin hx
 |exit id=>exact(hx id rfl).elim
theorem tQ{c:EG}{β:Nat->Nat->Value}{s:BG}{tm:Array Value}{w:World}(h:BZ E c β s tm w){vs:List AV}{us:List Value}{r:D}(hv:C_ (AP w (c.bar β s.V) β s.V.cn) vs us)(hr:Qe s.V r vs):Ar w c.fb r (Wn us):=by
 have many:(Ax (AV.snap s.V) vs).map .tup=some r->Ar w c.fb r (.tuple us.toArray):=by
  intro e;simp only[cp]at e;obtain⟨l,hl,rfl⟩:=e;refine .tup _ _ (by simp[Af hl,hv.1]) fun i d u hd hu=>?_
  obtain⟨x,hx,hsn⟩:=BC hl hd;exact VF h (hv.2 i x u hx (by simpa using hu)) hsn
 unfold Qe at hr;split at hr
 ·rename_i v;obtain⟨u,rfl,h1⟩:=JI hv;exact VF h h1 hr
 ·rename_i hne
  have:Wn us=.tuple us.toArray:=by
   unfold Wn;split
   ·have:=hv.1
    cases vs with
    |nil=>simp at this
    |cons v vs=>cases vs with
     |nil=>exact absurd rfl (hne _)
     |cons _ _=>simp at this
   ·rfl
  rw[this];exact many hr
theorem AL{f:FuncId}{p:PC}{rs:List RT}{n:Nat}{ds:List D}{r:D}(A:Br E f p rs n)(hm:E.P.follows .mixedOrders=true)(hn:ds.length<=n)(h:(∀d,d∈ds->d.WF)->pw E p (yO E rs r) (BG.enter ds)):BU E f ds r:=by
 obtain⟨fl,fn,code,y,hb,hr,o,hp⟩:=A;intro w fb vs x hg hv hd
 have m:∀d,d∈ds->d.WF:=fun d u=>by
  obtain⟨i,hi⟩:=aa u;have q:i<vs.size:=by rw[hv];exact(ay.1 hi).1
  exact(hd i d _ hi (c8 q)).wf
 subst o;refine KQ y hb hm hp (β:=fun _ _=>undef) (c:=(EG.of w fb (fun _=>False) (fun _=>undef))) (Xf x hg hv hd) (.pure rfl rfl) (fun e=>by cases e) (by omega) (h m) fun e s' β' tm' c' w' t=>?_
 have j:(∀id,e=.exit id->False)/\GL E s' rs (Qe s'.V r):=by cases e with
  |normal=>exact⟨fun _ h=>Bk.noConfusion h,t⟩
  |ret=>exact⟨fun _ h=>Bk.noConfusion h,t⟩
  |exit id=>exact t.elim
 refine⟨j.1,fun l k1 k2 G z=>?_⟩;obtain⟨vs,us,h1,h2,B⟩:=Jq l hr j.2;exact⟨_,B,_,rfl,PS z fun b hb=>hb.elim id id,(tQ l h2 h1).mono (Aq.refl _ _) fun b _ hb=>(k1 b hb).resolve_right id⟩
def yJ(V:AO)(ety es:Nat)(nl:Bool)(l:List D):List AV->Prop
 |[.own o g]=>V.get o g=some (.row ety es nl l)
 |[.d (.list true [])]=>nl=true/\l=[]
 |_=>False
def VJ(V:AO)(ety es:Nat)(P:Bool->List D->Prop):List AV->Prop
 |[.own o g]=>(∃nl l,V.get o g=some (.row ety es nl l)/\P nl l)\/V.get o g=some (.rowP ety es P)
 |[.d (.list true [])]=>P true []
 |_=>False
def ABf(E:CW)(rs:List RT)(ety es:Nat)(nl:Bool)(l:List D):Bk->BG->Prop
 |.exit _,_=>False
 |_,s=>GL E s rs (yJ s.V ety es nl l)
def oI(E:CW)(rs:List RT)(ety es:Nat)(P:Bool->List D->Prop):Bk->BG->Prop
 |.exit _,_=>False
 |_,s=>GL E s rs (VJ s.V ety es P)
theorem VL{f:FuncId}{p:PC}{rs:List RT}{n ety es:Nat}{ds:List D}{P:Bool->List D->Prop}{q:Bk->BG->Prop}{R:AO->List AV->Prop}(hR:∀V vs,R V vs->VJ V ety es P vs)(Y:∀e s,q e s->(∀id,e=.exit id->False)/\GL E s rs (R s.V))
  (Z:Br E f p rs n) (hm:E.P.follows .mixedOrders=true) (hn:ds.length<=n) (h:(∀d,d∈ds->d.WF)->pw E p q (BG.enter ds)):gq E f ds ety es P:=by
 obtain⟨fl,fn,code,N,hb,hr,A,hp⟩:=Z;intro w fb vs L hg hv hd
 have z:∀d,d∈ds->d.WF:=fun d J=>by
  obtain⟨i,hi⟩:=aa J;have B:i<vs.size:=by rw[hv];exact(ay.1 hi).1
  exact(hd i d _ hi (c8 B)).wf
 subst A;refine KQ N hb hm hp (β:=fun _ _=>undef) (c:=(EG.of w fb (fun _=>False) (fun _=>undef))) (Xf L hg hv hd) (.pure rfl rfl) (fun e=>by cases e) (by omega) (h z) fun e s' β' tm' c' w' M=>?_
 have r:=Y _ _ M;refine⟨r.1,fun m U q2 T X=>?_⟩;have y:∀b,(c'.w0.heap.size<=b\/c'.mine b)->w.heap.size<=b:=fun b hb=>(T b hb).resolve_right id
 ·obtain⟨vs,us,h1,h2,h3⟩:=Jq m hr r.2;refine⟨_,h3,_,rfl,PS X fun b hb=>hb.elim id id,?_⟩
  replace h1:=hR _ _ h1
  unfold VJ at h1;split at h1
  ·rename_i o g;obtain⟨u,rfl,hs⟩:=JI h2;show(∀b,C4 u b->_)/\∃nl l,P nl l/\B3 w' (fun b=>fb b\/C4 u b) ety es nl l u
   obtain⟨x,h1,G⟩:∃x,s'.V.get o g=some x/\((∃nl l,x=.row ety es nl l/\P nl l)\/x=.rowP ety es P):=by
    rcases h1 with⟨nl,l,h1,hp⟩|h1
    ·exact⟨_,h1,.inl ⟨nl,l,rfl,hp⟩⟩
    ·exact⟨_,h1,.inr rfl⟩
   cases hs with
   |own _ _ S O =>
    obtain⟨_,ho⟩:=m.objs _ _ _ (AO.get_some h1);refine⟨fun b j=>?_,?_⟩
    ·exact y b (m.home o g _ b (AO.get_some h1) j).2.1
    ·have t:∀b,C4 (β' o g) b->DJ β' s'.V b:=fun b j=>⟨o,g,_,AO.get_some h1,j⟩
     generalize hvv:β' o g=v at ho t;have key:∀{nl l},B3 w' (c'.bar β' s'.V) ety es nl l v->B3 w' (fun b=>fb b\/C4 v b) ety es nl l v:=fun ho=>ho.mono (Aq.refl _ _) (fun b _ hb=>hb.elim (fun h=>.inl ((U b h).resolve_right id)) fun h=>.inr (t b h)) fun _ _ _=>rfl
     rcases G with⟨nl,l,rfl,hp⟩|rfl
     ·cases ho with|row _ _ _ _ _ ho=>exact⟨nl,l,hp,key ho⟩
     ·cases ho with|rowP _ _ _ nl l _ hp ho=>exact⟨nl,l,hp,key ho⟩
  ·obtain⟨u,rfl,hs⟩:=JI h2
   cases hs with
   |d _ _ hs=>cases hs;exact⟨fun b j=>by simp[Wn,C4,A9]at j,true,[],h1,.inl ⟨rfl,rfl,rfl⟩⟩
  ·exact h1.elim
theorem VM{f:FuncId}{p:PC}{rs:List RT}{n ety es:Nat}{ds:List D}{P:Bool->List D->Prop}(j:Br E f p rs n)(hm:E.P.follows .mixedOrders=true)(hn:ds.length<=n)(h:(∀d,d∈ds->d.WF)->pw E p (oI E rs ety es P) (BG.enter ds)):gq E f ds ety es P :=
 VL (R:=fun V=>VJ V ety es P) (fun _ _ h=>h) (fun e s i=>by cases e with
  |normal=>exact⟨fun _ h=>Bk.noConfusion h,i⟩
  |ret=>exact⟨fun _ h=>Bk.noConfusion h,i⟩
  |exit id=>exact i.elim) j hm hn h
theorem Pu{f:FuncId}{p:PC}{rs:List RT}{n ety es:Nat}{ds:List D}{nl:Bool}{l:List D}(j:Br E f p rs n)(hm:E.P.follows .mixedOrders=true)(hn:ds.length<=n)(h:(∀d,d∈ds->d.WF)->pw E p (ABf E rs ety es nl l) (BG.enter ds)):mf E f ds ety es nl l :=
 VL (R:=fun V=>yJ V ety es nl l) (fun V vs hv=>by
  unfold yJ at hv;split at hv
  ·exact .inl ⟨_,_,hv,rfl,rfl⟩
  ·exact⟨hv.1.symm,hv.2.symm⟩
  ·exact hv.elim) (fun e s i=>by cases e with
  |normal=>exact⟨fun _ h=>Bk.noConfusion h,i⟩
  |ret=>exact⟨fun _ h=>Bk.noConfusion h,i⟩
  |exit id=>exact i.elim) j hm hn h
def BH:List (Nat×(Nat×AY))->Nat->Option (Nat×AY)
 |[]=>fun _=>none
 |(k,v)::l=>fun t=>if t=k then some v else BH l t
theorem E_:∀{l:List (Nat×(Nat×AY))}{o:Nat}{v:Nat×AY},BH l o=some v->(o,v)∈l
 |[],_,_,h=>by cases h
 |(k,u)::l,o,v,h=>by
  simp only[BH]at h;split at h
  ·rename_i e;simp at h;subst e h;simp
  ·exact ea _ (E_ h)
def AV.WF:AV->Prop
 |.d z=>z.WF
 |_=>True
def AY.WF:AY->Prop
 |.cells xs=>∀x,x∈xs->x.WF
 |.row _ _ nl l=>(D.list nl l).WF
 |.map _ kvs=>∀kv,kv∈kvs->kv.1.WF/\kv.2.WF
 |.mapB _ ks _=>∀k,k∈ks->k.2.1.WF/\k.2.2.WF
 |.hist _ _ _=>True
 |.rowP ..=>True
 |.rowH ..=>True
 |.mitO ..=>True
 |.mitD ..=>True
 |.mat _ _ nl ix rows=>ix.length<=maxLen/\(nl=true->ix=[])/\(∀j,j∈ix->j<rows.length)/\∀x,x∈rows->(D.list x.1 x.2).WF
theorem AP.wf{w:World}{fb β cn}{x:AV}{v:Value}(h:AP w fb β cn x v):x.WF:=by
 cases h with
 |d x v h=>exact h.wf
 |_=>trivial
theorem B3.wf{w:World}{fb:Nat->Prop}{ety es nil xs v}(h:B3 w fb ety es nil xs v):(D.list nil xs).WF:=by
 rw[D.WF];rcases h with⟨h1,h2,h3⟩|⟨h1,b,off,cap,cur,h2,h3,h4,h5,h6,h7,h8,h10,h9⟩
 ·subst h2;simp[maxLen]
 ·refine⟨by omega,fun x hx=>D.wf_of_cells fun c hc=>?_⟩;obtain⟨i,hi⟩:=aa hx;obtain⟨j,e⟩:=aa hc;obtain⟨u,_,hd⟩:=h9 i x j c hi e;exact hd.wf
theorem Ef.wf{w:World}{fb β cn}{x:AY}{v:Value}(h:Ef w fb β cn x v):x.WF:=by
 cases h with
 |cells xs b cur e hb hl h1 h =>
  intro x hx;obtain⟨i,hi⟩:=aa hx;have n:i<cur.size:=by have:=(ay.1 hi).1;omega
  exact(h i x _ hi (c8 n)).wf
 |row ety es nil xs v h =>
  show(D.list nil xs).WF;rw[D.WF];rcases h with⟨h1,h2,h3⟩|⟨h1,b,off,cap,cur,h2,h3,h4,h5,h6,h7,h8,h10,h9⟩
  ·subst h2;simp[maxLen]
  ·refine⟨by omega,fun x hx=>D.wf_of_cells fun c hc=>?_⟩;obtain⟨i,hi⟩:=aa hx;obtain⟨j,m⟩:=aa hc;obtain⟨u,_,hd⟩:=h9 i x j c hi m;exact hd.wf
 |map tys kvs b es hb hl h =>
  intro kv o;obtain⟨i,hi⟩:=aa o;have n:i<es.size:=by have:=(ay.1 hi).1;omega
  obtain⟨_,h1,h2,_⟩:=h i kv _ hi (c8 n);exact⟨h1.wf,h2.wf⟩
 |mitD=>trivial
 |hist=>trivial
 |rowP=>trivial
 |mat e1 e2 nil ix rows v h =>
  obtain⟨z,vs,y,q,h0,hr,t⟩:=h;refine⟨?_,?_,fun j m=>?_,fun x hx=>?_⟩
  ·rcases h0 with⟨_,h2,_⟩|⟨_,b,off,cap,cur,h2,h3,h4,h5,_⟩
   ·subst h2;simp
   ·omega
  ·rcases h0 with⟨_,h2,_⟩|⟨h2,_⟩
   ·exact fun _=>h2
   ·intro hh;rw[h2]at hh;cases hh
  ·rcases h0 with⟨_,h2,_⟩|⟨_,b,off,cap,cur,h2,h3,h4,h5,h6,h7⟩
   ·subst h2;cases m
   ·obtain⟨p,hp⟩:=aa m;obtain⟨u,hu,_⟩:=h7 p j hp;have:=(ay.1 hu).1;omega
  ·obtain⟨j,m⟩:=aa hx;obtain⟨u,hu⟩:∃u,vs[j]?=some u:=⟨_,List.getElem?_eq_getElem (by have:=(ay.1 m).1;omega)⟩
   by_cases r:JS x=true
   ·exact((hr j x u m hu).2 r).wf
   ·obtain⟨b,l⟩:=x
    cases l with
    |nil=>rw[D.WF];exact⟨by simp,fun _ h=>by cases h⟩
    |cons=>simp[JS]at r
def BG.enterM(V0:List (Nat×Nat×AY))(xs:List AV):BG:=⟨fun t=>match xs[t]? with|some x=>x|none=>.undef,⟨BH V0,fun _=>1⟩⟩
def I_(V0:List (Nat×Nat×AY)):Bool:=(V0.all fun p=>p.2.1 == 0 && (decide (p.1<5000000) && !p.2.2.isHist)) && CG (V0.map (·.1))
theorem ew{w:World}{fb:Nat->Prop}{V0:List (Nat×Nat×AY)}{xs:List AV}{vs:Array Value}{n:Nat}{β:Nat->Nat->Value}(r:∀b,fb b->b<w.heap.size)(hg:mn E w (fun b=>fb b\/Fy β V0 b))
  (j:At w fb β (fun _=>1) V0) (hok:I_ V0=true) (hv:vs.size=xs.length)
  (hd:∀(i:Nat) (x:AV) (v:Value),xs[i]?=some x->vs[i]?=some v->AP w (fun b=>fb b\/Fy β V0 b) β (fun _=>1) x v) :
  BZ E (EG.of w fb (Fy β V0) (fun o=>β o 0)) β (BG.enterM V0 xs) (vs++az (n-vs.size) undef) w:=by
 simp only[I_,ck,cw]at hok;obtain⟨y,z⟩:=hok
 have e:∀b,(EG.of w fb (Fy β V0) (fun o=>β o 0)).bar β (BG.enterM V0 xs).V b->(fb b\/Fy β V0 b):=fun b hb=>by
  rcases hb with hb|⟨o,g,x,h1,h2⟩
  ·exact .inl hb
  ·exact .inr ⟨o,g,x,E_ h1,h2⟩
 refine⟨⟨rfl,rfl,rfl,ax _,fun _ _ _=>rfl⟩,fun b hb=>⟨r b hb,fun⟨o,g,x,h1,h2⟩=>(j.home o g x b h1 h2).2 hb⟩,fun g cs m=>(hg g cs m).mono (Aq.refl _ _) fun b _ hb=>e b hb,fun t=>?_,fun o g x h=>?_,fun o o' g g' x x' b h h' hb p=>?_,fun o g x b h hb=>?_,fun o g x _ h=>?_,fun o g els n st h=>?_⟩
 ·have hu:∃u,(vs++az (n-vs.size) undef).getD t undef=u/\∀d,xs[t]?=some d->vs[t]?=some u:=by
   refine⟨_,rfl,fun d hd=>?_⟩;have l:t<vs.size:=by rw[hv];exact(ay.1 hd).1
   simp[eb,et l,l]
  obtain⟨u,hu,q⟩:=hu;rw[hu];show AP w _ β _ (match xs[t]? with|some x=>x|none=>.undef) u
  cases hxt:xs[t]? with
  |none=>exact .undef u
  |some x=>exact(hd t x u hxt (q x hxt)).mono (Aq.refl _ _) (fun b _ hb=>e b hb) (fun _ _ _=>rfl) fun _=>ax _
 ·obtain⟨h1,h2⟩:=j.objs o g x (E_ h);exact⟨h1,h2.mono (Aq.refl _ _) (fun b _ hb=>e b hb) (fun _ _ _=>rfl) (fun _=>ax _) fun _ _ _=>rfl⟩
 ·exact(j.sep _ _ _ _ _ _ b (E_ h) (E_ h') hb p).1
 ·obtain⟨h1,h2⟩:=j.home o g x b (E_ h) hb;exact⟨h1,.inr ⟨o,g,x,E_ h,hb⟩,h2⟩
 ·have:=y _ (E_ h);simp at this;rw[this.1]
 ·have:=y _ (E_ h);simp[AY.isHist]at this
def fh(V1:List (Nat×Nat×AY))(o:Nat):Bool:=V1.any fun p=>p.1 == o
def Tl(V1:List (Nat×Nat×AY))(V:AO)(v:AV):AV->Prop
 |.d d=>v.snap V=some d/\(v.sites.all fun o=>!fh V1 o)=true
 |r=>v=r
def Rx(V1:List (Nat×Nat×AY))(V:AO):List AV->List AV->Prop
 |[],[]=>True
 |v::vs,r::rs=>Tl V1 V v r/\Rx V1 V vs rs
 |_,_=>False
def uP(V1:List (Nat×Nat×AY))(V:AO)(r:AV):List AV->Prop
 |[v]=>Tl V1 V v r
 |vs=>match r with
  |.tup rs=>Rx V1 V vs rs
  |_=>False
def pp(V:AO):List (Nat×Nat×AY)->Prop
 |[]=>True
 |(o,g,x)::l=>V.ob o=some (g,x)/\pp V l
def yP(E:CW)(rs:List RT)(V1:List (Nat×Nat×AY))(r:AV):Bk->BG->Prop
 |.exit _,_=>False
 |_,s=>GL E s rs (uP V1 s.V r)/\pp s.V V1
theorem Hk{V:AO}:∀{V1:List (Nat×Nat×AY)},pp V V1->∀o g x,(o,g,x)∈V1->V.ob o=some (g,x)
 |(o',g',x')::l,h,o,g,x,hm=>by
  rcases List.mem_cons.1 hm with e|hm
  ·cases e;exact h.1
  ·exact Hk h.2 o g x hm
theorem X9{c:EG}{β:Nat->Nat->Value}{s:BG}{tm:Array Value}{w:World}(h:BZ E c β s tm w){V1:List (Nat×Nat×AY)}(l:pp s.V V1){v r:AV}{u:Value}(hv:AP w (c.bar β s.V) β s.V.cn v u)(hr:Tl V1 s.V v r) :
  AP w (fun b=>c.fb b\/Fy β V1 b) β s.V.cn r u:=by
 have hb:∀b,(c.fb b\/Fy β V1 b)->c.bar β s.V b:=fun b hb=>by
  rcases hb with hb|⟨o,g,x,h1,h2⟩
  ·exact .inl hb
  ·exact .inr ⟨o,g,x,Hk l _ _ _ h1,h2⟩
 have other:v=r->AP w (fun b=>c.fb b\/Fy β V1 b) β s.V.cn r u:=fun e=>by
  subst e;exact hv.mono (Aq.refl _ _) (fun b _ h=>hb b h) (fun _ _ _=>rfl) fun _=>ax _
 cases r with
 |d d =>
  obtain⟨h1,h2⟩:=hr;refine .d _ _ (Xa h hb hv h1 fun o g y b ho i j m=>?_);rcases m with m|⟨o',g',x',n,p⟩
  ·exact(h.home o g y b i j).2.2 m
  ·have:=h.sep _ _ _ _ _ _ b i (Hk l _ _ _ n) j p;subst this;have:=cw.1 h2 _ ho;have hh:fh V1 o=true:=by simp only[fh,List.any_eq_true];exact⟨_,n,by simp⟩
   rw[hh]at this;cases this
 |_=>exact other hr
theorem uO{c:EG}{β:Nat->Nat->Value}{s:BG}{tm:Array Value}{w:World}(h:BZ E c β s tm w){V1:List (Nat×Nat×AY)}(j:pp s.V V1){vs:List AV}{us:List Value}{r:AV}(hv:C_ (AP w (c.bar β s.V) β s.V.cn) vs us)(e:uP V1 s.V r vs) :
  AP w (fun b=>c.fb b\/Fy β V1 b) β s.V.cn r (Wn us):=by
 have many:(∃rs,r=.tup rs/\Rx V1 s.V vs rs)->AP w (fun b=>c.fb b\/Fy β V1 b) β s.V.cn r (.tuple us.toArray):=by
  rintro⟨rs,rfl,m⟩
  ·have key:∀(vs rs:List AV) (us:List Value),C_ (AP w (c.bar β s.V) β s.V.cn) vs us->Rx V1 s.V vs rs->us.length=rs.length/\∀(i:Nat) (x:AV) (u:Value),rs[i]?=some x->us[i]?=some u->AP w (fun b=>c.fb b\/Fy β V1 b) β s.V.cn x u:=by
    intro vs
    induction vs with
    |nil =>
     intro rs us hv hc
     cases rs with
     |nil=>rw[hv.nil];exact⟨rfl,fun i x u hx=>by simp at hx⟩
     |cons _ _=>exact hc.elim
    |cons v vs ih =>
     intro rs us hv hc
     cases rs with
     |nil=>exact hc.elim
     |cons r rs =>
      obtain⟨u,us',rfl,h1,h2⟩:=hv.cons';obtain⟨n,o⟩:=ih rs us' h2 hc.2;refine⟨by simp[n],fun i x y hx l=>?_⟩
      cases i with
      |zero=>simp at hx l;subst hx l;exact X9 h j h1 hc.1
      |succ i=>simp at hx l;exact o i x y hx l
   obtain⟨k1,k2⟩:=key vs rs us hv m;exact .tup _ _ (by simpa using k1) fun i x u hx hu=>k2 i x u hx (by simpa using hu)
 unfold uP at e;split at e
 ·obtain⟨u,rfl,h1⟩:=JI hv;exact X9 h j h1 e
 ·rename_i hne
  have:Wn us=.tuple us.toArray:=by
   unfold Wn;split
   ·have:=hv.1
    cases vs with
    |nil=>simp at this
    |cons v vs=>cases vs with
     |nil=>exact absurd rfl (hne _)
     |cons _ _=>simp at this
   ·rfl
  rw[this];refine many ?_;split at e
  ·exact⟨_,rfl,e⟩
  ·exact e.elim
theorem BW{f:FuncId}{p:PC}{rs:List RT}{n:Nat}{V0 V1:List (Nat×Nat×AY)}{xs:List AV}{r:AV}(Z:Br E f p rs n)(hm:E.P.follows .mixedOrders=true)(hn:xs.length<=n)(h0:I_ V0=true)
  (h1:(V0.all fun q=>decide (q.1<Cr) || Fh V1 q.1 q.2.1)=true) (h:(∀x,x∈xs->x.WF)->(∀q,q∈V0->q.2.2.WF)->pw E p (yP E rs V1 r) (BG.enterM V0 xs)):Eg E f V0 xs V1 r:=by
 obtain⟨fl,fn,code,G,hb,hr,B,hp⟩:=Z;intro w fb β vs X hg A hv hd
 have T:∀x,x∈xs->x.WF:=fun x M=>by
  obtain⟨i,hi⟩:=aa M;have U:i<vs.size:=by rw[hv];exact(ay.1 hi).1
  exact(hd i x _ hi (c8 U)).wf
 have S:∀q,q∈V0->q.2.2.WF:=fun q u=>(A.objs q.1 q.2.1 q.2.2 u).2.wf
 subst B;refine KQ G hb hm hp (β:=β) (c:=(EG.of w fb (Fy β V0) (fun o=>β o 0))) (ew X hg A h0 hv hd) (.pure rfl rfl) (fun e=>by cases e) (by omega) (h T S) fun e s' β' tm' c' w' u=>?_
 have m:(∀id,e=.exit id->False)/\(GL E s' rs (uP V1 s'.V r)/\pp s'.V V1):=by cases e with
  |normal=>exact⟨fun _ h=>Bk.noConfusion h,u⟩
  |ret=>exact⟨fun _ h=>Bk.noConfusion h,u⟩
  |exit id=>exact u.elim
 refine⟨m.1,fun j q1 q2 q3 y=>?_⟩;obtain⟨m,l⟩:=m.2
 ·have t:∀b,fb b->c'.fb b:=fun b hb=>(q1 b hb).resolve_right id
  obtain⟨vs,us,k1,k2,k3⟩:=Jq j hr m
  have R:∀b,(fb b\/Fy β' V1 b)->c'.bar β' s'.V b:=fun b hb=>by
   rcases hb with hb|⟨o,g,x,h1,h2⟩
   ·exact .inl (t b hb)
   ·exact .inr ⟨o,g,x,Hk l _ _ _ h1,h2⟩
  refine⟨_,k3,_,β',s'.V.cn,rfl,y.os,y.tape,y.output,y.size,fun k hk hn=>y.block k hk fun hb=>hb.elim hn id,⟨fun o g x hm=>?_,fun o g x o' g' x' b hm J hb N=>?_,fun o g x b hm hb=>?_⟩,fun o g x hm hlo=>?_,fun o g x b hm hb=>?_,(uO j l k2 k1).mono (Aq.refl _ _) (fun b _ hb=>hb.imp (t b) id) (fun _ _ _=>rfl) fun _=>ax _⟩
  ·obtain⟨O,Y⟩:=j.objs o g x (Hk l _ _ _ hm);exact⟨O,Y.mono (Aq.refl _ _) (fun b _ hb=>R b hb) (fun _ _ _=>rfl) (fun _=>ax _) fun _ _ _=>rfl⟩
  ·have e1:=Hk l _ _ _ hm;have e2:=Hk l _ _ _ J;have:=j.sep _ _ _ _ _ _ b e1 e2 hb N;subst this;rw[e1]at e2;simp at e2;exact⟨rfl,e2.1⟩
  ·obtain⟨O,_,j3⟩:=j.home o g x b (Hk l _ _ _ hm) hb;exact⟨O,fun hb=>j3 (t b hb)⟩
  ·have:=cw.1 h1 _ hm;simp only[Bool.or_eq_true,decide_eq_true_eq]at this;obtain⟨x',z⟩:=So (this.resolve_left fun hh=>absurd hlo (by omega));refine⟨⟨x',z⟩,?_⟩;simp only[I_,ck,cw]at h0;have L:=h0.1 _ hm;simp at L;have:=j.pin o g x' hlo (Hk l _ _ _ z);rw[this,q2 o L.2.1,L.1]
  ·exact q3 b (j.home o g x b (Hk l _ _ _ hm) hb).2.1
end
end Go.Pw
