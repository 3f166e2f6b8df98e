/- A part of the proof. -/
import Derived.Test.YtpcpcjbbdgmohaaGreatPwX
set_option linter.all false
namespace Go.Pw
open Go.RowKit
def kV (x:Nat):List Nat->List Nat
 |[]=>[x]
 |y::ys=>if x<y then x::y::ys else if x=y then y::ys else y::kV x ys
def mG (xs ys:List Nat):List Nat:=xs.foldl (fun r x=>kV x r) ys
def lU (acc:List (List Nat)) (o:Oper):List Nat :=
 o.after.toList.foldl (fun r e=>if Region.binds .any e then mG (kV e.on (match acc[e.on]? with|some p=>p|none=>[])) r else r) []
def XW (ops:List Oper):List (List Nat):=ops.foldl (fun acc o=>acc++[lU acc o]) []
def bJ (pre:List (List Nat)) (is:List D6):List (D6×List Nat) :=
 is.zipIdx.map fun(I,k)=>(I,(List.range k).filter fun j=>!(match pre[k]? with|some p=>p.contains j|none=>false) &&
  (match is[j]? with|some J=>!U3 J.op.foot I.op.foot|none=>false))
def kX (I:D6):Bool:=match I.op with|.mapent ..=>true|_=>false
def m9 (fl:List Nat) (o:Oper):Bool:=match o.dst with|some t=>fl.contains (t+1000000)|none=>false
def cV (fl:List Nat):List Oper->Option (List Oper×Oper×List Oper)
 |[]=>none
 |o::l=>if m9 fl o=true then some ([],o,l) else match cV fl l with
  |some (a,b,c)=>some (o::a,b,c)
  |none=>none
theorem T1 {fl:List Nat}:∀{l a c:List Oper}{b:Oper},cV fl l=some (a,b,c)->l=a++b::c
 |[],a,c,b,h=>by cases h
 |o::l,a,c,b,h=>by
  simp only[cV] at h
  split at h
  ·simp at h;obtain⟨rfl,rfl,rfl⟩:=h;rfl
  ·split at h
   ·rename_i x y z hx
    simp at h;obtain⟨rfl,rfl,rfl⟩:=h
    rw[T1 hx];rfl
   ·cases h
def TZ (ns:Nat):Option Nat->Bool
 |some t=>decide (t<ns)
 |none=>true
def lA (E:CU) (fl:List Nat) (ns:Nat) (ops a:List Oper) (o:Oper) (b:List Oper) (x:Operand) (args:List Operand):Option PC :=
 match Nw E x,PV E args,Aw (HH E false fl ns ops) a,Aw (HH E false fl ns ops) b with
 |some y,some ys,some l1,some l2=>if (o.guard.isNone && TZ ns o.dst)=true then some (.yld [] l1 o.dst y ys l2 []) else none
 |_,_,_,_=>none
def lB (E:CU) (fl:List Nat) (ns:Nat) (ops a:List Oper) (o:Oper) (b:List Oper):Option PC :=
 match o.op with
 |.call cl=>match cl.callee with
  |.value x=>lA E fl ns ops a o b x cl.args.toList
  |_=>none
 |_=>none
def YN (E:CU) (fl:List Nat) (ns:Nat) (ops:List Oper):Option PC :=
 match cV fl ops with
 |none=>none
 |some (a,o,b)=>lB E fl ns ops a o b
def lC (E:CU) (fl:List Nat) (ns:Nat) (ops a:List Oper) (o:Oper) (b:List Oper) (x:Operand) (args:List Operand):Option PC :=
 match Nw E x,PV E args,Aw (HH E true fl ns ops) a,Aw (HH E true fl ns ops) b,bO ns ops o.guard with
 |some y,some ys,some l1,some l2,some gd=>if (mD a (o::b) (XW ops) (bJ (XW ops) l1) && TZ ns o.dst)=true then some (.ydr [] (bJ (XW ops) l1) gd o.dst y ys l2 []) else none
 |_,_,_,_,_=>none
def lD (E:CU) (fl:List Nat) (ns:Nat) (ops a:List Oper) (o:Oper) (b:List Oper):Option PC :=
 match o.op with
 |.call cl=>match cl.callee with
  |.value x=>lC E fl ns ops a o b x cl.args.toList
  |_=>none
 |_=>none
def YO (E:CU) (fl:List Nat) (ns:Nat) (ops:List Oper):Option PC :=
 match cV fl ops with
 |none=>none
 |some (a,o,b)=>lD E fl ns ops a o b
def YQ (E:CU) (fl:List Nat) (ns:Nat):List Oper->Option PC
 |[]=>none
 |o::b=>match o.op with
  |.next x false=>match Nw E x,Aw (HH E false fl ns (o::b)) b with
   |some y,some l2=>if (o.guard.isNone && TZ ns o.dst)=true then some (.nxt [] o.dst y l2 []) else none
   |_,_=>none
  |_=>none
def ez (E:CU) (fl:List Nat) (ns:Nat) (ops:List Oper):Option PC:=match YN E fl ns ops with
 |some p=>some p
 |none=>YQ E fl ns ops
def QS (E:CU) (fl:List Nat) (ns:Nat):Code->Option PC
 |.skip=>some .skip
 |.region id ops draw =>
  match (if draw then YO E fl ns ops.toList else ez E fl ns ops.toList) with
  |some p=>some p
  |none=>match Aw (HH E draw fl ns ops.toList) ops.toList with
  |none=>some .dead
  |some is=>if draw then
    (
     if (!is.any kX && kE ops.toList (XW ops.toList) (bJ (XW ops.toList) is))=true then some (.draw [] (bJ (XW ops.toList) is) [])
     else match TD ops is ops.size (Array.replicate ops.size false) with
      |some t=>some (.any [] t [])
      |none=>none)
   else some (.reg [] is [])
 |.seq a b=>match QS E fl ns a,QS E fl ns b with
  |some x,some y=>some (.seq x y)
  |_,_=>none
 |.cond c a b=>match Nw E c,QS E fl ns a,QS E fl ns b with
  |some z,some x,some y=>some (.cond z x y)
  |_,_,_=>none
 |.block id a=>(QS E fl ns a).map (.block id)
 |.loop a=>(QS E fl ns a).map (.loop [] [] [])
 |.exit id=>some (.exit id)
 |.ret=>some .ret
 |.scope a=>(QS E fl ns a).map .scope
 |.label _=>some .lab
 |.rangeFunc x ps b a=>match Nw E x,QS E fl ns b,QS E fl ns a with
  |some g,some pb,some pa=>if (ps.toList.all fun p=>decide (p<ns))=true then some (.rngF [] g ps.toList [] [] pb [] [] pa) else none
  |_,_,_=>none
 |_=>none
theorem WM (pre:List (List Nat)) (is:List D6):(bJ pre is).map (·.1)=is:=by
 simp only[bJ,List.map_map]
 apply List.ext_getElem?
 intro i
 simp only[List.getElem?_map,List.getElem?_zipIdx,Option.map_map]
 cases is[i]?<;>rfl
theorem Uk {E:CU}{fl:List Nat}{ns id:Nat}{ops:List Oper}{p:PC}(h:YN E fl ns ops=some p):C4 E fl ns p (.region id ops.toArray false):=by
 unfold YN at h
 split at h
 ·cases h
 ·rename_i a o b hs
  rw[T1 hs] at h ⊢
  unfold lB at h
  split at h
  ·rename_i cl hop
   split at h
   ·rename_i x hc
    unfold lA at h
    split at h
    ·rename_i y ys l1 l2 hy hys h1 h2
     split at h
     ·rename_i hok
      simp only[Bool.and_eq_true] at hok
      simp at h;subst h
      refine .yld h1 h2 hop hc (by simpa using hok.1) hy hys fun t ht=>?_
      have:=hok.2
      rw[ht] at this
      simpa[TZ] using this
     ·cases h
    ·cases h
   ·cases h
  ·cases h
theorem Ul {E:CU}{fl:List Nat}{ns id:Nat}{ops:List Oper}{p:PC}(h:YO E fl ns ops=some p):C4 E fl ns p (.region id ops.toArray true):=by
 unfold YO at h
 split at h
 ·cases h
 ·rename_i a o b hs
  rw[T1 hs] at h ⊢
  unfold lD at h
  split at h
  ·rename_i cl hop
   split at h
   ·rename_i x hc
    unfold lC at h
    split at h
    ·rename_i y ys l1 l2 gd hy hys h1 h2 hg
     split at h
     ·rename_i hok
      simp only[Bool.and_eq_true] at hok
      simp at h;subst h
      refine .ydr (by rw[WM];exact h1) h2 hop hc hg hy hys (fun t ht=>?_) hok.1
      have:=hok.2
      rw[ht] at this
      simpa[TZ] using this
     ·cases h
    ·cases h
   ·cases h
  ·cases h
theorem Um {E:CU}{fl:List Nat}{ns id:Nat}{ops:List Oper}{p:PC}(h:YQ E fl ns ops=some p):C4 E fl ns p (.region id ops.toArray false):=by
 unfold YQ at h
 split at h
 ·cases h
 ·rename_i o b
  split at h
  ·rename_i x hop
   split at h
   ·rename_i y l2 hy h2
    split at h
    ·rename_i hok
     simp only[Bool.and_eq_true] at hok
     simp at h;subst h
     refine .nxt h2 hop (by simpa using hok.1) hy fun t ht=>?_
     have:=hok.2
     rw[ht] at this
     simpa[TZ] using this
    ·cases h
   ·cases h
  ·cases h
theorem WR {E:CU}{fl:List Nat}{ns id:Nat}{ops:List Oper}{p:PC}(h:ez E fl ns ops=some p):C4 E fl ns p (.region id ops.toArray false):=by
 unfold ez at h
 split at h
 ·rename_i q hq;simp at h;subst h;exact Uk hq
 ·exact Um h
theorem EG {E:CU}{fl:List Nat}{ns:Nat}:∀{code:Code}{p:PC},QS E fl ns code=some p->C4 E fl ns p code
 |.skip,p,h=>by simp[QS] at h;subst h;exact .skip
 |.region id ops draw,p,h=>by
  obtain⟨ops⟩:=ops
  simp only[QS] at h
  split at h
  ·rename_i p' hp'
   simp at h;subst h
   split at hp'
   ·rename_i hd
    have:draw=true:=by simpa using hd
    subst this
    exact Ul hp'
   ·rename_i hd
    have:draw=false:=by simpa using hd
    subst this
    exact WR hp'
  split at h
  ·simp at h;subst h;exact .dead
  ·rename_i is his
   cases draw with
   |true =>
    simp only[if_true] at h
    split at h
    ·rename_i hok;simp at h;subst h
     simp only[Bool.and_eq_true] at hok
     exact .draw (pre:=XW ops) (by rw[WM];exact his) hok.2
    ·split at h
     ·rename_i t ht
      simp at h;subst h
      exact .any his (by simpa using ht)
     ·cases h
   |false =>
    simp at h;subst h
    exact .reg his
 |.seq a b,p,h=>by
  simp only[QS] at h
  split at h
  ·rename_i x y hx hy;simp at h;subst h;exact .seq (EG hx) (EG hy)
  ·cases h
 |.cond c a b,p,h=>by
  simp only[QS] at h
  split at h
  ·rename_i z x y hz hx hy;simp at h;subst h;exact .cond hz (EG hx) (EG hy)
  ·cases h
 |.block id a,p,h=>by
  simp only[QS,Option.map_eq_some_iff] at h
  obtain⟨x,hx,rfl⟩:=h;exact .block (EG hx)
 |.loop a,p,h=>by
  simp only[QS,Option.map_eq_some_iff] at h
  obtain⟨x,hx,rfl⟩:=h;exact .loop (EG hx)
 |.exit id,p,h=>by simp[QS] at h;subst h;exact .exit
 |.ret,p,h=>by simp[QS] at h;subst h;exact .ret
 |.rangeFunc x ps b a,p,h=>by
  obtain⟨ps⟩:=ps
  simp only[QS] at h
  split at h
  ·rename_i g pb pa hg hb ha
   split at h
   ·rename_i hps
    simp at h;subst h
    exact .rngF hg (fun q hq=>by simpa using List.all_eq_true.1 hps q hq) (EG hb) (EG ha)
   ·cases h
  ·cases h
 |.scope a,p,h=>by
  simp only[QS,Option.map_eq_some_iff] at h
  obtain⟨x,hx,rfl⟩:=h;exact .scope (EG hx)
 |.label _,p,h=>by simp[QS] at h;subst h;exact .lab
 |.goto _,p,h=>by simp[QS] at h
 |.refuse _,p,h=>by simp[QS] at h
def PC.raw:PC->PC
 |.skip=>.skip
 |.reg _ l _=>.reg [] l []
 |.draw _ l _=>.draw [] l []
 |.any _ t _=>.any [] t []
 |.seq a b=>.seq a.raw b.raw
 |.cond c a b=>.cond c a.raw b.raw
 |.block id a=>.block id a.raw
 |.loop _ _ _ a=>.loop [] [] [] a.raw
 |.exit id=>.exit id
 |.ret=>.ret
 |.dead=>.dead
 |.scope a=>.scope a.raw
 |.lab=>.lab
 |.yld _ l1 d y xs l2 _=>.yld [] l1 d y xs l2 []
 |.nxt _ d y l2 _=>.nxt [] d y l2 []
 |.ydr _ l1 gd d y xs l2 _=>.ydr [] l1 gd d y xs l2 []
 |.rngF _ g ps _ _ b _ _ a=>.rngF [] g ps [] [] b.raw [] [] a.raw
theorem EE {E:CU}{fl:List Nat}{ns:Nat}:∀{p:PC}{code:Code},C4 E fl ns p.raw code->C4 E fl ns p code
 |.skip,_,h=>by cases h;exact .skip
 |.reg _ _ _,_,h=>by cases h with|reg h=>exact .reg h
 |.draw _ _ _,_,h=>by cases h with|draw h hok=>exact .draw h hok
 |.any _ _ _,_,h=>by cases h with|any h ht=>exact .any h ht
 |.seq _ _,_,h=>by cases h with|seq h h'=>exact .seq (EE h) (EE h')
 |.cond _ _ _,_,h=>by cases h with|cond hx h h'=>exact .cond hx (EE h) (EE h')
 |.block _ _,_,h=>by cases h with|block h=>exact .block (EE h)
 |.loop _ _ _ _,_,h=>by cases h with|loop h=>exact .loop (EE h)
 |.exit _,_,h=>by cases h;exact .exit
 |.ret,_,h=>by cases h;exact .ret
 |.dead,_,_=>.dead
 |.scope _,_,h=>by cases h with|scope h=>exact .scope (EE h)
 |.lab,_,h=>by cases h;exact .lab
 |.rngF _ _ _ _ _ _ _ _ _,_,h=>by cases h with|rngF hx hp h h'=>exact .rngF hx hp (EE h) (EE h')
 |.yld _ _ _ _ _ _ _,_,h=>by cases h with|yld h1 h2 h3 h4 h5 h6 h7 h8=>exact .yld h1 h2 h3 h4 h5 h6 h7 h8
 |.ydr _ _ _ _ _ _ _ _,_,h=>by cases h with|ydr h1 h2 h3 h4 h5 h6 h7 h8 h9=>exact .ydr h1 h2 h3 h4 h5 h6 h7 h8 h9
 |.nxt _ _ _ _ _,_,h=>by cases h with|nxt h1 h2 h3 h4 h5=>exact .nxt h1 h2 h3 h4 h5
inductive RT where
 |t (n:Nat)
 |c (a ty:Nat) (ag:Bool) (n:Nat)
def RT.slot:RT->Nat
 |.t n=>n
 |.c a _ _ _=>a
def mB (P:Program):ResultVar->Option RT
 |.tmp t=>some (.t t)
 |.cell a ty=>match E_ P ty,Dx P ty with
  |some ag,some n=>some (.c a ty ag n)
  |_,_=>none
def jq (P:Program) (l:List ResultVar):Option (List RT):=Aw (mB P) l
def lp (E:CU) (fl:List Nat) (f:FuncId):Option (PC×List RT×Nat) :=
 match E.P.funcs[f]? with
 |none=>none
 |some fn=>match fn.body,jq E.P fn.results.toList with
  |some code,some rs=>(QS E fl fn.ntmps code).map fun p=>(p,rs,fn.ntmps)
  |_,_=>none
structure Ct (E:CU) (f:FuncId) (p:PC) (rs:List RT) (n:Nat):Prop where
 ex:∃fl fn code,E.P.funcs[f]?=some fn/\fn.body=some code/\jq E.P fn.results.toList=some rs/\fn.ntmps=n/\C4 E fl n p code
theorem AR {E:CU}{fl:List Nat}{f:FuncId}{p:PC}{rs:List RT}{n:Nat}(h:lp E fl f=some (p.raw,rs,n)):Ct E f p rs n:=by
 unfold lp at h
 split at h
 ·cases h
 ·rename_i fn hfn
  split at h
  ·rename_i code rs' hb hr
   simp only[Option.map_eq_some_iff] at h
   obtain⟨q,hq,he⟩:=h
   simp at he;obtain⟨rfl,rfl,rfl⟩:=he
   exact⟨fl,fn,code,hfn,hb,hr,rfl,EE (EG hq)⟩
  ·cases h
abbrev DT.of (w:World) (fb mine:Nat->Prop) (b0:Nat->Value):DT:={ w0:=w,fb:=fb,mine:=mine,b0:=b0 }
def A3.enter (ds:List D):A3:=⟨fun t=>match ds[t]? with|some d=>.d d|none=>.undef,⟨fun _=>none,fun _=>0⟩⟩
def XT (E:CU) (s:A3):RT->(AV->Prop)->Prop
 |.t n,K=>K (s.sl n)
 |.c a _ ag n,K=>ev E none s.V (.load ag n) [s.sl a] fun v _=>K v
def Ev (E:CU) (s:A3):List RT->(List AV->Prop)->Prop
 |[],K=>K []
 |r::l,K=>XT E s r fun v=>Ev E s l fun vs=>K (v::vs)
def HS (V:AO) (r:D):List AV->Prop
 |[v]=>v.snap V=some r
 |vs=>(Aw (AV.snap V) vs).map .tup=some r
def jo (E:CU) (rs:List RT) (r:D):CG->A3->Prop
 |.exit _,_=>False
 |_,s=>Ev E s rs (HS s.V r)
def R6:List Value->Value
 |[v]=>v
 |vs=>.tuple vs.toArray
def lR (tm:Array Value):ResultVar->Sem Value
 |.tmp t=>pure (tm.getD t undef)
 |.cell a t=>do loadVar t (←asAddr (tm.getD a undef))
theorem F_ {E:CU}{c:DT}{β:Nat->Nat->Value}{s:A3}{tm:Array Value}{w:World}(h:BP E c β s tm w) {fn:Func}{rs:List RT}(hr:jq E.P fn.results.toList=some rs) {K:List AV->Prop}(hK:Ev E s rs K) :
  ∃vs us,K vs/\C0 (AQ w (c.bar β s.V) β s.V.cn) vs us/\(results fn tm).run E.P w=.ok (R6 us) w:=by
 have key:∀(f:ResultVar->Sem Value),(∀t,f (.tmp t)=pure (tm.getD t undef))->(∀a t,f (.cell a t)=do loadVar t (←asAddr (tm.getD a undef)))->∀(l:List ResultVar) (rs:List RT) (K:List AV->Prop),Aw (mB E.P) l=some rs->Ev E s rs K ->
   ∃vs us,K vs/\C0 (AQ w (c.bar β s.V) β s.V.cn) vs us/\(l.mapM f).run E.P w=.ok us w:=by
  intro f hf1 hf2 l
  induction l with
  |nil =>
   intro rs K hrs hK
   simp[Aw] at hrs;subst hrs
   exact⟨[],[],hK,⟨rfl,by simp⟩,by simp⟩
  |cons x l ih =>
   intro rs K hrs hK
   simp only[Aw] at hrs
   split at hrs
   ·cases hrs
   ·rename_i r hr1
    split at hrs
    ·cases hrs
    ·rename_i rs' hrs'
     simp at hrs;subst hrs
     simp only[Ev] at hK
     have one:∃v u,Ev E s rs' (fun vs=>K (v::vs))/\AQ w (c.bar β s.V) β s.V.cn v u/\(f x).run E.P w=.ok u w:=by
      cases x with
      |tmp t =>
       simp[mB] at hr1;subst hr1
       exact⟨_,_,hK,h.slots t,by rw[hf1];simp⟩
      |cell a ty =>
       simp only[mB] at hr1
       split at hr1
       ·rename_i ag n hag hn
        simp at hr1;subst hr1
        simp only[XT] at hK
        obtain⟨u,hu,v,hv,hrep⟩:=Ql h hag hn (h.slots a) hK
        refine⟨v,u,hv,hrep,?_⟩
        rw[hf2,←hu]
        simp only[Instr.loadAt]
        have hp:∃ad,tm.getD a undef=.pointer (some ad):=by
         have hs:=h.slots a
         unfold ev at hK
         simp only at hK
         split at hK
         ·rename_i heq;simp at heq;rw[heq] at hs
          generalize tm.getD a undef=z at hs ⊢;cases hs;exact⟨_,rfl⟩
         ·rename_i heq;simp at heq;rw[heq] at hs
          generalize tm.getD a undef=z at hs ⊢;cases hs;exact⟨_,rfl⟩
         ·rename_i heq;simp at heq;rw[heq] at hs
          generalize tm.getD a undef=z at hs ⊢;cases hs;exact⟨_,rfl⟩
         ·rename_i heq;simp at heq;rw[heq] at hs
          generalize tm.getD a undef=z at hs ⊢
          cases hs with|d _ _ hs=>cases hs;exact⟨_,rfl⟩
         ·rename_i heq;simp at heq;rw[heq] at hs
          cases hs with|mref _ _ _ _ _ hm _=>exact Yz hm
         ·rename_i heq;simp at heq;rw[heq] at hs
          cases hs with|mref _ _ _ _ _ hm _=>exact Y0 hm
         ·rename_i heq;simp at heq;rw[heq] at hs
          cases hs with|ablk _ _ _ b base vs u hb hne h1 hc hv hu=>exact⟨_,by rw[hu];rfl⟩
         ·exact hK.elim
        obtain⟨ad,hp⟩:=hp
        rw[hp];simp[asAddr,Instr.sureAddr]
       ·cases hr1
     obtain⟨v,u,h1,h2,h3⟩:=one
     obtain⟨vs,us,h4,h5,h6⟩:=ih rs' _ hrs' h1
     refine⟨v::vs,u::us,h4,⟨by simp[h5.1],fun i x y hx hy=>?_⟩,by simp only[List.mapM_cons,Sem.run_bind,h3,Result.andThen_ok,h6,Sem.run_pure]⟩
     cases i with
     |zero=>simp at hx hy;subst hx hy;exact h2
     |succ i=>simp at hx hy;exact h5.2 i x y hx hy
 have hF:results fn tm=(do let vs ←fn.results.mapM (lR tm);pure (if h:vs.size=1 then vs[0] else .tuple vs)):=by
  unfold results
  refine congrArg (fun g:ResultVar->Sem Value=>(do let vs ←fn.results.mapM g;pure (if h:vs.size=1 then vs[0] else .tuple vs):Sem Value)) (funext fun x=>?_)
  cases x<;>rfl
 obtain⟨vs,us,h1,h2,h3⟩:=key (lR tm) (fun t=>rfl) (fun a t=>rfl) fn.results.toList rs K hr hK
 refine⟨vs,us,h1,h2,?_⟩
 have hrr:fn.results=fn.results.toList.toArray:=by simp
 rw[hF,hrr]
 simp only[List.mapM_toArray,Sem.run_bind,Sem.run_map]
 rw[h3]
 simp only[Result.andThen_ok,Sem.run_pure]
 cases us with
 |nil=>simp[R6]
 |cons t us=>cases us<;>simp[R6]
section
variable {E:CU}
theorem YJ (ds:List D) (vs:Array Value) (n:Nat) (hv:vs.size=ds.length) (t:Nat):∃u,(vs++Array.replicate (n-vs.size) undef).getD t undef=u/\∀d,ds[t]?=some d->vs[t]?=some u:=by
 refine⟨_,rfl,fun d hd=>?_⟩
 have hlt:t<vs.size:=by rw[hv];exact(List.getElem?_eq_some_iff.1 hd).1
 simp[Array.getD_eq_getD_getElem?,Array.getElem?_append_left hlt,hlt]
theorem S6 {w:World}{fb:Nat->Prop}{ds:List D}{vs:Array Value}{n:Nat}{β:Nat->Nat->Value}(hfb:∀b,fb b->b<w.heap.size) (hg:fS E w fb) (hv:vs.size=ds.length)
  (hd:∀(i:Nat) (d:D) (v:Value),ds[i]?=some d->vs[i]?=some v->Ap w fb d v):BP E (DT.of w fb (fun _=>False) (fun _=>undef)) β (A3.enter ds) (vs++Array.replicate (n-vs.size) undef) w:=by
 have hbar:∀b,((DT.of w fb (fun _=>False) (fun _=>undef)):DT).bar β (A3.enter ds).V b->fb b:=fun b hb=>by
  rcases hb with hb|⟨o,g,x,h1,h2⟩
  ·exact hb
  ·cases h1
 refine⟨⟨rfl,rfl,rfl,Nat.le_refl _,fun _ _ _=>rfl⟩,fun b hb=>⟨hfb b hb,id⟩,fun g cs hgg=>(hg g cs hgg).mono (Ag.refl _ _) fun b _ hb=>hbar b hb,fun t=>?_,fun o g x h=>(nomatch h),?_,fun o g x b h=>(nomatch h),fun o g x _ h=>(nomatch h),fun o g els n st h=>(nomatch h)⟩
 case refine_2=>exact fun o o' g g' x x' b h=>(nomatch h)
 obtain⟨u,hu,hut⟩:=YJ ds vs n hv t
 rw[hu]
 show AQ w _ β _ (match ds[t]? with|some d=>.d d|none=>.undef) u
 cases hdt:ds[t]? with
 |none=>exact .undef u
 |some d=>exact .d _ _ ((hd t d u hdt (hut d hdt)).mono (Ag.refl _ _) fun b _ hb=>hbar b hb)
theorem L1 {w w':World}{M:Nat->Prop}(h:DJ M w w') (hM:∀b,¬M b):Below w.heap.size w w' :=
 ⟨h.os,h.tape,h.output,h.size,fun k hk=>h.block k hk (hM k)⟩
theorem Y5 {fn:Func}{R:Ending->World->Prop}{tm:Array Value}{s:A3}{β:Nat->Nat->Value}:∀{Ds:List Nat}{c:DT}{w:World},BP E c β s tm w->Ds.Nodup->(∀D,D∈Ds->w.heap[D]?=some (.deferred (some []))/\c.fb D) ->
  (∀c2 w2,BP E c2 β s tm w2->c2.fb=c.fb->c2.b0=c.b0->(∀b,(c2.w0.heap.size<=b\/c2.mine b)->c.w0.heap.size<=b\/c.mine b)->DJ (fun b=>b∈Ds) w w2->∃v,(results fn tm).run E.P w2=.ok v w2/\R (.returned v) w2) ->
  LeavesInM Fence.wide 0 E.P fn tm R (Ds.map HE) .returning w
 |[],c,w,h,hn,hd,hk=>by
  show ∃v,_/\_
  exact hk c w h rfl rfl (fun _ h=>h) (DJ.refl _ _)
 |D::Ds,c,w,h,hn,hd,hk=>by
  obtain⟨hD,hf⟩:=hd D (by simp)
  refine⟨by simp,.inl ⟨D,w.putObj D (.deferred none),rfl,run_takeDeferred hD,?_⟩⟩
  have hlt:D<w.heap.size:=(Array.getElem?_eq_some_iff.1 hD).1
  have hne:∀k,k≠D->(w.putObj D (.deferred none)).heap[k]?=w.heap[k]?:=fun k hk=>by
   simp[World.putObj,Array.getElem?_setIfInBounds_ne (Ne.symm hk)]
  have hsz:(w.putObj D (.deferred none)).heap.size=w.heap.size:=by simp[World.putObj]
  have hup:DJ (fun b=>b=D) w (w.putObj D (.deferred none)):=⟨rfl,rfl,rfl,by rw[hsz];exact Nat.le_refl _,fun k _ hk=>hne k hk⟩
  have hst:Ag (c.bar β s.V) w (w.putObj D (.deferred none)):=fun b hn _=>hne b fun e=>hn (.inl (e ▸ hf))
  obtain⟨c2,hc2⟩:∃c2:DT,c2={ c with w0:=w.putObj D (.deferred none),mine:=C8 β s.V,J:=fun _ _ _ _ _=>True }:=⟨_,rfl⟩
  have hbar:∀b,b<w.heap.size->c2.bar β s.V b->c.bar β s.V b:=fun b _ hb=>by subst hc2;exact hb
  have hr:BP E c2 β s tm (w.putObj D (.deferred none)):=by
   refine⟨by subst hc2;exact(DJ.refl _ _).keep,fun b hb=>?_,fun gg cs hgg=>(h.glob gg cs hgg).mono hst hbar,fun t=>(h.slots t).mono hst hbar (fun _ _ _=>rfl) (fun _=>Nat.le_refl _),fun o g x hx=>?_,h.sep,fun o g x b hx hb=>?_,fun o g x hl hx=>?_,fun o g els n st hx=>?_⟩
   ·subst hc2
    refine⟨by show b<(w.putObj D (.deferred none)).heap.size;rw[hsz];exact Nat.lt_of_lt_of_le (h.low b hb).1 h.keep.size,fun ho=>?_⟩
    obtain⟨o,g,x,h1,h2⟩:=ho
    exact(h.home o g x b h1 h2).2.2 hb
   ·obtain⟨h1,h2⟩:=h.objs o g x hx
    exact⟨h1,h2.mono hst hbar (fun _ _ _=>rfl) (fun _=>Nat.le_refl _) fun b hb _=>hne b fun e=>(h.home o g x b hx hb).2.2 (e ▸ hf)⟩
   ·subst hc2
    obtain⟨h1,_,h3⟩:=h.home o g x b hx hb
    exact⟨by rw[hsz];exact h1,.inr ⟨o,g,x,hx,hb⟩,h3⟩
   ·subst hc2;exact h.pin o g x hl hx
   ·subst hc2
    obtain⟨h1,h2,_,h4⟩:=h.hist o g els n st hx
    exact⟨h1,h2,trivial,h4⟩
  rw[List.nodup_cons] at hn
  refine Y5 (c:=c2) hr hn.2 (fun D' hD'=>?_) fun c3 w3 h3 e1 e2 e3 e4=>?_
  ·obtain⟨k1,k2⟩:=hd D' (List.mem_cons_of_mem _ hD')
   refine⟨?_,by subst hc2;exact k2⟩
   rw[hne D' fun e=>hn.1 (e ▸ hD')];exact k1
  ·refine hk c3 w3 h3 (by rw[e1];subst hc2;rfl) (by rw[e2];subst hc2;rfl) (fun b hb=>?_) ((hup.mono fun i _ hi=>by subst hi;simp).trans e4 fun i _ hi=>List.mem_cons_of_mem _ hi)
   have:=e3 b hb
   subst hc2
   rcases this with h5|h5
   ·left
    have h6:(w.putObj D (.deferred none)).heap.size<=b:=h5
    rw[hsz] at h6
    exact Nat.le_trans h.keep.size h6
   ·obtain⟨o,g,x,k1,k2⟩:=h5
    exact(h.home o g x b k1 k2).2.1
theorem H5 {fl:List Nat}{f:FuncId}{fn:Func}{code:Code}{p:PC}{args:Array Value}{R:Ending->World->Prop}{Q:CG->A3->Prop}{s:A3}{c:DT}{β:Nat->Nat->Value}{w:World}(hfn:E.P.funcs[f]?=some fn) (hb:fn.body=some code) (hm:E.P.follows .mixedOrders=true) (hp:C4 E fl fn.ntmps p code)
  (h:BP E c β s (args++Array.replicate (fn.ntmps-args.size) undef) w) (hy:Tn E c) (hnr:c.nr=true->p.noR=true) (hsz:args.size<=fn.ntmps) (hpw:pw E p Q s)
  (hq:∀e s' β' tm' c' w',Q e s'->(∀id,e=.exit id->False)/\(BP E c' β' s' tm' w'->(∀b,c.fb b->c'.fb b\/c.may b)->(∀o,o<5000000->c'.b0 o=c.b0 o)->(∀b,(c'.w0.heap.size<=b\/c'.mine b)->c.w0.heap.size<=b\/c.mine b)->DJ (fun b=>c.mine b\/c.may b) c.w0 w' ->
   ∃v,(results fn tm').run E.P w'=.ok v w'/\R (.returned v) w')):Calls E.P f args w R:=by
 refine callsIn_wide.1 (callsIn_of_wp_marks (n:=0) hfn hb trivial (Q0 hm hp none 0 h hy hnr (fun e=>by cases e) (by simp;omega) hpw fun e s' β' c' tm' Ds w' hk he hy' hmk hr htm=>?_))
 have fin:(∀id,e=.exit id->False)->LeavesInM Fence.wide 0 E.P fn tm' R (Ds.map HE++[]) .returning w':=fun hne=>by
  rw[List.append_nil]
  have hkw:DJ (fun b=>c.mine b\/c.may b) c.w0 w':=he.keep w' (hr.keep.upto.mono fun i _ hi=>.inl hi)
  refine Y5 hr hmk.nodup (fun D hD=>?_) fun c2 w2 h2 e1 e2 e3 e4=>?_
  ·obtain⟨ha,_⟩:=hmk.alive D hD
   refine⟨?_,ha.2.2.2⟩
   rw[hr.keep.block D ha.lt ha.2.1];exact ha.1
  ·refine(hq e s' β' tm' c2 w2 hk).2 h2 (fun b hb=>?_) (fun o ho=>by rw[e2];exact he.b0 o (.inl ho)) (fun b hb=>he.mine b (e3 b hb)) (hkw.trans (e4.mono (M':=fun b=>b∈Ds) fun _ _ h=>h) fun i hi hD=>?_)
   ·rw[e1];exact he.fb b hb
   ·have:=(hmk.alive i hD).2;omega
 have hx:=(hq e s' β' tm' c' w' hk).1
 cases e with
 |normal=>exact fin hx
 |ret=>exact fin hx
 |exit id=>exact(hx id rfl).elim
theorem Yu {c:DT}{β:Nat->Nat->Value}{s:A3}{tm:Array Value}{w:World}(h:BP E c β s tm w) {vs:List AV}{us:List Value}{r:D}(hv:C0 (AQ w (c.bar β s.V) β s.V.cn) vs us) (hr:HS s.V r vs):Ap w c.fb r (R6 us):=by
 have many:(Aw (AV.snap s.V) vs).map .tup=some r->Ap w c.fb r (.tuple us.toArray):=by
  intro hts
  simp only[Option.map_eq_some_iff] at hts
  obtain⟨l,hl,rfl⟩:=hts
  refine .tup _ _ (by simp[Aj hl,hv.1]) fun i d u hd hu=>?_
  obtain⟨x,hx,hsn⟩:=A4 hl hd
  exact Qn h (hv.2 i x u hx (by simpa using hu)) hsn
 unfold HS at hr
 split at hr
 ·rename_i v
  obtain⟨u,rfl,h1⟩:=GN hv
  exact Qn h h1 hr
 ·rename_i hne
  have:R6 us=.tuple us.toArray:=by
   unfold R6;split
   ·have:=hv.1
    cases vs with
    |nil=>simp at this
    |cons v vs=>cases vs with
     |nil=>exact absurd rfl (hne _)
     |cons _ _=>simp at this
   ·rfl
  rw[this];exact many hr
theorem AW {f:FuncId}{p:PC}{rs:List RT}{n:Nat}{ds:List D}{r:D}(hf:Ct E f p rs n) (hm:E.P.follows .mixedOrders=true) (hn:ds.length<=n) (h:(∀d,d∈ds->d.WF)->pw E p (jo E rs r) (A3.enter ds)):Ca E f ds r:=by
 obtain⟨fl,fn,code,hfn,hb,hr,hnn,hp⟩:=hf
 intro w fb vs hfb hg hv hd
 have hwf:∀d,d∈ds->d.WF:=fun d hdm=>by
  obtain⟨i,hi⟩:=List.getElem?_of_mem hdm
  have hlt:i<vs.size:=by rw[hv];exact(List.getElem?_eq_some_iff.1 hi).1
  exact(hd i d _ hi (Array.getElem?_eq_getElem hlt)).wf
 subst hnn
 refine H5 hfn hb hm hp (β:=fun _ _=>undef) (c:=(DT.of w fb (fun _=>False) (fun _=>undef))) (S6 hfb hg hv hd) (.pure rfl rfl) (fun e=>by cases e) (by omega) (h hwf) fun e s' β' tm' c' w' hq=>?_
 have hres:(∀id,e=.exit id->False)/\Ev E s' rs (HS s'.V r):=by cases e with
  |normal=>exact⟨fun _ h=>CG.noConfusion h,hq⟩
  |ret=>exact⟨fun _ h=>CG.noConfusion h,hq⟩
  |exit id=>exact hq.elim
 refine⟨hres.1,fun hrel k1 k2 k3 k4=>?_⟩
 obtain⟨vs,us,h1,h2,h3⟩:=F_ hrel hr hres.2
 exact⟨_,h3,_,rfl,L1 k4 fun b hb=>hb.elim id id,(Yu hrel h2 h1).mono (Ag.refl _ _) fun b _ hb=>(k1 b hb).resolve_right id⟩
def jl (V:AO) (ety es:Nat) (nl:Bool) (l:List D):List AV->Prop
 |[.own o g]=>V.get o g=some (.row ety es nl l)
 |[.d (.list true [])]=>nl=true/\l=[]
 |_=>False
def mM (E:CU) (rs:List RT) (ety es:Nat) (nl:Bool) (l:List D):CG->A3->Prop
 |.exit _,_=>False
 |_,s=>Ev E s rs (jl s.V ety es nl l)
theorem MR {f:FuncId}{p:PC}{rs:List RT}{n ety es:Nat}{ds:List D}{nl:Bool}{l:List D}(hf:Ct E f p rs n) (hm:E.P.follows .mixedOrders=true) (hn:ds.length<=n) (h:(∀d,d∈ds->d.WF)->pw E p (mM E rs ety es nl l) (A3.enter ds)):bg E f ds ety es nl l:=by
 obtain⟨fl,fn,code,hfn,hb,hr,hnn,hp⟩:=hf
 intro w fb vs hfb hg hv hd
 have hwf:∀d,d∈ds->d.WF:=fun d hdm=>by
  obtain⟨i,hi⟩:=List.getElem?_of_mem hdm
  have hlt:i<vs.size:=by rw[hv];exact(List.getElem?_eq_some_iff.1 hi).1
  exact(hd i d _ hi (Array.getElem?_eq_getElem hlt)).wf
 subst hnn
 refine H5 hfn hb hm hp (β:=fun _ _=>undef) (c:=(DT.of w fb (fun _=>False) (fun _=>undef))) (S6 hfb hg hv hd) (.pure rfl rfl) (fun e=>by cases e) (by omega) (h hwf) fun e s' β' tm' c' w' hq=>?_
 have hres:(∀id,e=.exit id->False)/\Ev E s' rs (jl s'.V ety es nl l):=by cases e with
  |normal=>exact⟨fun _ h=>CG.noConfusion h,hq⟩
  |ret=>exact⟨fun _ h=>CG.noConfusion h,hq⟩
  |exit id=>exact hq.elim
 refine⟨hres.1,fun hrel q1 q2 q3 q4=>?_⟩
 have hmin:∀b,(c'.w0.heap.size<=b\/c'.mine b)->w.heap.size<=b:=fun b hb=>(q3 b hb).resolve_right id
 ·obtain⟨vs,us,h1,h2,h3⟩:=F_ hrel hr hres.2
  refine⟨_,h3,_,rfl,L1 q4 fun b hb=>hb.elim id id,?_⟩
  unfold jl at h1
  split at h1
  ·rename_i o g
   obtain⟨u,rfl,hs⟩:=GN h2
   show (∀b,Cl u b->_)/\CV w' (fun b=>fb b\/Cl u b) ety es nl l u
   cases hs with
   |own _ _ hgg hone =>
    obtain⟨_,ho⟩:=hrel.objs _ _ _ (AO.get_some h1)
    refine⟨fun b hbb=>?_,?_⟩
    ·exact hmin b (hrel.home o g _ b (AO.get_some h1) hbb).2.1
    ·have hown:∀b,Cl (β' o g) b->C8 β' s'.V b:=fun b hbb=>⟨o,g,_,AO.get_some h1,hbb⟩
     generalize hvv:β' o g=v at ho hown
     cases ho with
     |row _ _ _ _ _ ho =>
      exact ho.mono (Ag.refl _ _) (fun b _ hb=>hb.elim (fun h=>.inl ((q1 b h).resolve_right id)) fun h=>.inr (hown b h)) fun _ _ _=>rfl
  ·obtain⟨u,rfl,hs⟩:=GN h2
   obtain⟨rfl,rfl⟩:=h1
   cases hs with
   |d _ _ hs=>cases hs;exact⟨fun b hbb=>by simp[R6,Cl,Ay] at hbb,.inl ⟨rfl,rfl,rfl⟩⟩
  ·exact h1.elim
def A7:List (Nat×(Nat×Ae))->Nat->Option (Nat×Ae)
 |[]=>fun _=>none
 |(k,v)::l=>fun t=>if t=k then some v else A7 l t
theorem Dr:∀{l:List (Nat×(Nat×Ae))}{o:Nat}{v:Nat×Ae},A7 l o=some v->(o,v)∈l
 |[],_,_,h=>by cases h
 |(k,u)::l,o,v,h=>by
  simp only[A7] at h
  split at h
  ·rename_i e;simp at h;subst e h;simp
  ·exact List.mem_cons_of_mem _ (Dr h)
def AV.WF:AV->Prop
 |.d z=>z.WF
 |_=>True
def Ae.WF:Ae->Prop
 |.cells xs=>∀x,x∈xs->x.WF
 |.row _ _ nl l=>(D.list nl l).WF
 |.map _ kvs=>∀kv,kv∈kvs->kv.1.WF/\kv.2.WF
 |.mapB _ ks _=>∀k,k∈ks->k.2.1.WF/\k.2.2.WF
 |.hist _ _ _=>True
 |.rowH ..=>True
 |.mitO ..=>True
 |.mitD ..=>True
 |.mat _ _ nl ix rows=>ix.length<=maxLen/\(nl=true->ix=[])/\(∀j,j∈ix->j<rows.length)/\∀x,x∈rows->(D.list x.1 x.2).WF
theorem AQ.wf {w:World} {fb β cn} {x:AV}{v:Value}(h:AQ w fb β cn x v):x.WF:=by
 cases h with
 |d x v h=>exact h.wf
 |_=>trivial
theorem CV.wf {w:World}{fb:Nat->Prop} {ety es nil xs v} (h:CV w fb ety es nil xs v):(D.list nil xs).WF:=by
 rw[D.WF]
 rcases h with⟨h1,h2,h3⟩|⟨h1,b,off,cap,cur,h2,h3,h4,h5,h6,h7,h8,h10,h9⟩
 ·subst h2;simp[maxLen]
 ·refine⟨by omega,fun x hx=>D.wf_of_cells fun c hc=>?_⟩
  obtain⟨i,hi⟩:=List.getElem?_of_mem hx
  obtain⟨j,hj⟩:=List.getElem?_of_mem hc
  obtain⟨u,_,hd⟩:=h9 i x j c hi hj
  exact hd.wf
theorem DP.wf {w:World} {fb β cn} {x:Ae}{v:Value}(h:DP w fb β cn x v):x.WF:=by
 cases h with
 |cells xs b cur e hb hl h1 h =>
  intro x hx
  obtain⟨i,hi⟩:=List.getElem?_of_mem hx
  have hlt:i<cur.size:=by have:=(List.getElem?_eq_some_iff.1 hi).1;omega
  exact(h i x _ hi (Array.getElem?_eq_getElem hlt)).wf
 |row ety es nil xs v h =>
  show (D.list nil xs).WF
  rw[D.WF]
  rcases h with⟨h1,h2,h3⟩|⟨h1,b,off,cap,cur,h2,h3,h4,h5,h6,h7,h8,h10,h9⟩
  ·subst h2;simp[maxLen]
  ·refine⟨by omega,fun x hx=>D.wf_of_cells fun c hc=>?_⟩
   obtain⟨i,hi⟩:=List.getElem?_of_mem hx
   obtain⟨j,hj⟩:=List.getElem?_of_mem hc
   obtain⟨u,_,hd⟩:=h9 i x j c hi hj
   exact hd.wf
 |map tys kvs b es hb hl h =>
  intro kv hkv
  obtain⟨i,hi⟩:=List.getElem?_of_mem hkv
  have hlt:i<es.size:=by have:=(List.getElem?_eq_some_iff.1 hi).1;omega
  obtain⟨_,h1,h2,_⟩:=h i kv _ hi (Array.getElem?_eq_getElem hlt)
  exact⟨h1.wf,h2.wf⟩
 |mapB tys ks cl b es hb hl hr h =>
  intro k hk
  obtain⟨i,hi⟩:=List.getElem?_of_mem hk
  have hlt:i<es.size:=by have:=(List.getElem?_eq_some_iff.1 hi).1;omega
  obtain⟨_,h1,h2,_⟩:=h i k _ hi (Array.getElem?_eq_getElem hlt)
  exact⟨h1.wf,h2.wf⟩
 |mitO=>trivial
 |mitD=>trivial
 |hist=>trivial
 |rowH=>trivial
 |mat e1 e2 nil ix rows v h =>
  obtain⟨v0,vs,hvv,hlen,h0,hr,hsep⟩:=h
  refine⟨?_,?_,fun j hj=>?_,fun x hx=>?_⟩
  ·rcases h0 with⟨_,h2,_⟩|⟨_,b,off,cap,cur,h2,h3,h4,h5,_⟩
   ·subst h2;simp
   ·omega
  ·rcases h0 with⟨_,h2,_⟩|⟨h2,_⟩
   ·exact fun _=>h2
   ·intro hh;rw[h2] at hh;cases hh
  ·rcases h0 with⟨_,h2,_⟩|⟨_,b,off,cap,cur,h2,h3,h4,h5,h6,h7⟩
   ·subst h2;cases hj
   ·obtain⟨p,hp⟩:=List.getElem?_of_mem hj
    obtain⟨u,hu,_⟩:=h7 p j hp
    have:=(List.getElem?_eq_some_iff.1 hu).1;omega
  ·obtain⟨j,hj⟩:=List.getElem?_of_mem hx
   obtain⟨u,hu⟩:∃u,vs[j]?=some u:=⟨_,List.getElem?_eq_getElem (by have:=(List.getElem?_eq_some_iff.1 hj).1;omega)⟩
   by_cases ha:H9 x=true
   ·exact((hr j x u hj hu).2 ha).wf
   ·obtain⟨b,l⟩:=x
    cases l with
    |nil=>rw[D.WF];exact⟨by simp,fun _ h=>by cases h⟩
    |cons=>simp[H9] at ha
def A3.enterM (V0:List (Nat×Nat×Ae)) (xs:List AV):A3:=⟨fun t=>match xs[t]? with|some x=>x|none=>.undef,⟨A7 V0,fun _=>1⟩⟩
def US (V0:List (Nat×Nat×Ae)):Bool:=(V0.all fun p=>p.2.1 == 0 && (decide (p.1<5000000) && !p.2.2.isHist)) && DW (V0.map (·.1))
theorem XU {w:World}{fb:Nat->Prop}{V0:List (Nat×Nat×Ae)}{xs:List AV}{vs:Array Value}{n:Nat}{β:Nat->Nat->Value}(hfb:∀b,fb b->b<w.heap.size) (hg:fS E w (fun b=>fb b\/El β V0 b))
  (hat:At w fb β (fun _=>1) V0) (hok:US V0=true) (hv:vs.size=xs.length)
  (hd:∀(i:Nat) (x:AV) (v:Value),xs[i]?=some x->vs[i]?=some v->AQ w (fun b=>fb b\/El β V0 b) β (fun _=>1) x v) :
  BP E (DT.of w fb (El β V0) (fun o=>β o 0)) β (A3.enterM V0 xs) (vs++Array.replicate (n-vs.size) undef) w:=by
 simp only[US,Bool.and_eq_true,List.all_eq_true] at hok
 obtain⟨hz,hnd⟩:=hok
 have hbar:∀b,(DT.of w fb (El β V0) (fun o=>β o 0)).bar β (A3.enterM V0 xs).V b->(fb b\/El β V0 b):=fun b hb=>by
  rcases hb with hb|⟨o,g,x,h1,h2⟩
  ·exact .inl hb
  ·exact .inr ⟨o,g,x,Dr h1,h2⟩
 refine⟨⟨rfl,rfl,rfl,Nat.le_refl _,fun _ _ _=>rfl⟩,fun b hb=>⟨hfb b hb,fun⟨o,g,x,h1,h2⟩=>(hat.home o g x b h1 h2).2 hb⟩,fun g cs hgg=>(hg g cs hgg).mono (Ag.refl _ _) fun b _ hb=>hbar b hb,fun t=>?_,fun o g x h=>?_,fun o o' g g' x x' b h h' hb hb'=>?_,fun o g x b h hb=>?_,fun o g x _ h=>?_,fun o g els n st h=>?_⟩
 ·have hu:∃u,(vs++Array.replicate (n-vs.size) undef).getD t undef=u/\∀d,xs[t]?=some d->vs[t]?=some u:=by
   refine⟨_,rfl,fun d hd=>?_⟩
   have hlt:t<vs.size:=by rw[hv];exact(List.getElem?_eq_some_iff.1 hd).1
   simp[Array.getD_eq_getD_getElem?,Array.getElem?_append_left hlt,hlt]
  obtain⟨u,hu,hut⟩:=hu
  rw[hu]
  show AQ w _ β _ (match xs[t]? with|some x=>x|none=>.undef) u
  cases hxt:xs[t]? with
  |none=>exact .undef u
  |some x=>exact(hd t x u hxt (hut x hxt)).mono (Ag.refl _ _) (fun b _ hb=>hbar b hb) (fun _ _ _=>rfl) fun _=>Nat.le_refl _
 ·obtain⟨h1,h2⟩:=hat.objs o g x (Dr h)
  exact⟨h1,h2.mono (Ag.refl _ _) (fun b _ hb=>hbar b hb) (fun _ _ _=>rfl) (fun _=>Nat.le_refl _) fun _ _ _=>rfl⟩
 ·exact(hat.sep _ _ _ _ _ _ b (Dr h) (Dr h') hb hb').1
 ·obtain⟨h1,h2⟩:=hat.home o g x b (Dr h) hb
  exact⟨h1,.inr ⟨o,g,x,Dr h,hb⟩,h2⟩
 ·have:=hz _ (Dr h)
  simp at this
  rw[this.1]
 ·have:=hz _ (Dr h)
  simp[Ae.isHist] at this
def kW (V1:List (Nat×Nat×Ae)) (o:Nat):Bool:=V1.any fun p=>p.1 == o
def WW (V1:List (Nat×Nat×Ae)) (V:AO) (v:AV):AV->Prop
 |.d d=>v.snap V=some d/\(v.sites.all fun o=>!kW V1 o)=true
 |r=>v=r
def Td (V1:List (Nat×Nat×Ae)) (V:AO):List AV->List AV->Prop
 |[],[]=>True
 |v::vs,r::rs=>WW V1 V v r/\Td V1 V vs rs
 |_,_=>False
def i9 (V1:List (Nat×Nat×Ae)) (V:AO) (r:AV):List AV->Prop
 |[v]=>WW V1 V v r
 |vs=>match r with
  |.tup rs=>Td V1 V vs rs
  |_=>False
def eE (V:AO):List (Nat×Nat×Ae)->Prop
 |[]=>True
 |(o,g,x)::l=>V.ob o=some (g,x)/\eE V l
def jp (E:CU) (rs:List RT) (V1:List (Nat×Nat×Ae)) (r:AV):CG->A3->Prop
 |.exit _,_=>False
 |_,s=>Ev E s rs (i9 V1 s.V r)/\eE s.V V1
theorem F5 {V:AO}:∀{V1:List (Nat×Nat×Ae)},eE V V1->∀o g x,(o,g,x)∈V1->V.ob o=some (g,x)
 |(o',g',x')::l,h,o,g,x,hm=>by
  rcases List.mem_cons.1 hm with he|hm
  ·cases he;exact h.1
  ·exact F5 h.2 o g x hm
theorem Tc {c:DT}{β:Nat->Nat->Value}{s:A3}{tm:Array Value}{w:World}(h:BP E c β s tm w) {V1:List (Nat×Nat×Ae)}(hin:eE s.V V1) {v r:AV}{u:Value}(hv:AQ w (c.bar β s.V) β s.V.cn v u) (hr:WW V1 s.V v r) :
  AQ w (fun b=>c.fb b\/El β V1 b) β s.V.cn r u:=by
 have hb:∀b,(c.fb b\/El β V1 b)->c.bar β s.V b:=fun b hb=>by
  rcases hb with hb|⟨o,g,x,h1,h2⟩
  ·exact .inl hb
  ·exact .inr ⟨o,g,x,F5 hin _ _ _ h1,h2⟩
 have other:v=r->AQ w (fun b=>c.fb b\/El β V1 b) β s.V.cn r u:=fun e=>by
  subst e;exact hv.mono (Ag.refl _ _) (fun b _ h=>hb b h) (fun _ _ _=>rfl) fun _=>Nat.le_refl _
 cases r with
 |d d =>
  obtain⟨h1,h2⟩:=hr
  refine .d _ _ (S1 h hb hv h1 fun o g y b ho hob hbb hf=>?_)
  rcases hf with hf|⟨o',g',x',h3,h4⟩
  ·exact(h.home o g y b hob hbb).2.2 hf
  ·have:=h.sep _ _ _ _ _ _ b hob (F5 hin _ _ _ h3) hbb h4
   subst this
   have:=List.all_eq_true.1 h2 _ ho
   have hh:kW V1 o=true:=by simp only[kW,List.any_eq_true];exact⟨_,h3,by simp⟩
   rw[hh] at this;cases this
 |_=>exact other hr
theorem gh {c:DT}{β:Nat->Nat->Value}{s:A3}{tm:Array Value}{w:World}(h:BP E c β s tm w) {V1:List (Nat×Nat×Ae)}(hin:eE s.V V1) {vs:List AV}{us:List Value}{r:AV}(hv:C0 (AQ w (c.bar β s.V) β s.V.cn) vs us) (hmk:i9 V1 s.V r vs) :
  AQ w (fun b=>c.fb b\/El β V1 b) β s.V.cn r (R6 us):=by
 have many:(∃rs,r=.tup rs/\Td V1 s.V vs rs)->AQ w (fun b=>c.fb b\/El β V1 b) β s.V.cn r (.tuple us.toArray):=by
  rintro⟨rs,rfl,hts⟩
  ·have key:∀(vs rs:List AV) (us:List Value),C0 (AQ w (c.bar β s.V) β s.V.cn) vs us->Td V1 s.V vs rs->us.length=rs.length/\∀(i:Nat) (x:AV) (u:Value),rs[i]?=some x->us[i]?=some u->AQ w (fun b=>c.fb b\/El β V1 b) β s.V.cn x u:=by
    intro vs
    induction vs with
    |nil =>
     intro rs us hv hc
     cases rs with
     |nil=>rw[hv.nil];exact⟨rfl,fun i x u hx=>by simp at hx⟩
     |cons _ _=>exact hc.elim
    |cons v vs ih =>
     intro rs us hv hc
     cases rs with
     |nil=>exact hc.elim
     |cons r rs =>
      obtain⟨u,us',rfl,h1,h2⟩:=hv.cons'
      obtain⟨i1,i2⟩:=ih rs us' h2 hc.2
      refine⟨by simp[i1],fun i x y hx hy=>?_⟩
      cases i with
      |zero=>simp at hx hy;subst hx hy;exact Tc h hin h1 hc.1
      |succ i=>simp at hx hy;exact i2 i x y hx hy
   obtain⟨k1,k2⟩:=key vs rs us hv hts
   exact .tup _ _ (by simpa using k1) fun i x u hx hu=>k2 i x u hx (by simpa using hu)
 unfold i9 at hmk
 split at hmk
 ·obtain⟨u,rfl,h1⟩:=GN hv
  exact Tc h hin h1 hmk
 ·rename_i hne
  have:R6 us=.tuple us.toArray:=by
   unfold R6;split
   ·have:=hv.1
    cases vs with
    |nil=>simp at this
    |cons v vs=>cases vs with
     |nil=>exact absurd rfl (hne _)
     |cons _ _=>simp at this
   ·rfl
  rw[this]
  refine many ?_
  split at hmk
  ·exact⟨_,rfl,hmk⟩
  ·exact hmk.elim
theorem GG {f:FuncId}{p:PC}{rs:List RT}{n:Nat}{V0 V1:List (Nat×Nat×Ae)}{xs:List AV}{r:AV}(hf:Ct E f p rs n) (hm:E.P.follows .mixedOrders=true) (hn:xs.length<=n) (h0:US V0=true)
  (h1:(V0.all fun q=>decide (q.1<DB) || IW V1 q.1 q.2.1)=true) (h:(∀x,x∈xs->x.WF)->(∀q,q∈V0->q.2.2.WF)->pw E p (jp E rs V1 r) (A3.enterM V0 xs)):OG E f V0 xs V1 r:=by
 obtain⟨fl,fn,code,hfn,hb,hr,hnn,hp⟩:=hf
 intro w fb β vs hfb hg hat hv hd
 have hwf:∀x,x∈xs->x.WF:=fun x hxm=>by
  obtain⟨i,hi⟩:=List.getElem?_of_mem hxm
  have hlt:i<vs.size:=by rw[hv];exact(List.getElem?_eq_some_iff.1 hi).1
  exact(hd i x _ hi (Array.getElem?_eq_getElem hlt)).wf
 have hwo:∀q,q∈V0->q.2.2.WF:=fun q hq=>(hat.objs q.1 q.2.1 q.2.2 hq).2.wf
 subst hnn
 refine H5 hfn hb hm hp (β:=β) (c:=(DT.of w fb (El β V0) (fun o=>β o 0))) (XU hfb hg hat h0 hv hd) (.pure rfl rfl) (fun e=>by cases e) (by omega) (h hwf hwo) fun e s' β' tm' c' w' hq=>?_
 have hres:(∀id,e=.exit id->False)/\(Ev E s' rs (i9 V1 s'.V r)/\eE s'.V V1):=by cases e with
  |normal=>exact⟨fun _ h=>CG.noConfusion h,hq⟩
  |ret=>exact⟨fun _ h=>CG.noConfusion h,hq⟩
  |exit id=>exact hq.elim
 refine⟨hres.1,fun hrel q1 q2 q3 q4=>?_⟩
 obtain⟨hres,hin⟩:=hres.2
 ·have hfb1:∀b,fb b->c'.fb b:=fun b hb=>(q1 b hb).resolve_right id
  obtain⟨vs,us,k1,k2,k3⟩:=F_ hrel hr hres
  have hbb:∀b,(fb b\/El β' V1 b)->c'.bar β' s'.V b:=fun b hb=>by
   rcases hb with hb|⟨o,g,x,h1,h2⟩
   ·exact .inl (hfb1 b hb)
   ·exact .inr ⟨o,g,x,F5 hin _ _ _ h1,h2⟩
  refine⟨_,k3,_,β',s'.V.cn,rfl,q4.os,q4.tape,q4.output,q4.size,fun k hk hn=>q4.block k hk fun hb=>hb.elim hn id,⟨fun o g x hm=>?_,fun o g x o' g' x' b hm hm' hb hb'=>?_,fun o g x b hm hb=>?_⟩,fun o g x hm hlo=>?_,fun o g x b hm hb=>?_,(gh hrel hin k2 k1).mono (Ag.refl _ _) (fun b _ hb=>hb.imp (hfb1 b) id) (fun _ _ _=>rfl) fun _=>Nat.le_refl _⟩
  ·obtain⟨j1,j2⟩:=hrel.objs o g x (F5 hin _ _ _ hm)
   exact⟨j1,j2.mono (Ag.refl _ _) (fun b _ hb=>hbb b hb) (fun _ _ _=>rfl) (fun _=>Nat.le_refl _) fun _ _ _=>rfl⟩
  ·have e1:=F5 hin _ _ _ hm
   have e2:=F5 hin _ _ _ hm'
   have:=hrel.sep _ _ _ _ _ _ b e1 e2 hb hb'
   subst this
   rw[e1] at e2;simp at e2;exact⟨rfl,e2.1⟩
  ·obtain⟨j1,_,j3⟩:=hrel.home o g x b (F5 hin _ _ _ hm) hb
   exact⟨j1,fun hb=>j3 (hfb1 b hb)⟩
  ·have:=List.all_eq_true.1 h1 _ hm
   simp only[Bool.or_eq_true,decide_eq_true_eq] at this
   obtain⟨x',hx'⟩:=Og (this.resolve_left fun hh=>absurd hlo (by omega))
   refine⟨⟨x',hx'⟩,?_⟩
   simp only[US,Bool.and_eq_true,List.all_eq_true] at h0
   have hz:=h0.1 _ hm
   simp at hz
   have:=hrel.pin o g x' hlo (F5 hin _ _ _ hx')
   rw[this,q2 o hz.2.1,hz.1]
  ·exact q3 b (hrel.home o g x b (F5 hin _ _ _ hm) hb).2.1
end
end Go.Pw
