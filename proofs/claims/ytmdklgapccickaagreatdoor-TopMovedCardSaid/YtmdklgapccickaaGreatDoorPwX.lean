/- Part. -/
import Derived.Test.YtmdklgapccickaaGreatDoorPwXb
import Derived.Scope
import Derived.RangeFuncLeaves
set_option linter.all false
open List renaming getElem?_eq_some_iff->aa,getElem?_map->az,all_eq_true->c8,getElem?_of_mem->ea,getElem?_append_left->hU,getElem?_append_right->hX,mem_or_eq_of_mem_set->j4,getElem?_set_self->kk,getElem?_set_ne->la,mem_append->lb,map_append->na,append_assoc->ne
open Array renaming getElem?_eq_getElem->ax,getElem?_eq_some_iff->ay,getD_eq_getD_getElem?->eb,getElem?_append_left->et,getElem?_append_right->no
open Nat renaming le_refl->ck,le_trans->cp,lt_of_lt_of_le->hY,zero_add->i7
open Option renaming map_eq_some_iff->cw,getD_some->j0
open Bool renaming and_eq_true_iff->f0,and_eq_true->i5
namespace Go.Pw
open Go.RowKit
def BG.keep(s:BG)(ks:List Nat):BG:=⟨fun t=>if ks.contains t then s.sl t else .undef,s.V⟩
def AO.drop(V:AO)(o:Nat):AO:=⟨CB V.ob o none,V.cn⟩
def AO.keep(V:AO)(os:List Nat):AO:=⟨fun o=>if os.contains o then V.ob o else none,V.cn⟩
inductive EE where
 |freeze (t:Nat)
 |frzP (t:Nat)
 |frzH (t:Nat)
 |frzM (t:Nat)
 |frzA (t:Nat)
 |frzC (t off:Nat)
 |ownM (t o e1 e2:Nat)
 |own (t o ety es:Nat)
 |ownC (t off o ety es:Nat)
 |ownMC (t off o e1 e2:Nat)
 |drop (o:Nat)
 |only (os:List Nat)
 |ownR (t e2:Nat)
 |SL (t k:Nat)
 |bump (t:Nat)
 |down (ks os:List Nat)
def AV.nrm(V:AO)(os:List Nat):AV->AV
 |.ptr o g off=>if live V os o g then .ptr o 0 off else .undef
 |.rptr o g es i off=>if live V os o g then .rptr o 0 es i off else .undef
 |.own o g=>if live V os o g then .own o 0 else .undef
 |.map o g=>if live V os o g then .map o 0 else .undef
 |.agg cs=>let cs':=nrmL V os cs;if cs'.all AV.one then .agg cs' else .undef
 |.fn f cs=>.fn f (nrmL V os cs)
 |.bnd f cs=>.bnd f (nrmL V os cs)
 |.tup cs=>.tup (nrmL V os cs)
 |.mref k o g=>if live V os o g then .mref k o 0 else .undef
 |.ablk sl cs off=>let cs':=nrmL V os cs;if cs'.all AV.one then .ablk sl cs' off else .undef
 |v=>v
where
 live (V:AO) (os:List Nat) (o g:Nat):Bool:=os.contains o && (match V.ob o with|some (g',_)=>g' == g|none=>false)
 nrmL (V:AO) (os:List Nat):List AV->List AV
  |[]=>[]
  |x::xs=>x.nrm V os::nrmL V os xs
def AY.nrm(V:AO)(os:List Nat):AY->Option AY
 |.cells xs=>let xs':=xs.map (AV.nrm V os);if xs'.all AV.one then some (.cells xs')else none
 |.rowH ety xs i q p=>if AV.nrm.live V os q p then some (.rowH ety xs i q 0)else none
 |.rowP ..=>none
 |.mitO q p n seen=>if AV.nrm.live V os q p then some (.mitO q 0 n seen)else none
 |x=>some x
def AO.nrm(V:AO)(os:List Nat):AO:=⟨fun o=>if os.contains o then(match V.ob o with
 |some (_,x)=>match x.nrm V os with|some y=>some (0,y)|none=>none
 |none=>none)else none,fun _=>1⟩
def BG.nrm(s:BG)(ks os:List Nat):BG:=⟨fun t=>if ks.contains t then(s.sl t).nrm s.V os else .undef,s.V.nrm os⟩
def E3(g:EE)(s:BG)(K:BG->Prop):Prop :=
 match g with
 |.freeze t=>match s.sl t with
  |.own o g=>match s.V.get o g with
   |some (.row _ _ nl l)=>K ⟨CB s.sl t (.d (.list nl l)),s.V.drop o⟩
   |_=>False
  |_=>K s
 |.frzP t=>match s.sl t with
  |.ptr o g 0=>match s.V.get o g with
   |some (.cells xs)=>match Ax AV.toD1 xs with
    |some (c::l)=>K ⟨CB s.sl t (.d (.ptr (c::l))),s.V.drop o⟩
    |_=>False
   |_=>False
  |_=>K s
 |.frzM t=>match s.sl t with
  |.mref .out o g=>match s.V.get o g with
   |some (.mat _ _ nl ix rows)=>Zo ix rows=true/\K ⟨CB s.sl t (.d (.list nl (Mw ix rows))),s.V.drop o⟩
   |_=>False
  |_=>K s
 |.frzA t=>match s.sl t with
  |.ptr o g 0=>match s.V.get o g with
   |some (.cells (c::l))=>K ⟨CB s.sl t (.ablk false (c::l) 0),s.V.drop o⟩
   |_=>False
  |_=>K s
 |.frzC t off=>match s.sl t with
  |.ptr b g f=>match s.V.get b g with
   |some (.cells xs)=>match xs[f+off]? with
    |some (.own o p)=>match s.V.get o p with
     |some (.row _ _ nl l)=>K ⟨s.sl,(s.V.drop o).app (.keep b g (.cells (xs.set (f+off) (.d (.list nl l)))))⟩
     |_=>False
    |_=>K s
   |_=>K s
  |_=>K s
 |.ownM t o e1 e2=>match s.sl t with
  |.d (.list true [])=>o<Cr/\K ⟨CB s.sl t (.mref .out o (s.V.cn o)),s.V.app (.fresh o (.mat e1 e2 true [] []))⟩
  |_=>K s
 |.own t o ety es=>match s.sl t with
  |.d (.list true [])=>o<Cr/\K ⟨CB s.sl t (.own o (s.V.cn o)),s.V.app (.fresh o (.row ety es true []))⟩
  |_=>K s
 |.ownC t off o ety es=>match s.sl t with
  |.ptr b g f=>match s.V.get b g with
   |some (.cells xs)=>match xs[f+off]? with
    |some (.d (.list true []))=>o<Cr/\o≠b/\K ⟨s.sl,(s.V.app (.fresh o (.row ety es true []))).app (.keep b g (.cells (xs.set (f+off) (.own o (s.V.cn o)))))⟩
    |_=>K s
   |_=>K s
  |_=>K s
 |.bump t=>match s.sl t with
  |.own o g=>match s.V.get o g with
   |some (.row ety es nl l)=>o<Cr/\K ⟨CB s.sl t (.own o (s.V.cn o)),s.V.app (.fresh o (.row ety es nl l))⟩
   |some (.rowP ety es P)=>o<Cr/\∀nl l,P nl l->K ⟨CB s.sl t (.own o (s.V.cn o)),s.V.app (.fresh o (.row ety es nl l))⟩
   |_=>K s
  |_=>K s
 |_=>False
def B5:List EE->BG->(BG->Prop)->Prop
 |[],s,K=>K s
 |g::gs,s,K=>E3 g s fun s'=>B5 gs s' K
inductive Bk where
 |normal|exit (id:Nat)|ret
inductive sA where
 |done
 |step (I:Fu) (r:sA)
 |both (a b:sA)
def Ov(E:CW):sA->BG->(BG->Prop)->Prop
 |.done,s,K=>K s
 |.step I r,s,K=>Ey E I s fun v ch=>Ov E r (put s I.dst v ch) K
 |.both a b,s,K=>Ov E a s K/\Ov E b s K
def ry(f:Nat->Option sA):List Nat->Option sA
 |[]=>some .done
 |[i]=>f i
 |i::j::l=>match f i,ry f (j::l)with
  |some a,some b=>some (.both a b)
  |_,_=>none
def Xp(ops:Array Oper)(is:List Fu):Nat->Array Bool->Option sA
 |0,listed=>if Region.ready .any ops listed=[]then some .done else none
 |n+1,listed=>ry (fun i=>match is[i]?,Xp ops is n (listed.setIfInBounds i true)with
  |some I,some r=>some (.step I r)
  |_,_=>none) (Region.ready .any ops listed)
inductive PC where
 |skip
 |reg (gs:List EE) (l:List Fu) (ks:List Nat)
 |draw (gs:List EE) (l:List (Fu×List Nat)) (ks:List Nat)
 |any (gs:List EE) (t:sA) (ks:List Nat)
 |seq (a b:PC)
 |cond (c:Jk) (a b:PC)
 |block (id:Nat) (a:PC)
 |loop (gs:List EE) (ks os:List Nat) (a:PC)
 |exit (id:Nat)
 |ret
 |dead
 |scope (a:PC)
 |lab
 |rngF (gs:List EE) (g:Jk) (ps ks os:List Nat) (b:PC) (gs2:List EE) (os2:List Nat) (a:PC)
 |nxt (gs:List EE) (dst:Option Nat) (it:Jk) (l2:List Fu) (ks:List Nat)
 |yld (gs:List EE) (l1:List Fu) (dst:Option Nat) (y:Jk) (xs:List Jk) (l2:List Fu) (ks:List Nat)
def Yv(E:CW)(v:AV)(K:FuncId->List D->List D->Prop):Prop :=
 match v with
 |.bnd f cs=>match FJ cs with
  |some ds=>BA E.P f=true/\K f ds []
  |none=>False
 |.d (.fn f cs)=>BA E.P f=true/\K f [] cs
 |_=>False
theorem oJ{E:CW}{v:AV}{K:FuncId->List D->List D->Prop}{w:World}{fb:Nat->Prop}{β:Nat->Nat->Value}{cn:Nat->Nat}{u:Value}(h:Yv E v K)(hv:AP w fb β cn v u) :
  ∃f pre post vs e,u=.func (.func f) vs e/\vs.size=pre.length/\e.size=post.length/\(∀(i:Nat) (d:D) (v:Value),pre[i]?=some d->vs[i]?=some v->Ar w fb d v) /\
   (∀(i:Nat) (d:D) (v:Value),post[i]?=some d->e[i]?=some v->Ar w fb d v)/\BA E.P f=true/\K f pre post:=by
 unfold Yv at h;split at h
 ·rename_i f cs;split at h
  ·rename_i ds j;unfold FJ at j
   cases hv with|bnd _ _ vs hl hh =>
   exact⟨f,ds,[],vs,#[],rfl,by rw[Af j];exact hl,rfl,fun i d v hd hv=>by
    obtain⟨z,m,l⟩:=BC j hd
    exact(B' (hh i z v m hv) l).1,fun i d v hd=>by simp at hd,h.1,h.2⟩
  ·exact h.elim
 ·rename_i f cs
  cases hv with|d _ _ hv=>cases hv with|fn _ _ vs hl hh=>exact⟨f,[],cs,#[],vs,rfl,rfl,hl,fun i d v hd=>by simp at hd,hh,h.1,h.2⟩
 ·exact h.elim
def GJ(ks:List Nat)(sl:Nat->AV)(V:AO):Bool:=ks.all fun k=>(sl k).sites.all fun o=>match V.ob o with|some (g,_)=>g == 0|none=>false
def PK(A:BG->Prop):Bk->BG->Prop
 |.normal,s=>A s
 |_,_=>False
def ABg(JJ:Nat->AO->Prop)(Pd:Bk->AO->Prop)(m:Nat):Bk->AO->Prop
 |.normal,V=>JJ m V
 |e,V=>Pd e V
def yN(JJ:Nat->AO->Prop)(Pd:Bk->AO->Prop)(m:Nat)(gs:List EE)(ks os:List Nat)(sl:Nat->AV)(e:Bk)(s:BG):Prop :=
 B5 gs s fun s'=>GJ ks sl (s'.V.nrm os)=true/\ABg JJ Pd m e (s'.V.nrm os)
def PC.noR:PC->Bool
 |.seq a b=>a.noR && b.noR
 |.cond _ a b=>a.noR && b.noR
 |.block _ a=>a.noR
 |.loop _ _ _ a=>a.noR
 |.scope a=>a.noR
 |.rngF ..=>false
 |_=>true
def L5(A:BG->Prop)(Q:Bk->BG->Prop):Bk->BG->Prop
 |.normal,s=>A s
 |e,s=>Q e s
def Lx(id:Nat)(Q:Bk->BG->Prop):Bk->BG->Prop
 |.exit i,s=>if i=id then Q .normal s else Q (.exit i) s
 |e,s=>Q e s
def V5(v:AV)(A B:Prop):Prop :=
 match v with
 |.d (.bool b)=>JL b A B
 |_=>False
def Ux(E:CW)(y:AV)(xs:List AV)(V:AO)(K:AV->Bs->Prop):Prop :=
 match y with
 |.fn f cs=>BA E.P f=true/\∃o els n Post,V.get o 0=some (.hist els n false)/\AV.onlyH.allH o (xs++cs)=true/\ABR E f o (xs++cs) els n Post /\
   ∀n1 st1 r,Post n1 st1 r->r.flat=true/\K (up r) (.keep o 0 (.hist els n1 st1))
 |.own o g=>match V.get o g with
  |some (.hist els n false)=>match FJ xs with
   |some ds=>∃k,els.nx n ds k/\K (.d (.bool true)) (.keep o g (.hist els k false))/\K (.d (.bool false)) (.keep o g (.hist els k true))
   |none=>False
  |_=>False
 |_=>False
def Qz(x:AV)(V:AO)(K:AV->Bs->Prop):Prop :=
 match x with
 |.ptr o g 0=>match V.get o g with
  |some (.mitD tys kvs seen)=>(∀i,i<kvs.length->seen.contains i=false->K (.tup [.d (.bool true),.undef,.undef]) (.keep o g (.mitD tys kvs (seen++[i])))) /\
   ((∀i,i<kvs.length->seen.contains i=true)->K (.tup [.d (.bool false)]) .none)
  |_=>False
 |_=>False
def pw(E:CW):PC->(Bk->BG->Prop)->BG->Prop
 |.skip,Q,s=>Q .normal s
 |.reg gs l ks,Q,s=>B5 gs s fun s'=>Lf E l s' fun s'=>Q .normal (s'.keep ks)
 |.draw gs l ks,Q,s=>B5 gs s fun s'=>Wm E l [] s' fun s'=>Q .normal (s'.keep ks)
 |.any gs t ks,Q,s=>B5 gs s fun s'=>Ov E t s' fun s'=>Q .normal (s'.keep ks)
 |.seq a b,Q,s=>pw E a (L5 (pw E b Q) Q) s
 |.cond c a b,Q,s=>V5 (c.val s.sl) (pw E a Q s) (pw E b Q s)
 |.block id a,Q,s=>pw E a (Lx id Q) s
 |.loop gs ks os a,Q,s=>∃J:Nat->BG->Prop,B5 gs s (fun s1=>∃n,J n (s1.nrm ks os))/\∀n s',J n s'->pw E a (L5 (fun s''=>B5 gs s'' fun s1=>∃m,m<n/\J m (s1.nrm ks os)) Q) s'
 |.exit id,Q,s=>Q (.exit id) s
 |.ret,Q,s=>Q .ret s
 |.dead,Q,s=>False
 |.scope a,Q,s=>pw E a Q s
 |.lab,Q,s=>Q .normal s
 |.rngF gs g ps ks os b gs2 os2 a,Q,s=>B5 gs s fun s0=>Yv E (g.val s0.sl) fun f pre post=>(b.noR && a.noR)=true/\∃els,WY E f pre post els/\∃(JJ:Nat->AO->Prop) (Pd:Bk->AO->Prop),
  GJ ks (s0.nrm ks os).mv.sl (s0.nrm ks os).mv.V=true/\JJ 0 (s0.nrm ks os).mv.V /\
  (∀n V ds k,V.cn=(fun _=>1)->els.nx n ds k->JJ n V->ps.length=ds.length /\
   pw E b (PK fun s2=>pw E a (yN JJ Pd k gs2 ks os2 (s0.nrm ks os).mv.sl) s2) ⟨L6 (s0.nrm ks os).mv.sl ps ds,V⟩) /\
  (∀n V,V.cn=(fun _=>1)->els.fin n->JJ n V->Q .normal ⟨(s0.nrm ks os).mv.sl,V⟩) /\
  ∀e V,V.cn=(fun _=>1)->Pd e V->Q e ⟨(s0.nrm ks os).mv.sl,V⟩
 |.nxt gs dst it l2 ks,Q,s=>B5 gs s fun s0=>Qz (it.val s0.sl) s0.V fun v ch=>Lf E l2 (put s0 dst v ch) fun s'=>Q .normal (s'.keep ks)
 |.yld gs l1 dst y xs l2 ks,Q,s=>B5 gs s fun s0=>Lf E l1 s0 fun s1=>Ux E (y.val s1.sl) (xs.map (Jk.val s1.sl)) s1.V fun v ch=>Lf E l2 (put s1 dst v ch) fun s'=>Q .normal (s'.keep ks)
inductive DR (E:CW) (fl:List Nat) (ns:Nat):PC->Code->Prop
 |skip:DR E fl ns .skip .skip
 |reg {id ops gs l ks} (h:Ax (Nv E false fl ns ops) ops=some l):DR E fl ns (.reg gs l ks) (.region id ops.toArray false)
 |draw {id ops gs l pre ks} (h:Ax (Nv E true fl ns ops) ops=some (l.map (·.1))) (hok:okD ops pre l=true):DR E fl ns (.draw gs l ks) (.region id ops.toArray true)
 |any {id ops gs t is ks} (h:Ax (Nv E true fl ns ops) ops=some is) (ht:Xp ops.toArray is ops.length (Array.replicate ops.length false)=some t):DR E fl ns (.any gs t ks) (.region id ops.toArray true)
 |seq {a b c d} (h:DR E fl ns a c) (h':DR E fl ns b d):DR E fl ns (.seq a b) (.seq c d)
 |cond {x y a b c d} (hx:UO E x=some y) (h:DR E fl ns a c) (h':DR E fl ns b d):DR E fl ns (.cond y a b) (.cond x c d)
 |block {id a c} (h:DR E fl ns a c):DR E fl ns (.block id a) (.block id c)
 |loop {gs ks os a c} (h:DR E fl ns a c):DR E fl ns (.loop gs ks os a) (.loop c)
 |exit {id}:DR E fl ns (.exit id) (.exit id)
 |ret:DR E fl ns .ret .ret
 |dead {code}:DR E fl ns .dead code
 |scope {a c} (h:DR E fl ns a c):DR E fl ns (.scope a) (.scope c)
 |lab {l}:DR E fl ns .lab (.label l)
 |rngF {gs x g ps ks os b gs2 os2 a cb ca} (hx:UO E x=some g) (hp:∀p,p∈ps->p<ns) (h:DR E fl ns b cb) (h':DR E fl ns a ca):DR E fl ns (.rngF gs g ps ks os b gs2 os2 a) (.rangeFunc x ps.toArray cb ca)
 |nxt {id o ops2 x y gs l2 ks} (h2:Ax (Nv E false fl ns (o::ops2)) ops2=some l2)
  (ho:o.op=.next x false) (hg:o.guard=none) (hx:UO E x=some y) (hd:∀t,o.dst=some t->t<ns) :
  DR E fl ns (.nxt gs o.dst y l2 ks) (.region id (o::ops2).toArray false)
 |yld {id ops1 o ops2 cl x y ys gs l1 l2 ks} (h1:Ax (Nv E false fl ns (ops1++o::ops2)) ops1=some l1) (h2:Ax (Nv E false fl ns (ops1++o::ops2)) ops2=some l2)
  (ho:o.op=.call cl) (hc:cl.callee=.value x) (hg:o.guard=none) (hx:UO E x=some y) (hxs:X8 E cl.args.toList=some ys) (hd:∀t,o.dst=some t->t<ns) :
  DR E fl ns (.yld gs l1 o.dst y ys l2 ks) (.region id (ops1++o::ops2).toArray false)
variable {E:CW}{c:EG}{β:Nat->Nat->Value}{s:BG}{a:Act}{w:World}
theorem BZ.keepS{tm:Array Value}(h:BZ E c β s tm w)(ks:List Nat):BZ E c β (s.keep ks) tm w:=by
 refine⟨h.keep,h.low,h.glob,fun t=>?_,h.objs,h.sep,h.home,h.pin,h.hist⟩;show AP w _ β _ (if ks.contains t then s.sl t else .undef) _;split
 ·exact h.slots t
 ·exact .undef _
theorem Gy{V:AO}{o o':Nat}{y:Nat×AY}(h:(V.drop o).ob o'=some y):V.ob o'=some y:=by
 simp only[AO.drop,CB]at h;split at h
 ·cases h
 ·exact h
theorem NX(V:AO)(os:List Nat)(cs:List AV):AV.nrm.nrmL V os cs=cs.map (AV.nrm V os):=by
 induction cs with
 |nil=>rfl
 |cons x xs ih=>simp only[AV.nrm.nrmL,List.map_cons,ih]
def J7(β:Nat->Nat->Value)(V:AO):Nat->Nat->Value:=fun o _=>match V.ob o with|some (g,_)=>β o g|none=>β o 0
theorem K1{β:Nat->Nat->Value}{V:AO}{os:List Nat}{o g:Nat}(h:AV.nrm.live V os o g=true):J7 β V o 0=β o g:=by
 unfold AV.nrm.live at h;simp only[i5]at h;unfold J7;split at h
 ·rename_i g' x hx;simp at h;simp[h.2]
 ·simp at h
theorem AP.nrm{w:World}{fb fb':Nat->Prop}{β:Nat->Nat->Value}{cn:Nat->Nat}{V:AO}{os:List Nat}(p:∀b,b<w.heap.size->fb' b->fb b){a:AV}{v:Value}(h:AP w fb β cn a v) :
  AP w fb' (J7 β V) (fun _=>1) (a.nrm V os) v:=by
 induction h with
 |d x v h=>exact .d x v (h.mono (Aq.refl _ _) p)
 |ex xs a h=>exact .ex xs a (h.mono (Aq.refl _ _) p)
 |agg cs vs hl h1 h ih =>
  simp only[AV.nrm,NX];split
  ·rename_i e;refine .agg _ vs (by simp[hl]) (fun c hc=>c8.1 e c hc) fun i c v hc hv=>?_
   rw[az]at hc;simp only[cw]at hc;obtain⟨l,h0,rfl⟩:=hc;exact ih i l v h0 hv
  ·exact .undef _
 |ptr o g off b hg h =>
  simp only[AV.nrm];split
  ·rename_i hl;exact .ptr o 0 off b (by simp) ((K1 hl).trans h)
  ·exact .undef _
 |rptr o g es i off b b0 n cap hg h =>
  simp only[AV.nrm];split
  ·rename_i hl;exact .rptr o 0 es i off b b0 n cap (by simp) ((K1 hl).trans h)
  ·exact .undef _
 |dptr cs off b base vs hb hne h1 hc hv =>
  cases cs with
  |nil=>exact absurd rfl hne
  |cons x xs =>
   have m:b<w.heap.size:=CH (hc 0 x (by simp));exact .dptr _ off b base vs (fun hh=>hb (p b m hh)) hne h1 hc fun j c h1=>(hv j c h1).mono (Aq.refl _ _) p
 |own o g hg h1 =>
  simp only[AV.nrm];split
  ·rename_i hl;rw[←K1 (β:=β) hl]at h1 ⊢;exact .own o 0 (by simp) h1
  ·exact .undef _
 |map o g hg h1 =>
  simp only[AV.nrm];split
  ·rename_i hl;rw[←K1 (β:=β) hl]at h1 ⊢;exact .map o 0 (by simp) h1
  ·exact .undef _
 |fn f cs vs hl h ih =>
  simp only[AV.nrm,NX];refine .fn f _ vs (by simp[hl]) fun i c v hc hv=>?_
  rw[az]at hc;simp only[cw]at hc;obtain⟨l,h0,rfl⟩:=hc;exact ih i l v h0 hv
 |tup cs vs hl h ih =>
  simp only[AV.nrm,NX];refine .tup _ vs (by simp[hl]) fun i c v hc hv=>?_
  rw[az]at hc;simp only[cw]at hc;obtain⟨l,h0,rfl⟩:=hc;exact ih i l v h0 hv
 |undef v=>exact .undef v
 |bnd f cs vs hl h ih =>
  simp only[AV.nrm,NX];refine .bnd f _ vs (by simp[hl]) fun i c v hc hv=>?_
  rw[az]at hc;simp only[cw]at hc;obtain⟨l,h0,rfl⟩:=hc;exact ih i l v h0 hv
 |mref k o g u hg h h1 =>
  simp only[AV.nrm];split
  ·rename_i hl;exact .mref k o 0 u (by simp) (by rw[K1 hl];exact h) h1
  ·exact .undef _
 |ablk sl cs off b base vs u hb hne h1 hc hv hu ih =>
  simp only[AV.nrm,NX];split
  ·rename_i e
   cases cs with
   |nil=>exact absurd rfl hne
   |cons x xs =>
    have m:b<w.heap.size:=CH (hc 0 x (by simp));refine .ablk sl _ off b base vs u (fun hh=>hb (p b m hh)) (by simp) (fun c hc=>c8.1 e c hc) (fun j c q=>?_) (fun j c q=>?_) (by simpa using hu)
    all_goals
     rw[az]at q;simp only[cw]at q;obtain⟨l,h0,rfl⟩:=q
    ·exact hc j l h0
    ·exact ih j l h0
  ·exact .undef _
theorem AO.nrm_ob{V:AO}{os:List Nat}{o g:Nat}{y:AY}(h:(V.nrm os).ob o=some (g,y)):g=0/\∃g' x,V.ob o=some (g',x)/\x.nrm V os=some y:=by
 simp only[AO.nrm]at h;split at h
 ·split at h
  ·rename_i g' x hx;split at h
   ·rename_i i e;simp at h;obtain⟨rfl,rfl⟩:=h;exact⟨rfl,g',x,hx,e⟩
   ·cases h
  ·cases h
 ·cases h
theorem Gt{β:Nat->Nat->Value}{V:AO}{os:List Nat}{o g:Nat}{y:AY}(h:(V.nrm os).ob o=some (g,y)):∃g' x,V.ob o=some (g',x)/\x.nrm V os=some y/\J7 β V o g=β o g':=by
 obtain⟨rfl,g',x,h1,h2⟩:=AO.nrm_ob h;exact⟨g',x,h1,h2,by simp[J7,h1]⟩
theorem Ef.nrm{w:World}{fb fb':Nat->Prop}{β:Nat->Nat->Value}{cn:Nat->Nat}{V:AO}{os:List Nat}(o:∀b,b<w.heap.size->fb' b->fb b){x y:AY}{v:Value}(h:Ef w fb β cn x v)(j:x.nrm V os=some y) :
  Ef w fb' (J7 β V) (fun _=>1) y v:=by
 cases h with
 |cells xs b cur e hb hl h1 h =>
  simp only[AY.nrm]at j;split at j
  ·rename_i q;simp at j;subst j;refine .cells _ b cur e hb (by simp[hl]) (fun z p=>c8.1 q z p) fun i z u p hu=>?_
   rw[az]at p;simp only[cw]at p;obtain⟨A,h0,rfl⟩:=p;exact(h i A u h0 hu).nrm o
  ·cases j
 |row ety es nil xs v h =>
  simp[AY.nrm]at j;subst j;exact .row _ _ _ _ _ (h.mono (Aq.refl _ _) o fun _ _ _=>rfl)
 |map tys kvs b es hb hl h =>
  simp[AY.nrm]at j;subst j
  exact .map tys kvs b es hb hl fun i kv e hk t=>by
   obtain⟨h1,h2,G,B⟩:=h i kv e hk t;exact⟨h1,h2.mono (Aq.refl _ _) o,G.mono (Aq.refl _ _) o,B⟩
 |mitD tys kvs seen b m es cl sn hm hh hl hr hb hs hsn h =>
  simp[AY.nrm]at j;subst j;have r:m<w.heap.size:=(ay.1 hh).1
  exact .mitD tys kvs seen b m es cl sn (fun h=>hm (o m r h)) hh hl hr hb hs hsn fun i kv e hk t=>by
   obtain⟨h1,h2⟩:=h i kv e hk t;exact⟨h1.mono (Aq.refl _ _) o,h2.mono (Aq.refl _ _) o⟩
 |hist els n st l=>simp[AY.nrm]at j;subst j;exact .hist els n st l
 |rowP=>simp[AY.nrm]at j
 |mat e1 e2 nil ix rows v h =>
  simp[AY.nrm]at j;subst j;exact .mat _ _ _ _ _ _ (h.mono (Aq.refl _ _) o fun _ _ _=>rfl)
theorem o9{V:AO}{os:List Nat}{x:AY}{els n st}(h:x.nrm V os=some (.hist els n st)):x=.hist els n st:=by
 cases x with
 |cells xs=>simp only[AY.nrm]at h;split at h<;>simp at h
 |row _ _ _ _=>simp[AY.nrm]at h
 |map _ _=>simp[AY.nrm]at h
 |mat _ _ _ _ _=>simp[AY.nrm]at h
 |rowP=>simp[AY.nrm]at h
 |rowH _ _ _ _ _=>simp only[AY.nrm]at h;split at h<;>simp at h
 |mapB _ _ _=>simp[AY.nrm]at h
 |mitO _ _ _ _=>simp only[AY.nrm]at h;split at h<;>simp at h
 |mitD _ _ _=>simp[AY.nrm]at h
 |hist _ _ _=>simp only[AY.nrm,Option.some.injEq]at h;exact h
theorem BZ.nrmS{tm:Array Value}(h:BZ E c β s tm w)(ks os:List Nat):BZ E c (J7 β s.V) (s.nrm ks os) tm w:=by
 have e:∀b,c.bar (J7 β s.V) (s.V.nrm os) b->c.bar β s.V b:=by
  intro b hh;rcases hh with hh|⟨o',g',x',h1,h2⟩
  ·exact .inl hh
  ·obtain⟨m,p,j,_,i⟩:=Gt (β:=β) h1;exact .inr ⟨o',m,p,j,by rw[←i];exact h2⟩
 refine⟨h.keep,h.low,fun g cs hg=>(h.glob g cs hg).mono (Aq.refl _ _) fun b _=>e b,fun t=>?_,fun o g x hx=>?_,fun G y m B p A b h1 h2 j i=>?_,fun o g x b hx hb=>?_,fun o g x ho hx=>?_,fun o g els n st hx=>?_⟩
 ·show AP w _ _ _ (if ks.contains t then(s.sl t).nrm s.V os else .undef) _;split
  ·exact(h.slots t).nrm fun b _=>e b
  ·exact .undef _
 ·obtain⟨rfl,_⟩:=AO.nrm_ob hx;obtain⟨m,p,j,u,i⟩:=Gt (β:=β) hx;refine⟨by simp[BG.nrm,AO.nrm],?_⟩;rw[i];exact(h.objs _ _ _ j).2.nrm (fun b _=>e b) u
 ·obtain⟨k1,q,e1,_,e2⟩:=Gt (β:=β) h1;obtain⟨k2,z,l,_,r⟩:=Gt (β:=β) h2;exact h.sep _ _ _ _ _ _ b e1 l (by rw[←e2];exact j) (by rw[←r];exact i)
 ·obtain⟨k1,q,e1,_,e2⟩:=Gt (β:=β) hx;exact h.home _ _ _ b e1 (by rw[←e2];exact hb)
 ·obtain⟨k1,q,e1,_,e2⟩:=Gt (β:=β) hx;rw[e2];exact h.pin _ _ _ ho e1
 ·obtain⟨k1,q,e1,l,e2⟩:=Gt (β:=β) hx;have:=o9 l;subst this;rw[e2];exact h.hist _ _ _ _ _ e1
theorem cP{tm:Array Value}{g:EE}{K:BG->Prop}(h:BZ E c β s tm w)(hg:E3 g s K):∃s' β',K s'/\BZ E c β' s' tm w:=by
 unfold E3 at hg;split at hg
 ·rename_i t;split at hg
  ·rename_i o g hs;split at hg
   ·rename_i ety es nl l q;refine⟨_,β,hg,?_⟩
    have m:BZ E c β ⟨s.sl,s.V.drop o⟩ tm w:=h.drop rfl rfl fun o' y U=>by
     exact Gy U
    obtain⟨_,ho⟩:=h.objs _ _ _ (AO.get_some q);have A:=h.slots t;rw[hs]at A;refine⟨m.keep,m.low,m.glob,fun L=>?_,m.objs,m.sep,m.home,m.pin,m.hist⟩;simp only[CB];split
    ·rename_i e;subst e;generalize hu:tm.getD L undef=u at A ⊢
     cases A with
     |own _ _ ξ μ =>
      generalize hv:β o g=v at ho
      cases ho with
      |row _ _ _ _ _ ho =>
       have ι:B3 w (c.bar β (s.V.drop o)) ety es nl l v:=ho.mono (Aq.refl _ _) (fun b _ hb=>by
        rcases hb with hb|⟨o',g',x',h2,J⟩
        ·exact .inl hb
        ·simp only[AO.drop,CB]at h2;split at h2
         ·cases h2
         ·exact .inr ⟨o',g',x',h2,J⟩) fun _ _ _=>rfl
       refine .d _ _ (Cq ι fun b hb n=>?_);rcases n with n|⟨o',g',x',h2,J⟩
       ·exact(h.home o g _ b (AO.get_some q) (by rw[hv];exact hb)).2.2 n
       ·simp only[AO.drop,CB]at h2;split at h2
        ·cases h2
        ·rename_i hne;exact hne (h.sep o' o g' g x' _ b h2 (AO.get_some q) J (by rw[hv];exact hb))
    ·exact m.slots L
   ·exact hg.elim
  ·exact⟨_,β,hg,h⟩
 ·rename_i t;split at hg
  ·rename_i o g hs;split at hg
   ·rename_i xs q;split at hg
    ·rename_i c0 l hl;refine⟨_,β,hg,?_⟩
     have m:BZ E c β ⟨s.sl,s.V.drop o⟩ tm w:=h.drop rfl rfl fun o' y U=>by
      exact Gy U
     have r:=AO.get_some q;obtain⟨_,ho⟩:=h.objs _ _ _ r;have A:=h.slots t;rw[hs]at A;refine⟨m.keep,m.low,m.glob,fun L=>?_,m.objs,m.sep,m.home,m.pin,m.hist⟩;simp only[CB];split
     ·rename_i e;subst e;generalize hu:tm.getD L undef=u at A ⊢
      cases A with|ptr _ _ _ b z hβ =>
      rw[hβ]at ho
      cases ho with|cells _ _ cur e hb M h1 hr =>
      have weak:∀{d:D}{u:Value},Ar w (c.bar β s.V) d u->Ar w (c.bar β (s.V.drop o)) d u:=fun h=>h.mono (Aq.refl _ _) fun b _ hb=>by
       rcases hb with hb|⟨o',g',x',h2,J⟩
       ·exact .inl hb
       ·exact .inr ⟨o',g',x',Gy h2,J⟩
      refine .d _ _ (.ptr (c0::l) b 0 (fun j=>cur.getD j undef) (fun n=>?_) (by simp) (fun y U=>?_) (fun j y X=>?_) (fun j y X=>?_))
      ·rcases n with n|⟨o',g',x',h2,J⟩
       ·exact(h.home o g _ b r (by rw[hβ];exact rfl)).2.2 n
       ·simp only[AO.drop,CB]at h2;split at h2
        ·cases h2
        ·rename_i hne;exact hne (h.sep o' o g' g x' _ b h2 r J (by rw[hβ];exact rfl))
      ·obtain⟨x,hx,α⟩:=D5 hl U;obtain⟨i,hi⟩:=ea hx;obtain⟨v,hv⟩:∃v,cur[i]?=some v:=⟨_,ax (by have:=(aa.1 hi).1;omega)⟩
       exact(B' (hr i x v hi hv) α).2 (h1 x hx)
      ·obtain⟨x,hx,α⟩:=BC hl X;have z:j<cur.size:=by have:=(aa.1 hx).1;omega
       rw[i7,CI hb,ax z];simp[eb,z]
      ·obtain⟨x,hx,α⟩:=BC hl X;have z:j<cur.size:=by have:=(aa.1 hx).1;omega
       have:=(B' (hr j x _ hx (ax z)) α).1;simp only[eb,ax z,j0];exact weak this
     ·exact m.slots L
    ·exact hg.elim
   ·exact hg.elim
  ·exact⟨_,β,hg,h⟩
 ·rename_i t;split at hg
  ·rename_i o g hs;split at hg
   ·rename_i e1 e2 nl ix rows q;obtain⟨κ,hg⟩:=hg;refine⟨_,β,hg,?_⟩
    have m:BZ E c β ⟨s.sl,s.V.drop o⟩ tm w:=h.drop rfl rfl fun o' y U=>by
     exact Gy U
    have r:=AO.get_some q;have A:=h.slots t;rw[hs]at A;refine⟨m.keep,m.low,m.glob,fun L=>?_,m.objs,m.sep,m.home,m.pin,m.hist⟩;simp only[CB];split
    ·rename_i e;subst e;refine .d _ _ (ig h (fun b hb=>?_) q κ A fun b hb n=>?_)
     ·rcases hb with hb|⟨o',g',x',h2,J⟩
      ·exact .inl hb
      ·exact .inr ⟨o',g',x',Gy h2,J⟩
     ·rcases n with n|⟨o',g',x',h2,J⟩
      ·exact(h.home o g _ b r hb).2.2 n
      ·simp only[AO.drop,CB]at h2;split at h2
       ·cases h2
       ·rename_i hne;exact hne (h.sep o' o g' g x' _ b h2 r J hb)
    ·exact m.slots L
   ·exact hg.elim
  ·exact⟨_,β,hg,h⟩
 ·rename_i t;split at hg
  ·rename_i o g hs;split at hg
   ·rename_i c0 l q;refine⟨_,β,hg,?_⟩
    have m:BZ E c β ⟨s.sl,s.V.drop o⟩ tm w:=h.drop rfl rfl fun o' y U=>by
     exact Gy U
    have r:=AO.get_some q;obtain⟨_,ho⟩:=h.objs _ _ _ r;have A:=h.slots t;rw[hs]at A;refine⟨m.keep,m.low,m.glob,fun L=>?_,m.objs,m.sep,m.home,m.pin,m.hist⟩;simp only[CB];split
    ·rename_i e;subst e;generalize hu:tm.getD L undef=u at A ⊢
     cases A with|ptr _ _ _ b z hβ =>
     rw[hβ]at ho
     cases ho with|cells _ _ cur e hb M h1 hr =>
     refine .ablk false (c0::l) 0 b 0 (fun j=>cur.getD j undef) _ (fun n=>?_) (by simp) h1 (fun j y X=>?_) (fun j y X=>?_) (by simp[wZ])
     ·rcases n with n|⟨o',g',x',h2,J⟩
      ·exact(h.home o g _ b r (by rw[hβ];exact rfl)).2.2 n
      ·simp only[AO.drop,CB]at h2;split at h2
       ·cases h2
       ·rename_i hne;exact hne (h.sep o' o g' g x' _ b h2 r J (by rw[hβ];exact rfl))
     ·have z:j<cur.size:=by have:=(aa.1 X).1;omega
      rw[i7,CI hb,ax z];simp[eb,z]
     ·have z:j<cur.size:=by have:=(aa.1 X).1;omega
      have:=hr j y _ X (ax z);simp only[eb,ax z,j0]
      exact this.mono (Aq.refl _ _) (fun b _ hb=>by
       rcases hb with hb|⟨o',g',x',h2,J⟩
       ·exact .inl hb
       ·exact .inr ⟨o',g',x',Gy h2,J⟩) (fun _ _ _=>rfl) (fun _=>ck _)
    ·exact m.slots L
   ·exact hg.elim
  ·exact⟨_,β,hg,h⟩
 ·rename_i t off;split at hg
  ·rename_i b g f hs;split at hg
   ·rename_i xs q;split at hg
    ·rename_i o p hx;split at hg
     ·rename_i ety es nl l ε;have r:=AO.get_some q;have B:=AO.get_some ε;have hne:b≠o:=fun e=>by subst e;rw[r]at B;simp at B
      have hd:BZ E c β ⟨s.sl,s.V.drop o⟩ tm w:=h.drop rfl rfl fun o' y U=>by
       exact Gy U
      have γ:(s.V.drop o).ob b=some (g,.cells xs):=by simp[AO.drop,CB,hne,r]
      refine⟨_,β,hg,BZ.kept hd (x:=.cells (xs.set (f+off) (.d (.list nl l)))) γ (Hd.refl _ _) fun fb' hf θ=>?_⟩;obtain⟨_,ho⟩:=hd.objs _ _ _ γ;obtain⟨_,Y⟩:=h.objs _ _ _ B;obtain⟨v,hv⟩:∃v,β b g=v:=⟨_,rfl⟩
      obtain⟨v2,Z⟩:∃v2,β o p=v2:=⟨_,rfl⟩
      rw[hv]at ho ⊢;rw[Z]at Y
      cases Y with
      |row _ _ _ _ _ Y =>
      have η:Ar w (c.bar β (s.V.drop o)) (.list nl l) v2:=by
       refine Cq (Y.mono (Aq.refl _ _) (fun b _ hb=>by
        rcases hb with hb|⟨o',g',x',h2,J⟩
        ·exact .inl hb
        ·exact .inr ⟨o',g',x',Gy h2,J⟩) fun _ _ _=>rfl) fun b hb n=>?_
       rcases n with n|⟨o',g',x',h2,J⟩
       ·exact(h.home o p _ b B (by rw[Z];exact hb)).2.2 n
       ·simp only[AO.drop,CB]at h2;split at h2
        ·cases h2
        ·rename_i hne;exact hne (h.sep o' o g' p x' _ b h2 B J (by rw[Z];exact hb))
      cases ho with
      |cells _ b' cur e hb M h1 S =>
       refine .cells _ b' cur e hb (by simpa using M) (fun x N=>?_) fun i x u G hu=>?_
       ·rcases j4 N with N|rfl
        ·exact h1 x N
        ·rfl
       ·by_cases hi:i=f+off
        ·subst hi;have z:f+off<xs.length:=(aa.1 hx).1;rw[kk z]at G;simp at G;subst G;have R:=S _ _ u hx hu;have δ:u=v2:=by cases R with|own _ _ _ _=>exact Z
         rw[δ];exact .d _ _ (η.mono (Aq.refl _ _) hf)
        ·rw[la (Ne.symm hi)]at G;exact(S i x u G hu).mono (Aq.refl _ _) hf (fun _ _ _=>rfl) (fun _=>ck _)
     ·exact hg.elim
    ·exact⟨_,β,hg,h⟩
   ·exact⟨_,β,hg,h⟩
  ·exact⟨_,β,hg,h⟩
 ·rename_i t o e1 e2;split at hg
  ·rename_i hs
   have hu:tm.getD t undef=.slice none 0 0:=by
    have:=h.slots t;rw[hs]at this;generalize tm.getD t undef=u at this ⊢
    cases this with|d _ _ hd=>cases hd;rfl
   have hr:=h.fresh (o:=o) (x:=.mat e1 e2 true [] []) hg.1 (vo:=.tuple #[.slice none 0 0]) (w':=w) (Hd.of_below _ (Below.refl _ _)) (fun b hb=>by
     obtain⟨i,u,hi,hb⟩:=hb
     cases i with
     |zero=>simp at hi;subst hi;simp[A9]at hb
     |succ i=>simp at hi)
    fun β' fb' _ _ _=>.mat _ _ _ _ _ _ ⟨.slice none 0 0,[],rfl,rfl,.inl ⟨rfl,rfl,rfl⟩,fun j x u hx _=>by simp at hx,fun i j u u' b hi X _ _ hb ν=>by
     cases i with
     |zero=>simp at hi;subst hi;simp[A9]at hb
     |succ i=>simp at hi⟩
   refine⟨_,_,hg.2,hr.keep,hr.low,hr.glob,fun L=>?_,hr.objs,hr.sep,hr.home,hr.pin,hr.hist⟩;simp only[CB];split
   ·rename_i e;subst e;rw[hu];exact .mref _ _ _ _ (by simp[AO.app,CB]) (by rw[BM];rfl) rfl
   ·exact hr.slots L
  ·exact⟨_,β,hg,h⟩
 ·rename_i t o ety es;split at hg
  ·rename_i hs
   have hu:tm.getD t undef=.slice none 0 0:=by
    have:=h.slots t;rw[hs]at this;generalize tm.getD t undef=u at this ⊢
    cases this with|d _ _ hd=>cases hd;rfl
   have hr:=h.fresh (o:=o) (x:=.row ety es true []) hg.1 (vo:=.slice none 0 0) (w':=w) (Hd.of_below _ (Below.refl _ _)) (fun b hb=>by simp[C4,A9]at hb)
    fun β' fb' _ _ _=>.row _ _ _ _ _ (.inl ⟨rfl,rfl,rfl⟩)
   refine⟨_,_,hg.2,hr.keep,hr.low,hr.glob,fun L=>?_,hr.objs,hr.sep,hr.home,hr.pin,hr.hist⟩;simp only[CB];split
   ·rename_i e;subst e;rw[hu];exact AP.own_new rfl (by simp[AO.app,CB])
   ·exact hr.slots L
  ·exact⟨_,β,hg,h⟩
 ·rename_i t off o ety es;split at hg
  ·rename_i b g f hs;split at hg
   ·rename_i xs q;split at hg
    ·rename_i hx;obtain⟨T,hne,hg⟩:=hg;have r:=AO.get_some q
     have hr:=h.fresh (o:=o) (x:=.row ety es true []) T (vo:=.slice none 0 0) (w':=w) (Hd.of_below _ (Below.refl _ _)) (fun b hb=>by simp[C4,A9]at hb)
      fun β' fb' _ _ _=>.row _ _ _ _ _ (.inl ⟨rfl,rfl,rfl⟩)
     have B:(s.V.app (.fresh o (.row ety es true []))).ob b=some (g,.cells xs):=by simp[AO.app,CB,Ne.symm hne,r]
     refine⟨_,_,hg,BZ.kept hr (x:=.cells (xs.set (f+off) (.own o (s.V.cn o)))) B (Hd.refl _ _) fun fb' hf θ=>?_⟩;obtain⟨_,ho⟩:=hr.objs _ _ _ B;obtain⟨v,hv⟩:∃v,Eh β o (s.V.cn o) (.slice none 0 0) b g=v:=⟨_,rfl⟩
     rw[hv]at ho ⊢
     cases ho with
     |cells _ b' cur e hb M h1 S =>
      refine .cells _ b' cur e hb (by simpa using M) (fun x N=>?_) fun i x u G hu=>?_
      ·rcases j4 N with N|rfl
       ·exact h1 x N
       ·rfl
      ·by_cases hi:i=f+off
       ·subst hi;have z:f+off<xs.length:=(aa.1 hx).1;rw[kk z]at G;simp at G;subst G;have R:=S _ _ u hx hu;have δ:u=.slice none 0 0:=by cases R with|d _ _ hd=>cases hd;rfl
        rw[δ];exact AP.own_new rfl (by simp[AO.app,CB])
       ·rw[la (Ne.symm hi)]at G;exact(S i x u G hu).mono (Aq.refl _ _) hf (fun _ _ _=>rfl) (fun _=>ck _)
    ·exact⟨_,β,hg,h⟩
   ·exact⟨_,β,hg,h⟩
  ·exact⟨_,β,hg,h⟩
 ·rename_i t;split at hg
  ·rename_i o g hs;split at hg
   ·rename_i ety es nl l q;obtain⟨T,hg⟩:=hg;have r:=AO.get_some q;obtain⟨z,ho⟩:=h.objs _ _ _ r;obtain⟨v,hv⟩:∃v,β o g=v:=⟨_,rfl⟩
    rw[hv]at ho
    cases ho with|row _ _ _ _ _ ho =>
    have hu:tm.getD t undef=v/\v.oneCell'=true:=by
     have:=h.slots t;rw[hs]at this;generalize tm.getD t undef=u at this ⊢
     cases this with|own _ _ _ h1=>rw[hv]at h1 ⊢;exact⟨rfl,h1⟩
    have hr:=h.fresh (o:=o) (x:=.row ety es nl l) T (vo:=v) (w':=w) (Hd.of_below _ (Below.refl _ _)) (fun b' hb=>by
      have O:C4 (β o g) b':=by rw[hv];exact hb
      exact⟨(h.home o g _ b' r O).1,.inr ⟨_,_,r,O⟩⟩)
     fun β' fb' _ _ hf=>.row _ _ _ _ _ (ho.mono (Aq.refl _ _) (fun b ζ hb=>hf b ζ hb) fun _ _ _=>rfl)
    refine⟨_,_,hg,hr.keep,hr.low,hr.glob,fun L=>?_,hr.objs,hr.sep,hr.home,hr.pin,hr.hist⟩;simp only[CB];split
    ·rename_i e;subst e;rw[hu.1];exact AP.own_new hu.2 (by simp[AO.app,CB])
    ·exact hr.slots L
   ·rename_i ety es P q;obtain⟨T,hg⟩:=hg;have r:=AO.get_some q;obtain⟨z,ho⟩:=h.objs _ _ _ r;obtain⟨v,hv⟩:∃v,β o g=v:=⟨_,rfl⟩
    rw[hv]at ho
    cases ho with|rowP _ _ _ nl l _ hp ho =>
    have hu:tm.getD t undef=v/\v.oneCell'=true:=by
     have:=h.slots t;rw[hs]at this;generalize tm.getD t undef=u at this ⊢
     cases this with|own _ _ _ h1=>rw[hv]at h1 ⊢;exact⟨rfl,h1⟩
    have hr:=h.fresh (o:=o) (x:=.row ety es nl l) T (vo:=v) (w':=w) (Hd.of_below _ (Below.refl _ _)) (fun b' hb=>by
      have O:C4 (β o g) b':=by rw[hv];exact hb
      exact⟨(h.home o g _ b' r O).1,.inr ⟨_,_,r,O⟩⟩)
     fun β' fb' _ _ hf=>.row _ _ _ _ _ (ho.mono (Aq.refl _ _) (fun b ζ hb=>hf b ζ hb) fun _ _ _=>rfl)
    refine⟨_,_,hg nl l hp,hr.keep,hr.low,hr.glob,fun L=>?_,hr.objs,hr.sep,hr.home,hr.pin,hr.hist⟩;simp only[CB];split
    ·rename_i e;subst e;rw[hu.1];exact AP.own_new hu.2 (by simp[AO.app,CB])
    ·exact hr.slots L
   ·exact⟨_,β,hg,h⟩
  ·exact⟨_,β,hg,h⟩
 ·exact hg.elim
theorem DB{tm:Array Value}:∀{gs:List EE}{s:BG}{β:Nat->Nat->Value}{K:BG->Prop},BZ E c β s tm w->B5 gs s K->∃s' β',K s'/\BZ E c β' s' tm w
 |[],s,β,K,h,hg=>⟨s,β,hg,h⟩
 |g::gs,s,β,K,h,hg=>by
  obtain⟨s',β',h1,h2⟩:=cP h hg;exact DB h2 h1
theorem eq{es:Array MapEntry}{cl:Nat}(h:Zv es cl){i j:Nat}{e m:MapEntry}(hi:es[i]?=some e)(n:es[j]?=some m)(hb:e.born=m.born):i=j:=by
 rcases Nat.lt_trichotomy i j with l|l|l
 ·have:=h.2 i j e m hi n l;omega
 ·exact l
 ·have:=h.2 j i m e n hi l;omega
theorem eT{tm:Array Value}{s:BG}{K:AV->Bs->Prop}(h:BZ E c β s tm w){x:AV}{u:Value}(hx:AP w (c.bar β s.V) β s.V.cn x u)(O:Qz x s.V K)(ty:TypeId) :
  JU E c s tm K ((Instr.next u false ty).run E.P w):=by
 have over:AP w (c.bar β s.V) β s.V.cn (.tup [.d (.bool false)]) (.tuple #[.bool false]):=.tup _ _ rfl fun i c v hc hv=>by
  match i with
  |0=>simp at hc hv;subst hc hv;exact .d _ _ (.bool _)
  |i+1=>simp at hc
 have come:∀{w' fb' β' cn'} (a b:Value),AP w' fb' β' cn' (.tup [.d (.bool true),.undef,.undef]) (.tuple #[.bool true,a,b]):=fun {w' fb' β' cn'} a b=>.tup _ _ rfl fun i c v hc hv=>by
  match i with
  |0=>simp at hc hv;subst hc hv;exact .d _ _ (.bool _)
  |1=>simp at hc;subst hc;exact .undef _
  |2=>simp at hc;subst hc;exact .undef _
  |i+3=>simp at hc
 unfold Qz at O;split at O
 ·rename_i o g;split at O
  ·rename_i tys kvs seen hg;obtain⟨X,α⟩:=O;have n:=AO.get_some hg;obtain⟨_,ho⟩:=h.objs _ _ _ n
   cases hx with|ptr _ _ _ r hgl hβo =>
   rw[hβo]at ho
   cases ho with|mitD _ _ _ _ m es cl sn hm hh hl hrs hr hsl hsn hent =>
   have R:∀x∈es.toList,x.born<cl:=fun x hx=>by
    obtain⟨i,hi⟩:=ea hx;rw[Array.getElem?_toList]at hi;exact hrs.1 i x hi
   have B:∀(i:Nat) e,es[i]?=some e->(sn.contains e.born=seen.contains i):=fun i e l=>by
    rw[Bool.eq_iff_iff];simp only[List.contains_iff_mem];constructor
    ·intro t;obtain⟨q,p⟩:=ea t;have z:q<seen.length:=by rw[←hsl];exact(aa.1 p).1
     obtain⟨T,k1,k2⟩:=hsn q seen[q] (List.getElem?_eq_getElem z);rw[p]at k2;simp at k2;rw[eq hrs l k1 k2];exact List.getElem_mem z
    ·intro t;obtain⟨q,p⟩:=ea t;obtain⟨T,k1,k2⟩:=hsn q i p;rw[l]at k1;simp at k1;subst k1;exact List.mem_of_getElem? k2
   rcases run_next_at (P:=E.P) w ty r m cl cl sn.toArray es cl hr hh R (ck _)with⟨h0,hrun⟩|⟨e,hel,w1,hw1,hrun⟩
   ·refine CP h (α fun i hi=>?_) hrun over;have N:i<es.size:=by omega
    have l:es[i]?=some es[i]:=ax N;rw[←B i _ l]
    cases hcon:sn.contains es[i].born with
    |true=>rfl
    |false =>
     have t:es[i]∈leftOf es sn.toArray:=by
      unfold leftOf;rw[Array.mem_filter];refine⟨by simp,?_⟩;simpa using hcon
     have hz:=Array.eq_empty_of_size_eq_zero h0;rw[hz]at t;simp at t
   ·have A:e∈es/\sn.contains e.born=false:=by
     unfold leftOf at hel;simp at hel;simpa using hel
    obtain⟨i,N,U⟩:=Array.getElem_of_mem A.1;have l:es[i]?=some e:=by rw[ax N,U]
    have M:r<w.heap.size:=(ay.1 hr).1;have G:m<w.heap.size:=(ay.1 hh).1;have J:w1.heap=w.heap:=by rcases hw1 with rfl|rfl<;>rfl
    have hK:=X i (by omega) (by rw[←B i _ l];exact A.2);have δ:r≠m:=fun e=>hm (.inr ⟨o,g,_,n,by rw[hβo,e];rfl⟩)
    have y:Hd (β o g) w (ChangeMaps.setBlock w1 r (.mapIter (some m) cl (sn.toArray.push e.born) cl)):=by
     rw[hβo];refine⟨by rcases hw1 with rfl|rfl<;>rfl,by rcases hw1 with rfl|rfl<;>rfl,by rcases hw1 with rfl|rfl<;>rfl,by show w.heap.size<=(w1.heap.setIfInBounds r _).size;rw[J];simp,fun k hk hne=>?_⟩;have Y:r≠k:=fun e=>hne (by subst e;rfl)
     show(w1.heap.setIfInBounds r _)[k]?=_;rw[J,Array.getElem?_setIfInBounds_ne Y]
    have L:Aq (c.bar β s.V) w (ChangeMaps.setBlock w1 r (.mapIter (some m) cl (sn.toArray.push e.born) cl)):=fun k hk M=>y.block k M fun hb=>hk (.inr ⟨o,g,_,n,hb⟩)
    refine⟨_,_,_,_,β,hrun,hK,h.kept n y fun fb' Z γ=>?_,come _ _⟩;rw[hβo];refine .mitD tys kvs _ r m es cl (sn++[e.born]) (fun p=>hm (Z m G p)) ((L m hm G).trans hh) hl hrs ?_ (by simp[hsl]) (fun q j p=>?_) fun i kv e k1 k2=>⟨(hent i kv e k1 k2).1.mono L Z,(hent i kv e k1 k2).2.mono L Z⟩
    ·show(w1.heap.setIfInBounds r _)[r]?=_;rw[J];simp[M]
    ·by_cases z:q<seen.length
     ·rw[hU z]at p;obtain⟨T,k1,k2⟩:=hsn q j p;exact⟨T,k1,by rw[hU (by omega)];exact k2⟩
     ·rw[hX (by omega)]at p
      have S:q-seen.length=0:=by
       have:=(aa.1 p).1;simp at this;omega
      rw[S]at p;simp at p;subst p;refine⟨e,l,?_⟩;rw[hX (by omega),hsl,S];rfl
  ·exact O.elim
 ·exact O.elim
theorem M9(r:Option Nat)(m:Nat){draw:Bool}{fl:List Nat}{ns:Nat}{ops:List Oper}{Q:Exit->Act->World->Prop}{K:BG->Prop}{rest:List Oper}:∀{l:List Oper}{is:List Fu}{s:BG}{β:Nat->Nat->Value}{a:Act}{w:World},Ax (Nv E draw fl ns ops) l=some is->BZ E c β s a.tmps w->a.tmps.size=ns ->
  Lf E is s K->(∀s' β' tm' w',K s'->BZ E c β' s' tm' w'->tm'.size=ns->wpListIn (rF r) m E.P ops.toArray Q rest ⟨tm',a.defers⟩ w')->wpListIn (rF r) m E.P ops.toArray Q (l++rest) a w
 |[],is,s,β,a,w,hd,h,hn,hs,hQ=>by
  simp[Ax]at hd;subst hd;exact hQ s β a.tmps w hs h hn
 |o::l,is,s,β,a,w,hd,h,hn,hs,hQ=>by
  simp only[Ax]at hd;split at hd
  ·cases hd
  ·rename_i I j;split at hd
   ·cases hd
   ·rename_i is' i;simp at hd;subst hd;simp only[Lf]at hs;rw[List.cons_append];unfold wpListIn;exact Po r m h j hn hs fun v ch β' tm' w' hk hr e=>M9 r m (a:=⟨tm',a.defers⟩) i hr e hk hQ
theorem Pr(r:Option Nat)(m:Nat){draw:Bool}{fl:List Nat}{ns:Nat}{ops:List Oper}{Q:Exit->Act->World->Prop}{K:BG->Prop}{l:List Oper}{is:List Fu}{s:BG}{β:Nat->Nat->Value}{a:Act}{w:World}(hd:Ax (Nv E draw fl ns ops) l=some is)(h:BZ E c β s a.tmps w)(hn:a.tmps.size=ns)
  (hs:Lf E is s K) (i:∀s' β' tm' w',K s'->BZ E c β' s' tm' w'->tm'.size=ns->Q .normal ⟨tm',a.defers⟩ w'):wpListIn (rF r) m E.P ops.toArray Q l a w:=by
 have:=M9 r m (rest:=[]) hd h hn hs fun s' β' tm' w' hk hr e=>wpListIn_nil (i s' β' tm' w' hk hr e)
 rwa [List.append_nil]at this
theorem YJ{f:Nat->Option sA}{s:BG}{K:BG->Prop}:∀{l:List Nat}{t:sA},ry f l=some t->Ov E t s K->(l=[]->K s)/\∀i,i∈l->∃u,f i=some u/\Ov E u s K
 |[],t,h,hs=>by simp[ry]at h;subst h;exact⟨fun _=>hs,fun i hi=>(by cases hi)⟩
 |[i],t,h,hs=>⟨fun e=>(by cases e),fun j m=>by simp at m;subst m;exact⟨t,h,hs⟩⟩
 |i::j::l,t,h,hs=>by
  simp only[ry]at h;split at h
  ·rename_i a b n hb;simp at h;subst h;obtain⟨h1,h2⟩:=hs;obtain⟨_,o⟩:=YJ hb h2;refine⟨fun e=>(by cases e),fun k hk=>?_⟩;rcases List.mem_cons.1 hk with rfl|hk
   ·exact⟨a,n,h1⟩
   ·exact o k hk
  ·cases h
theorem Xj(y:Option Nat)(m:Nat){fl:List Nat}{ns:Nat}{ops:List Oper}{is:List Fu}{Q:Exit->Act->World->Prop}{K:BG->Prop}(hd:Ax (Nv E true fl ns ops) ops=some is)  :
  ∀(j:Nat) (e:Array Bool) {t:sA}{s:BG}{β:Nat->Nat->Value}{a:Act}{w:World},Xp ops.toArray is j e=some t->BZ E c β s a.tmps w->a.tmps.size=ns->Ov E t s K ->
  (∀s' β' tm' w',K s'->BZ E c β' s' tm' w'->tm'.size=ns->Q .normal ⟨tm',a.defers⟩ w')->wpAnyIn (rF y) m E.P .any ops.toArray Q j e a w
 |0,e,t,s,β,a,w,ht,h,hn,hs,hQ=>by
  simp only[Xp]at ht;split at ht
  ·rename_i hr;simp at ht;subst ht;exact⟨hr,hQ s β a.tmps w hs h hn⟩
  ·cases ht
 |j+1,e,t,s,β,a,w,ht,h,hn,hs,hQ=>by
  simp only[Xp]at ht;obtain⟨h1,h2⟩:=YJ ht hs;refine⟨fun l=>hQ s β a.tmps w (h1 l) h hn,fun i hi=>?_⟩;obtain⟨u,hu,q⟩:=h2 i hi;split at hu
  ·rename_i I r z hr;simp at hu;subst hu;obtain⟨o,ho,x⟩:=BC hd z;unfold wpOpIn;simp only[List.getElem?_toArray,ho];exact Po y m h x hn q fun v ch β' tm' w' hk p n=>Xj y m hd j _ (a:=⟨tm',a.defers⟩) hr p n hk hQ
  ·cases hu
def ZG:Bk->Exit
 |.normal=>.normal
 |.exit id=>.exit id
 |.ret=>.ret
theorem Ya{P:Program}{b:Frame}{a:Act}{k:List Item}{cs:List Frame}{w:World}{c:Code}:step P (lone (b.atR a (.code (.scope c)::k)) cs w)=.next (lone (b.atR a (.code c :: .inScope c::k)) cs w) :=
 step_lone_go (by simp[stepG,stepG.exec,Frame.atR])
theorem VA{P:Program}{b:Frame}{a:Act}{k:List Item}{cs:List Frame}{w:World}{c:Code}:step P (lone (b.atR a (.inScope c::k)) cs w)=.next (lone (b.atR a k) cs w) :=
 step_lone_go (by simp[stepG,stepG.exec,Frame.atR])
theorem Ot{F:Fence}{n:Nat}{P:Program}{c:Code}{Q:Exit->Act->World->Prop}{a:Act}{w:World}(h:c.wpIn F n P (Exit.noGoto Q) a w):(Code.scope c).wpIn F n P Q a w:=by
 intro b k cs m hb hr;have h0:StepsIn (Machine.fenced P F) P (lone (b.atR a (.code (.scope c)::k)) cs w) (lone (b.atR a (.code c :: .inScope c::k)) cs w):=.one (fenced_calm hb hr rfl) Ya;obtain⟨e,a₁,w₁,j,i⟩:=h b (.inScope c::k) cs m hb hr
 cases e with
 |normal=>exact⟨.normal,a₁,w₁,j,StepsIn.trans h0 (StepsIn.trans i (.one (fenced_calm hb hr rfl) VA))⟩
 |exit id=>exact⟨.exit id,a₁,w₁,j,fun k' hk=>StepsIn.trans h0 (i.1 k' (by simp[exitTo,hk])),fun o hk=>let⟨k₁,h1,h2⟩:=i.2 o (by simp[exitTo,hk]);⟨k₁,h1,StepsIn.trans h0 h2⟩⟩
 |goto l=>exact j.elim
 |ret=>exact⟨_,a₁,w₁,j,.of_steps h0 i⟩
 |panic ch=>exact⟨_,a₁,w₁,j,.of_steps h0 i⟩
 |outgrown=>exact⟨_,a₁,w₁,j,.of_steps h0 i⟩
def J4(D:Nat):Deferred:={ target:=.collected D,args:=#[] }
def YP(c:EG)(D:Nat):Prop:=c.w0.heap[D]?=some (.deferred (some []))/\¬c.mine D/\¬c.may D/\c.fb D
theorem YP.lt{c:EG}{D:Nat}(h:YP c D):D<c.w0.heap.size:=(ay.1 h.1).1
theorem YP.ext{c c':EG}{D:Nat}(h:YP c D)(e:Z3 c c'):YP c' D:=by
 have i:=h.lt;refine⟨?_,fun hm=>?_,fun hm=>?_,?_⟩
 ·rw[(e.keep c'.w0 (Di.refl _ _)).block D i fun hh=>hh.elim h.2.1 h.2.2.1];exact h.1
 ·rcases e.mine D (.inr hm)with h1|h1
  ·omega
  ·exact h.2.1 h1
 ·rcases e.may D hm with h1|h1
  ·exact h.2.2.1 h1
  ·omega
 ·exact(e.fb D h.2.2.2).resolve_right h.2.2.1
structure LL (c c':EG) (Ds:List Nat):Prop where
 none:c.nr=true->Ds=[]
 nodup:Ds.Nodup
 alive:∀D,D∈Ds->YP c' D/\c.w0.heap.size<=D
theorem LL.nil(c c':EG):LL c c' []:=⟨fun _=>rfl,.nil,fun D h=>by cases h⟩
theorem LL.app{c c' c2:EG}{Ds Es:List Nat}(h:LL c c' Ds)(k:LL c' c2 Es)(e:Z3 c c')(e2:Z3 c' c2):LL c c2 (Es++Ds):=by
 refine⟨fun hn=>by rw[h.none hn,k.none (e.nr.trans hn)];rfl,List.nodup_append.2 ⟨k.nodup,h.nodup,fun x hx y j l=>?_⟩,fun D i=>?_⟩
 ·subst l;have h1:=(k.alive x hx).2;have h2:=(h.alive x j).1.lt;omega
 ·rcases lb.1 i with i|i
  ·exact⟨(k.alive D i).1,cp e.size (k.alive D i).2⟩
  ·exact⟨(h.alive D i).1.ext e2,(h.alive D i).2⟩
def gx(E:CW)(ns:Nat)(c:EG)(a:Act)(Q:Bk->BG->Prop)(Q':Exit->Act->World->Prop):Prop :=
 ∀e s' β' c' tm' Ds w',Q e s'->Z3 c c'->Z_ E c'->LL c c' Ds->BZ E c' β' s' tm' w'->tm'.size=ns->Q' (ZG e) ⟨tm',Ds.map J4++a.defers⟩ w'
theorem gx.same{ns:Nat}{c:EG}{a:Act}{Q:Bk->BG->Prop}{Q':Exit->Act->World->Prop}(h:gx E ns c a Q Q')(j:Z_ E c){e s' β' tm' w'}(i:Q e s')(hr:BZ E c β' s' tm' w')(hn:tm'.size=ns):Q' (ZG e) ⟨tm',a.defers⟩ w' :=
 h e s' β' c tm' [] w' i (Z3.refl c) j (LL.nil _ _) hr hn
theorem gx.on{ns:Nat}{c c1:EG}{a:Act}{Q Q1:Bk->BG->Prop}{Q':Exit->Act->World->Prop}{Ds:List Nat}{tm:Array Value}(h:gx E ns c a Q Q')(e:Z3 c c1)(hk:LL c c1 Ds)(hl:∀x,c.fb x->x<c.w0.heap.size)(l:∀x,c1.fb x->x<c1.w0.heap.size)
  (n:∀e s,Q1 e s->Q e s):gx E ns c1 ⟨tm,Ds.map J4++a.defers⟩ Q1 Q':=fun x s' β' c' tm' Es w' j e1 m i hr hn=>by
 have:=h x s' β' c' tm' (Es++Ds) w' (n _ _ j) (e.trans e1 l hl) m (hk.app i e e1) hr hn;rw[na,ne]at this;exact this
def GO:Bk->Option Code
 |.normal=>none
 |.exit id=>some (.exit id)
 |.ret=>some .ret
def xY(c:EG)(D:Nat)(b1:Nat->Value)(β:Nat->Nat->Value)(V:AO)(W:World)(M:Nat->Prop):EG :=
 { w0:=W,fb:=fun b=>(c.fb b\/(b=D\/b=D+1))\/M b,mine:=DJ β V,b0:=b1,nr:=true }
structure ABr (E:CW) (c:EG) (b1:Nat->Value) (ks:List Nat) (sl:Nat->AV) (tm:Array Value) (D:Nat) (rec:LoopState->Option Code->Obj) (JJ:Nat->AO->Prop) (Pd:Bk->AO->Prop)
  (V:AO) (β:Nat->Nat->Value) (n:Nat) (st:Bool) (W:World) (M G:Nat->Prop):Prop where
 cn:V.cn=fun _=>1
 live:GJ ks sl V=true
 st:(st=false/\JJ n V/\W.heap[D+1]?=some (rec .ready none))\/(st=true/\∃e cd,GO e=some cd/\Pd e V/\W.heap[D+1]?=some (rec .done (some cd)))
 dd:W.heap[D]?=some (.deferred (some []))
 rel:BZ E (xY c D b1 β V W M) β ⟨sl,V⟩ tm W
 g:G=fun b=>(c.fb b\/(b=D\/b=D+1))\/DJ β V b
 up:Di c.mine c.w0 W
 low:∀b,M b->D+2<=b
 size:D+2<=W.heap.size
 own:∀b,DJ β V b->c.w0.heap.size<=b\/c.mine b
def jQ(E:CW)(c:EG)(b1:Nat->Value)(ks:List Nat)(sl:Nat->AV)(tm:Array Value)(D:Nat)(rec:LoopState->Option Code->Obj)(JJ:Nat->AO->Prop)(Pd:Bk->AO->Prop)(n:Nat)(st:Bool)(W:World)(M G:Nat->Prop):Prop :=
 ∃V β,ABr E c b1 ks sl tm D rec JJ Pd V β n st W M G
theorem V4{D:Nat}{b1:Nat->Value}{β:Nat->Nat->Value}{V:AO}{W:World}{M:Nat->Prop}{sl:Nat->AV}{tm:Array Value}(h:BZ E (xY c D b1 β V W M) β ⟨sl,V⟩ tm W):∀o g els n st,V.ob o≠some (g,.hist els n st) :=
 fun o g els n st hx=>(h.hist o g els n st hx).2.2.1
theorem ep{b1:Nat->Value}{ks:List Nat}{sl:Nat->AV}{tm:Array Value}{D:Nat}{rec:LoopState->Option Code->Obj}{JJ:Nat->AO->Prop}{Pd:Bk->AO->Prop}(hc:c.w0.heap.size<=D):We (jQ E c b1 ks sl tm D rec JJ Pd):=by
 rintro n st W M G W' M' ⟨V,β,h⟩ e o l;have m:∀b,b<D+2->W'.heap[b]?=W.heap[b]?:=fun b hb=>e.block b (hY hb h.size) fun hm=>by have:=h.low b hm;omega
 refine⟨V,β,h.cn,h.live,?_,by rw[m D (by omega)];exact h.dd,?_,h.g,?_,fun b hb=>?_,cp h.size e.size,h.own⟩
 ·rw[m (D+1) (by omega)];exact h.st
 ·refine h.rel.shift (c':=xY c D b1 β V W' M') (e.mono fun i _ hi=>.inr hi) (fun b hb j=>?_) (fun b hb=>?_) (V4 h.rel) rfl rfl rfl
  ·rcases j with j|j
   ·exact .inl j
   ·rcases o b j with h1|h1
    ·exact .inr h1
    ·omega
  ·rcases hb with hb|hb
   ·exact hY (h.rel.low b (.inl hb)).1 e.size
   ·exact l b hb
 ·refine h.up.trans e fun i hi hm=>?_
  have:=h.low i hm;omega
 ·rcases o b hb with h1|h1
  ·exact h.low b h1
  ·exact cp h.size h1
def ABP(E:CW)(ns:Nat)(p:PC)(code:Code):Prop:=∀(r:Option Nat) (m:Nat) {Q:Bk->BG->Prop}{Q':Exit->Act->World->Prop}{s:BG}{c:EG}{β:Nat->Nat->Value}{a:Act}{w:World},
 BZ E c β s a.tmps w->Z_ E c->(c.nr=true->p.noR=true)->(r.isSome=true->c.nr=true)->a.tmps.size=ns->pw E p Q s->gx E ns c a Q Q'->code.wpIn (rF r) m E.P Q' a w
theorem TN{ks:List Nat}{sl:Nat->AV}{V:AO}(h:GJ ks sl V=true)(e:∀t,t∉ks->(sl t).sites=[])(t o:Nat)(ho:o∈(sl t).sites):∃x,V.ob o=some (0,x):=by
 by_cases ht:t∈ks
 ·have:=c8.1 (c8.1 h t ht) o ho
  cases hV:V.ob o with
  |none=>rw[hV]at this;cases this
  |some q =>
   obtain⟨g,x⟩:=q;rw[hV]at this;have hg:g=0:=by simpa using this
   subst hg;exact⟨x,rfl⟩
 ·rw[e t ht]at ho;cases ho
theorem eo{ns:Nat}{b1:Nat->Value}{ks os2 ps:List Nat}{gs2:List EE}{sl:Nat->AV}{tm:Array Value}{D fn:Nat}{pa pb:PC}{ca cb:Code}{els:Us}{JJ:Nat->AO->Prop}{Pd:Bk->AO->Prop}
  (hcD:c.w0.heap.size<=D) (hA:ABP E ns pb cb) (hB:ABP E ns pa ca) (L:(pb.noR && pa.noR)=true) (μ:tm.size=ns) (hps:∀p,p∈ps->p<ns) (ξ:∀t,t∉ks->(sl t).sites=[]) (σ:∀t o,o∈(sl t).sites->Cr<=o)
  (U:∀(n:Nat) (V:AO) (ds:List Go.Pw.D) (k:Nat),V.cn=(fun _=>1)->els.nx n ds k->JJ n V->ps.length=ds.length/\pw E pb (PK fun s2=>pw E pa (yN JJ Pd k gs2 ks os2 sl) s2) ⟨L6 sl ps ds,V⟩) :
  WW E (D+1) els (jQ E c b1 ks sl tm D (fun st p=>.loop { state:=st,pending:=p,fn,tmps:=tm,params:=ps.toArray,assign:=cb,body:=ca,defers:=D }) JJ Pd) (fun _=>False):=by
 rintro m n k W M G x vs ⟨V,β,h⟩ hx hM hG hvs hd;obtain⟨_,hJ,Z⟩:=h.st.resolve_right fun hh=>by cases hh.1
 obtain⟨hpl,hpw⟩:=U n V x k h.cn hx hJ;rw[i5]at L
 have η:∀b,(xY c D b1 β V W M).bar β V b->G b\/M b:=fun b hb=>by
  rw[h.g];rcases hb with(hb|hb)|hb
  ·exact .inl (.inl hb)
  ·exact .inr hb
  ·exact .inl (.inr hb)
 have hr0:=BZ.params (vs:=vs.toList) h.rel hpl (by simpa using hvs) (fun p hp=>by rw[μ];exact hps p hp) fun i d v h1 h2=>(hd i d v h1 (by simpa using h2)).mono (Aq.refl _ _) fun b _ hb=>.inl (η b hb)
 have ζ:(ps.toArray.zip vs).foldl (fun tmps (x:Nat×Value)=>tmps.setIfInBounds x.1 x.2) tm=(ps.zip vs.toList).foldl (fun tm p=>tm.setIfInBounds p.1 p.2) tm:=by
  rw[←Array.foldl_toList];simp
 refine⟨fn,(ps.zip vs.toList).foldl (fun tm p=>tm.setIfInBounds p.1 p.2) tm,cb,ca,?_,?_⟩
 ·rw[run_yield Z (by simp;omega)];rw[←ζ]
 refine roundIn_of_wpIn trivial ?_;refine hA (some (D+1)) m (a:=⟨_,[]⟩) hr0 (.pure rfl rfl) (fun _=>L.1) (fun _=>rfl) (by simpa[f5]using μ) hpw fun e s' β' c' tm' Ds w' hk O N hmk hr ω=>?_
 cases e with
 |exit id=>exact hk.elim
 |ret=>exact hk.elim
 |normal =>
 have κ:=hmk.none rfl;subst κ;have θ:Di (DJ β V) W w':=(O.keep w' (hr.keep.upto.mono fun i _ hi=>.inl hi)).mono fun i _ hi=>hi.elim id False.elim
 have z:∀b,(c.fb b\/(b=D\/b=D+1))->¬DJ β V b/\b<W.heap.size:=fun b hb=>⟨(h.rel.low b (.inl hb)).2,(h.rel.low b (.inl hb)).1⟩
 have q:w'.heap[D+1]?=_:=(θ.block (D+1) (z _ (.inr (.inr rfl))).2 (z _ (.inr (.inr rfl))).1).trans Z;refine⟨_,run_beginRound q rfl,?_⟩;have ε:c'.fb (D+1):=(O.fb (D+1) (.inl (.inr (.inr rfl)))).resolve_right id;have ν:=hr.putFb (ob:=.loop { state:=.busy,pending:=none,fn,tmps:=tm,params:=ps.toArray,assign:=cb,body:=ca,defers:=D }) (ay.1 q).1 ε (J:=c'.J) (fun n st T=>by rw[O.J]at T;exact T.elim);have B:c'.nr=true:=O.nr;refine hB (some (D+1)) m (a:=⟨tm',[]⟩) ν ⟨N.abide,N.yield,N.mayfb,N.sub,N.smay⟩ (fun _=>L.2) (fun _=>B) ω hk fun e2 s2 β2 c3 tm2 Ds2 X hk2 A hy3 ρ φ htm3=>?_
 have κ:=ρ.none B;subst κ;obtain⟨s4,β4,⟨S,ι⟩,h4⟩:=DB φ hk2;have τ:=A.keep X (φ.keep.upto.mono fun i _ hi=>.inl hi);have hD1:=(z _ (.inr (.inr rfl))).2
 have j:=τ.block (D+1) (by show D+1<(w'.putObj _ _).heap.size;rw[World.putObj_size];exact(ay.1 q).1) fun hh=>by
  rcases hh with hh|hh
  ·exact(ν.low _ ε).2 hh
  ·rcases O.may _ hh with h1|h1
   ·exact h1
   ·have h1:W.heap.size<=D+1:=h1;omega
 have j:=j.trans (World.putObj_heap_same (ay.1 q).1)
 have hf3:c3.fb (D+1):=(A.fb (D+1) ε).resolve_right fun hh=>by
  rcases O.may _ hh with h1|h1
  ·exact h1
  ·have h1:W.heap.size<=D+1:=h1;omega
 have hJ3:∀n st w0 mi ma,¬c3.J n st w0 mi ma:=fun n st w0 mi ma T=>by
  rw[A.J]at T;have T:c'.J n st w0 mi ma:=T;rw[O.J]at T;exact T
 have fin:∃b G',Ending.returned (.bool (GO e2).isNone)=.returned (.bool b)/\jQ E c b1 ks sl tm D (fun st p=>.loop { state:=st,pending:=p,fn,tmps:=tm,params:=ps.toArray,assign:=cb,body:=ca,defers:=D }) JJ Pd k (!b) (X.putObj (D+1) (.loop { state:=if(GO e2).isNone then .ready else .done,pending:=GO e2,fn,tmps:=tm,params:=ps.toArray,assign:=cb,body:=ca,defers:=D })) M G' /\
   Di G W (X.putObj (D+1) (.loop { state:=if(GO e2).isNone then .ready else .done,pending:=GO e2,fn,tmps:=tm,params:=ps.toArray,assign:=cb,body:=ca,defers:=D }))/\∀k,G' k->(G k\/W.heap.size<=k)/\k<(X.putObj (D+1) (.loop { state:=if(GO e2).isNone then .ready else .done,pending:=GO e2,fn,tmps:=tm,params:=ps.toArray,assign:=cb,body:=ca,defers:=D })).heap.size:=by
  obtain⟨w4,y⟩:∃w4,w4=X.putObj (D+1) (.loop { state:=if(GO e2).isNone then .ready else .done,pending:=GO e2,fn,tmps:=tm,params:=ps.toArray,assign:=cb,body:=ca,defers:=D }):=⟨_,rfl⟩
  have Y:=(ay.1 j).1;have h5:=h4.putFb (ob:=.loop { state:=if(GO e2).isNone then .ready else .done,pending:=GO e2,fn,tmps:=tm,params:=ps.toArray,assign:=cb,body:=ca,defers:=D }) Y hf3 (J:=c3.J) (fun n st T=>(hJ3 _ _ _ _ _ T).elim);have h6:=h5.nrmS [] os2;have u:w4.heap[D+1]?=some (.loop { state:=if(GO e2).isNone then .ready else .done,pending:=GO e2,fn,tmps:=tm,params:=ps.toArray,assign:=cb,body:=ca,defers:=D }):=by rw[y];exact World.putObj_heap_same Y
  have υ:w4.heap.size=X.heap.size:=by rw[y];exact World.putObj_size
  have hp4:∀k,k≠D+1->w4.heap[k]?=X.heap[k]?:=fun k hk=>by rw[y];exact World.putObj_heap_other hk
  have hu4:Di (fun b=>b=D+1) X w4:=⟨by rw[y];rfl,by rw[y];rfl,by rw[y];rfl,by rw[υ];exact ck _,fun k _ hk=>hp4 k hk⟩
  rw[←y]at h6 ⊢;have α:∀b,c'.may b->W.heap.size<=b:=fun b hb=>(O.may b hb).resolve_left id
  have R:∀b,DJ β' s'.V b->W.heap.size<=b\/DJ β V b:=fun b ⟨o,g,x,k1,k2⟩=>O.mine b (hr.home o g x b k1 k2).2.1
  have χ:Di (fun b=>b=D+1) w' (w'.putObj (D+1) (.loop { state:=.busy,pending:=none,fn,tmps:=tm,params:=ps.toArray,assign:=cb,body:=ca,defers:=D })) :=
   ⟨rfl,rfl,rfl,by rw[World.putObj_size];exact ck _,fun k _ hk=>World.putObj_heap_other hk⟩
  have l:Di (fun b=>DJ β V b\/b=D+1) W w4:=by
   refine(((θ.mono fun i _ hi=>.inl hi).trans χ fun i _ hi=>.inr hi).trans τ fun i hi hh=>?_).trans hu4 fun i _ hi=>.inr hi
   rcases hh with hh|hh
   ·rcases R i hh with h1|h1
    ·omega
    ·exact .inl h1
   ·have:=α i hh;omega
  have ψ:∀b,(xY c D b1 β V W M).fb b->c3.fb b:=fun b hb=>by
   have h1:=(O.fb b hb).resolve_right id;refine(A.fb b h1).resolve_right fun h2=>?_
   have:=α b h2;have:=(h.rel.low b hb).1;have:b<W.heap.size:=this;omega
  have γ:∀b,DJ β4 s4.V b->W.heap.size<=b\/DJ β V b:=fun b ⟨o,g,x,k1,k2⟩=>by
   rcases A.mine b (h4.home o g x b k1 k2).2.1 with h1|h1
   ·have h1:(w'.putObj (D+1) _).heap.size<=b:=h1;rw[World.putObj_size]at h1;exact .inl (cp θ.size h1)
   ·exact R b h1
  have r:∀b,DJ (J7 β4 s4.V) (s4.V.nrm os2) b->W.heap.size<=b\/DJ β V b:=fun b ⟨o,g,x,k1,k2⟩=>by
   obtain⟨g',x',j1,_,j3⟩:=Gt (β:=β4) k1;rw[j3]at k2;exact γ b ⟨o,g',x',j1,k2⟩
  have h7:=h.rel.wait (sl0:=sl) (V1:=s4.V.nrm os2) h6 h.cn rfl (fun b hn hlt=>l.block b hlt fun hh=>by
    rcases hh with hh|hh
    ·exact hn (.inr hh)
    ·exact hn (.inl (.inl (.inr (.inr hh))))) l.size ψ (fun b hlt hb=>(r b hb).resolve_left (by omega)) (fun o=>(A.b0 o (.inr B)).trans (O.b0 o (.inr rfl)))
   (fun t o ho=>⟨σ t o ho,TN h.live ξ t o ho,TN S ξ t o ho⟩) (fun o g els n st hx=>hJ3 _ _ _ _ _ (h6.hist o g els n st hx).2.2.1)
  have hcW:c.w0.heap.size<=W.heap.size:=by have:=h.size;omega
  have δ:∀k,(c.fb k\/(k=D\/k=D+1))->k<w4.heap.size:=fun k hk=>hY (z k hk).2 l.size
  refine⟨(GO e2).isNone,fun b=>(c.fb b\/(b=D\/b=D+1))\/DJ (J7 β4 s4.V) (s4.V.nrm os2) b,rfl,⟨s4.V.nrm os2,J7 β4 s4.V,rfl,S,?_,?_,h7,rfl,?_,h.low,cp h.size l.size,fun b hb=>?_⟩,?_,fun k hk=>⟨?_,?_⟩⟩
  ·cases e2 with
   |normal=>exact .inl ⟨rfl,ι,u⟩
   |ret=>exact .inr ⟨rfl,.ret,_,rfl,ι,u⟩
   |exit id=>exact .inr ⟨rfl,.exit id,_,rfl,ι,u⟩
  ·rw[l.block D (z D (.inr (.inl rfl))).2 fun hh=>hh.elim (z D (.inr (.inl rfl))).1 (by omega)];exact h.dd
  ·refine h.up.trans l fun i hi hh=>?_
   rcases hh with hh|hh
   ·rcases h.own i hh with h1|h1
    ·omega
    ·exact h1
   ·omega
  ·rcases r b hb with h1|h1
   ·exact .inl (cp hcW h1)
   ·exact h.own b h1
  ·refine l.mono fun i _ hi=>?_
   rw[h.g];rcases hi with hi|hi
   ·exact .inr hi
   ·exact .inl (.inr (.inr hi))
  ·rw[h.g];rcases hk with hk|hk
   ·exact .inl (.inl hk)
   ·rcases r k hk with h1|h1
    ·exact .inr h1
    ·exact .inl (.inr h1)
  ·rcases hk with hk|hk
   ·exact δ k hk
   ·obtain⟨o,g,x,k1,k2⟩:=hk;exact(h6.home o g x k k1 k2).1
 cases e2 with
 |normal=>exact⟨_,_,run_endRound none j,fin⟩
 |ret=>exact⟨_,_,run_endRound (some .ret) j,fin⟩
 |exit id=>exact⟨_,_,run_endRound (some (.exit id)) j,fin⟩
theorem pJ(a:AV):∀o,o∈a.mv.sites->Cr<=o:=by
 have key:∀(n:Nat) (a:AV),SizeOf.sizeOf a<n->∀o,o∈a.mv.sites->Cr<=o:=by
  intro n
  induction n with
  |zero=>intro a h;omega
  |succ n ih =>
   have hl:∀cs:List AV,SizeOf.sizeOf cs<=n->∀o,o∈AV.sites.sitesL (AV.mv.mvL cs)->Cr<=o:=by
    intro cs
    induction cs with
    |nil=>intro _ o ho;cases ho
    |cons x xs ihx =>
     intro hs o ho;simp only[AV.mv.mvL,AV.sites.sitesL,lb]at ho;simp at hs;rcases ho with ho|ho
     ·exact ih x (by omega) o ho
     ·exact ihx (by omega) o ho
   intro a h o ho
   cases a with
   |own o' g=>simp[AV.mv,AV.sites]at ho;subst ho;exact Q3 _
   |map o' g=>simp[AV.mv,AV.sites]at ho;subst ho;exact Q3 _
   |ptr o' g off=>simp[AV.mv,AV.sites]at ho;subst ho;exact Q3 _
   |rptr o' g es i off=>simp[AV.mv,AV.sites]at ho;subst ho;exact Q3 _
   |mref k o' g=>simp[AV.mv,AV.sites]at ho;subst ho;exact Q3 _
   |ablk sl cs off=>simp at h;exact hl cs (by omega) o (by simpa[AV.mv,AV.sites]using ho)
   |agg cs=>simp at h;exact hl cs (by omega) o (by simpa[AV.mv,AV.sites]using ho)
   |fn f cs=>simp at h;exact hl cs (by omega) o (by simpa[AV.mv,AV.sites]using ho)
   |bnd f cs=>simp at h;exact hl cs (by omega) o (by simpa[AV.mv,AV.sites]using ho)
   |tup cs=>simp at h;exact hl cs (by omega) o (by simpa[AV.mv,AV.sites]using ho)
   |_=>simp[AV.mv,AV.sites]at ho
 exact key _ a (Nat.lt_succ_self _)
theorem fK(s:BG)(ks os:List Nat)(t:Nat)(ht:t∉ks):((s.nrm ks os).mv.sl t).sites=[]:=by
 simp[BG.mv,BG.nrm,ht,AV.mv,AV.sites]
theorem aD{ns:Nat}{o:Oper}{cl:Call}{x:Operand}{y:Jk}{ys:List Jk}(r:Option Nat)(m:Nat){β2:Nat->Nat->Value}{s2:BG}{j:Array Value}{w2:World}(A:BZ E c β2 s2 j w2)(hy:Z_ E c)(ho:o.op=.call cl)(hc:cl.callee=.value x)
  (hx:UO E x=some y) (hxs:X8 E cl.args.toList=some ys) (hd:∀t,o.dst=some t->t<ns) (R:j.size=ns) {l:List Deferred}{K2:AV->Bs->Prop}(hk:Ux E (y.val s2.sl) (ys.map (Jk.val s2.sl)) s2.V K2) {Kc:Act->World->Prop}{Q':Exit->Act->World->Prop}
  (η:∀v ch c' β' tm' w',K2 v ch->Z3 c c'->Z_ E c'->BZ E c' β' (put s2 o.dst v ch) tm' w'->tm'.size=ns->Kc ⟨tm',l⟩ w'):o.wpIn (rF r) m E.P ⟨j,l⟩ w2 Kc Q':=by
 unfold Ux at hk;split at hk
 ·rename_i f cs Y;obtain⟨σ,o',els,n,Post,J,ι,hA,hK⟩:=hk;have S:=AO.get_some J;have hv:=LD (a:=⟨j,l⟩) A hx;rw[Y]at hv
  obtain⟨q,O,φ,θ⟩:∃q:Array Value,(⟨j,l⟩:Act).eval x=.func (.func f) #[] q/\q.size=cs.length/\∀(i:Nat) (c':AV) (v:Value),cs[i]?=some c'->q[i]?=some v->AP w2 (c.bar β2 s2.V) β2 s2.V.cn c' v:=by
   generalize (⟨j,l⟩:Act).eval x=v at hv
   cases hv with|fn _ _ vs hl hh=>exact⟨vs,rfl,hl,hh⟩
  have p:=TA (a:=⟨j,l⟩) A hxs;have B:=p.1
  have T:=dU (a:=⟨j,l⟩) A hy S hA (us:=cl.args.map (⟨j,l⟩:Act).eval++q) (by simp at B ⊢;omega) (fun i x' v k1 k2=>by
   by_cases δ:i<(ys.map (Jk.val s2.sl)).length
   ·rw[hU δ]at k1;rw[et (by simp at B δ ⊢;omega)]at k2;exact p.2 i x' v k1 (by simpa using k2)
   ·rw[hX (by omega)]at k1;rw[no (by simp at B δ ⊢;omega)]at k2;refine θ _ x' v k1 ?_;rw[←k2];congr 1
    simp at B ⊢;omega) ι
  refine⟨fun _ _=>trivial,?_⟩;rw[Qq,Oper.semAt_eq r _ o (fun cc G=>by rw[ho]at G;cases G)]
  have α:(execOp (⟨j,l⟩:Act).eval o).run E.P w2=.ok (.enter f (cl.args.map (⟨j,l⟩:Act).eval++q)) w2:=by
   simp[execOp,ho,resolve,hc,O,TT,invoke,Ia σ]
  rw[α,Oper.uponIn_enter];refine⟨fun h=>by simp[rF,Fence.wide]at h,?_⟩;show CallsIn Fence.wide (m-1) E.P f _ w2 _;refine callsIn_wide.2 (T.mono fun e W' ⟨v,n1,st1,rr,c',he,hp,ν,L,Z,N⟩=>?_);subst he;obtain⟨τ,U⟩:=hK n1 st1 rr hp;simp only;have M:∀u,(⟨j,l⟩:Act).put o.dst u=⟨((⟨j,l⟩:Act).put o.dst u).tmps,l⟩:=fun u=>by cases o.dst<;>rfl
  have γ:=Li (tm:=j) (dst:=o.dst) (v:=up rr) (u:=v) N (YU (Ar.of_flat τ ν)) fun t ht=>by
   show t<j.size;rw[R];exact hd t ht
  rw[M];exact η _ _ c' _ _ _ U L Z γ (by rw[Act.put_size];exact R)
 ·rename_i o' g Y;split at hk
  ·rename_i els n J;split at hk
   ·rename_i ds X;obtain⟨k,he,κ,U⟩:=hk;have S:=AO.get_some J;obtain⟨_,hβ,_,_⟩:=A.hist _ _ _ _ _ S;have hv:=LD (a:=⟨j,l⟩) A hx;rw[Y]at hv
    have O:(⟨j,l⟩:Act).eval x=.func (.yield c.yl) #[] #[]:=by
     generalize (⟨j,l⟩:Act).eval x=v at hv
     cases hv with|own=>exact hβ
    have p:=TA (a:=⟨j,l⟩) A hxs;unfold FJ at X;have ζ:=Af X;have B:=p.1
    have ρ:=jR (a:=⟨j,l⟩) A hy S he (us:=cl.args.map (⟨j,l⟩:Act).eval) (by simp at B ζ ⊢;omega) (fun i d v ξ μ=>by
     obtain⟨z,hz,υ⟩:=BC X ξ
     exact(B' (p.2 i z v hz (by simpa using μ)) υ).1) (m-1)
    obtain⟨fn,tmps,assign,body,ε,hround⟩:=ρ;refine⟨fun _ _=>trivial,?_⟩;rw[Qq,Oper.semAt_eq r _ o (fun cc G=>by rw[ho]at G;cases G)]
    have α:(execOp (⟨j,l⟩:Act).eval o).run E.P w2=.ok (.round c.yl fn tmps assign body) w2:=by
     simp[execOp,ho,resolve,hc,O,Deferred.ofValue,invoke,ε]
    rw[α,Oper.uponIn_round];refine⟨fun h=>by simp[rF,Fence.wide]at h,?_⟩;show RoundIn Fence.wide (m-1) E.P c.yl fn tmps assign body w2 _;refine hround.mono fun e W' hh=>?_
    obtain⟨b,c',rfl,L,Z,N⟩:=hh;simp only;have M:∀u,(⟨j,l⟩:Act).put o.dst u=⟨((⟨j,l⟩:Act).put o.dst u).tmps,l⟩:=fun u=>by cases o.dst<;>rfl
    have γ:=Li (tm:=j) (dst:=o.dst) (v:=.d (.bool b)) (u:=.bool b) N (.d _ _ (.bool b)) fun t ht=>by
     show t<j.size;rw[R];exact hd t ht
    rw[M];exact η (.d (.bool b)) (.keep o' g (.hist els k (!b))) c' _ _ _ (by cases b;exact U;exact κ) L Z γ (by rw[Act.put_size];exact R)
   ·exact hk.elim
  ·exact hk.elim
 ·exact hk.elim
theorem bZ{fl:List Nat}{ns:Nat}(hm:E.P.follows .mixedOrders=true){p:PC}{code:Code}(hp:DR E fl ns p code)(r:Option Nat)(m:Nat):∀{Q:Bk->BG->Prop}{Q':Exit->Act->World->Prop}{s:BG}{c:EG}{β:Nat->Nat->Value}{a:Act}{w:World},BZ E c β s a.tmps w->Z_ E c->(c.nr=true->p.noR=true)->(r.isSome=true->c.nr=true)->a.tmps.size=ns->pw E p Q s ->
  gx E ns c a Q Q'->code.wpIn (rF r) m E.P Q' a w:=by
 induction hp generalizing r m with
 |skip=>intro Q Q' s c β a w h B j q hn hs A;exact wpIn_skip (A.same (e:=.normal) B hs h hn)
 |reg hd =>
  intro Q Q' s c β a w h B j q hn hs A;simp only[pw]at hs;obtain⟨s1,β1,T,h1⟩:=DB h hs;exact wpIn_region_lit (Pr r m hd h1 hn T fun s' β' tm' w' hk hr z=>A.same (e:=.normal) B hk (hr.keepS _) z)
 |draw hd hok =>
  intro Q Q' s c β a w h B j q hn hs A;simp only[pw]at hs;obtain⟨s1,β1,T,h1⟩:=DB h hs;rename_i id ops gs l pre ks;refine wpIn_region_any hm ?_;have hdr:BZ E c β1 s1 a.tmps { w with drawn:=w.drawn+1 }:=h1.grow (WG w);have:=gT r m (fl:=fl) (Q:=Q') (fun k o I dy ho hk=>?_) (by have:=Af hd;simpa using this) hok hdr hn T fun s' β' tm' w' hk hr z=>A.same (e:=.normal) B hk (hr.keepS _) z
  ·simpa using this
  ·obtain⟨y,υ,ξ⟩:=C7 hd ho;rw[az,hk]at υ;simp at υ;subst υ;exact ξ
 |any hd ht =>
  intro Q Q' s c β a w h B j q hn hs A;simp only[pw]at hs;obtain⟨s1,β1,T,h1⟩:=DB h hs;rename_i id ops gs t is ks;refine wpIn_region_any hm ?_;have hdr:BZ E c β1 s1 a.tmps { w with drawn:=w.drawn+1 }:=h1.grow (WG w);have:=Xj r m (Q:=Q') hd ops.length _ (by simpa using ht) hdr hn T fun s' β' tm' w' hk hr z=>A.same (e:=.normal) B hk (hr.keepS _) z
  simpa using this
 |seq h1 h2 ι θ =>
  intro Q Q' s c β a w h B j q hn hs A;simp only[pw]at hs;refine wpIn_seq (ι r m h B (fun e=>(f0.1 (j e)).1) q hn hs fun e s' β' c' tm' Ds w' hk he O L hr z=>?_)
  cases e with
  |normal=>exact θ r m (a:=⟨tm',Ds.map J4++a.defers⟩) hr O (fun e=>(f0.1 (j (he.nr.symm.trans e))).2) (fun e=>he.nr.trans (q e)) z hk (A.on he L (fun x hx=>(h.low x hx).1) (fun x hx=>(hr.low x hx).1) fun _ _ h=>h)
  |exit id=>exact A (.exit id) s' β' c' tm' Ds w' hk he O L hr z
  |ret=>exact A .ret s' β' c' tm' Ds w' hk he O L hr z
 |cond hx h1 h2 ι θ =>
  intro Q Q' s c β a w h B j q hn hs A;simp only[pw,V5]at hs;split at hs
  ·rename_i b hb;have hv:=LD (a:=a) h hx;rw[hb]at hv;refine wpIn_cond (Qn hv) ?_
   cases b with
   |true=>simp at hs ⊢;exact ι r m h B (fun e=>(f0.1 (j e)).1) q hn hs A
   |false=>simp at hs ⊢;exact θ r m h B (fun e=>(f0.1 (j e)).2) q hn hs A
  ·exact hs.elim
 |block h1 ih =>
  intro Q Q' s c β a w h B j q hn hs A;simp only[pw]at hs;refine wpIn_block (ih r m h B j q hn hs fun e s' β' c' tm' Ds w' hk he O L hr z=>?_)
  cases e with
  |normal=>exact A .normal s' β' c' tm' Ds w' hk he O L hr z
  |ret=>exact A .ret s' β' c' tm' Ds w' hk he O L hr z
  |exit i =>
   simp only[Lx]at hk;simp only[ZG,Exit.inBlock];split at hk
   ·rename_i e;rw[if_pos e];exact A .normal s' β' c' tm' Ds w' hk he O L hr z
   ·rename_i e;rw[if_neg e];exact A (.exit i) s' β' c' tm' Ds w' hk he O L hr z
 |loop h1 ih =>
  intro Q Q' s c β a w h B j q hn hs A;rename_i gs ks os p' code';simp only[pw]at hs;obtain⟨J,hg0,hround⟩:=hs;obtain⟨s0,β0,⟨n0,hJ⟩,h0⟩:=DB h hg0;intro b k cs hro hb hr;have hl0:∀x,c.fb x->x<c.w0.heap.size:=fun x hx=>(h.low x hx).1
  have key:∀n (s:BG) (c':EG) (β:Nat->Nat->Value) (Ds:List Nat) (a':Act) (w:World),J n s->Z3 c c'->Z_ E c'->LL c c' Ds->BZ E c' β s a'.tmps w->a'.tmps.size=ns->a'.defers=Ds.map J4++a.defers ->
    ∃e a1 w',Q' e a1 w'/\ArrivesIn (Machine.fenced E.P (rF r)) E.P (lone (b.atR a' (.code code' :: .inLoop code'::k)) cs w) b k cs e a1 w':=by
   intro n
   induction n using Nat.strongRecOn with
   |_ n ihn =>
    intro s c' β Ds a' w hJs S hyc L γ z hdef;have hl1:∀x,c'.fb x->x<c'.w0.heap.size:=fun x hx=>(γ.low x hx).1
    have:=ih r m (Q':=Exit.then (fun a1 w1=>∃n1 s1 c1 β1 Ds1,J n1 s1/\n1<n/\Z3 c c1/\Z_ E c1/\LL c c1 Ds1/\BZ E c1 β1 s1 a1.tmps w1/\a1.tmps.size=ns/\a1.defers=Ds1.map J4++a.defers) Q') γ hyc (fun e=>j (S.nr.symm.trans e)) (fun e=>S.nr.trans (q e)) z (hround n s hJs) fun e s' β' c2 tm' Es w' hk ε ξ η hr' τ=>?_
    ·obtain⟨e,a1,w1,hq,N⟩:=this b (.inLoop code'::k) cs hro hb hr
     cases e with
     |normal =>
      obtain⟨n1,s1,c1,β1,Ds1,hJ1,φ,hex1,υ,hmk1,δ,ht1,hd1⟩:=hq;obtain⟨e2,a2,w2,hq2,harr2⟩:=ihn n1 φ s1 c1 β1 Ds1 a1 w1 hJ1 hex1 υ hmk1 δ ht1 hd1;exact⟨e2,a2,w2,hq2,.of_steps (StepsIn.trans N (.one (fenced_calm hb hr rfl) stepR_inLoop)) harr2⟩
     |exit id=>exact⟨_,a1,w1,hq,.pass (x:=.inLoop code') rfl (fun _ _=>.inl (by simp)) N⟩
     |goto l=>exact⟨_,a1,w1,hq,.pass (x:=.inLoop code') rfl (fun _ _=>.inl (by simp)) N⟩
     |ret=>exact⟨_,a1,w1,hq,.pass (x:=.inLoop code') rfl (fun _ _=>.inl (by simp)) N⟩
     |panic ch=>exact⟨_,a1,w1,hq,.pass (x:=.inLoop code') rfl (fun _ _=>.inl (by simp)) N⟩
     |outgrown=>exact⟨_,a1,w1,hq,.pass (x:=.inLoop code') rfl (fun _ _=>.inl (by simp)) N⟩
    ·have hd2:Es.map J4++a'.defers=(Es++Ds).map J4++a.defers:=by rw[hdef,na,ne]
     cases e with
     |normal =>
      simp only[L5]at hk;obtain⟨s3,β3,⟨m',hm',hJm⟩,h3⟩:=DB hr' hk;exact⟨m',_,c2,_,Es++Ds,hJm,hm',S.trans ε hl1 hl0,ξ,L.app η S ε,h3.nrmS _ _,τ,hd2⟩
     |exit id =>
      show Q' (.exit id) ⟨tm',Es.map J4++a'.defers⟩ w';rw[hd2];exact A (.exit id) s' β' c2 tm' (Es++Ds) w' hk (S.trans ε hl1 hl0) ξ (L.app η S ε) hr' τ
     |ret =>
      show Q' .ret ⟨tm',Es.map J4++a'.defers⟩ w';rw[hd2];exact A .ret s' β' c2 tm' (Es++Ds) w' hk (S.trans ε hl1 hl0) ξ (L.app η S ε) hr' τ
  obtain⟨e,a1,w1,hq,N⟩:=key n0 _ c _ [] a w hJ (Z3.refl c) B (LL.nil _ _) (h0.nrmS ks os) hn rfl;exact⟨e,a1,w1,hq,.of_steps (.one (fenced_calm hb hr rfl) stepR_loop) N⟩
 |exit=>intro Q Q' s c β a w h B j q hn hs A;exact wpIn_exit (A.same (e:=.exit _) B hs h hn)
 |ret=>intro Q Q' s c β a w h B j q hn hs A;exact wpIn_ret (A.same (e:=.ret) B hs h hn)
 |dead=>intro Q Q' s c β a w h B j q hn hs A;exact hs.elim
 |scope h1 ih =>
  intro Q Q' s c β a w h B j q hn hs A;refine Ot (ih r m (Q':=Exit.noGoto Q') h B j q hn hs fun e s' β' c' tm' Ds w' hk he O L hr z=>?_);have h2:=A e s' β' c' tm' Ds w' hk he O L hr z
  cases e<;>exact h2
 |lab=>intro Q Q' s c β a w h B j q hn hs A;exact wpIn_label (A.same (e:=.normal) B hs h hn)
 |rngF hx hps h1 h2 ι θ =>
  intro Q Q' s c β a w h B j q hn hs A;rename_i gs x g ps ks os pb gs2 os2 pa cb ca
  have hcn:c.nr=false:=by
   cases hc:c.nr with
   |false=>rfl
   |true=>exact absurd (j hc) (by simp[PC.noR])
  have hr:r=none:=by
   cases r with
   |none=>rfl
   |some l=>exact absurd (j (q rfl)) (by simp[PC.noR])
  subst hr;simp only[pw]at hs;obtain⟨s0,β0,hs0,h0⟩:=DB h hs;have hv:=LD (a:=a) h0 hx;obtain⟨f,pre,post,vs,caps,hval,ρ,hlenp,hvs,hpost,hbody,hnoR,els,hseq,JJ,Pd,hw0,hJ0,hround,hend,Z⟩:=oJ hs0 hv
  ·have h1r:=(h0.nrmS ks os).mv rfl;refine wpIn_rangeFunc fun fn _=>?_
   have henter:=run_enterLoop_outer (P:=E.P) (w:=w) fn a.tmps ps.toArray cb ca;obtain⟨w1,σ⟩:∃w1,w1=(w.alloc (.deferred (some []))).alloc (.loop { state:=.ready,pending:=none,fn,tmps:=a.tmps,params:=ps.toArray,assign:=cb,body:=ca,defers:=w.heap.size }):=⟨_,rfl⟩
   rw[←σ]at henter;refine⟨w.heap.size+1,[J4 w.heap.size],w1,⟨.fn (.func f) caps,vs++#[.func (.yield (w.heap.size+1)) #[] #[]]⟩,w1,f,vs++#[.func (.yield (w.heap.size+1)) #[] #[]]++caps,w1,henter,?_,fun _ _=>trivial,?_,fun h=>by simp[rF,Fence.wide]at h,?_⟩
   ·have hk:∀v,a.eval (.const v)=v:=fun _=>rfl
    simp[resolve,rangeCall,hval,hk,Deferred.ofValue]
   ·simp[invoke,Ia hbody]
   ·obtain⟨D,Y⟩:∃D,D=w.heap.size:=⟨_,rfl⟩
    obtain⟨b1,hb1⟩:∃b1:Nat->Value,b1=fun o=>if o<5000000 then c.b0 o else J7 β0 s0.V (SL o) 0:=⟨_,rfl⟩
    obtain⟨β1,hβ1⟩:∃β1:Nat->Nat->Value,β1=fun o g=>J7 β0 s0.V (SL o) g:=⟨_,rfl⟩
    have hsl0:∀t,t∉ks->((s0.nrm ks os).mv.sl t).sites=[]:=fK s0 ks os;have ω:∀t o,o∈((s0.nrm ks os).mv.sl t).sites->Cr<=o:=fun t=>pJ _
    have hnh:∀o g els n st,(s0.nrm ks os).mv.V.ob o≠some (g,.hist els n st):=fun o g els n st hx=>by
     obtain⟨_,x,_,h4⟩:=AO.mv_ob hx;exact Xo h4
    have hcn1:(s0.nrm ks os).mv.V.cn=fun _=>1:=rfl
    have U:∀b,DJ β1 (s0.nrm ks os).mv.V b->DJ β0 s0.V b:=fun b ⟨o,g,x,k1,k2⟩=>by
     subst hβ1;obtain⟨_,x',j1,_⟩:=AO.mv_ob k1;obtain⟨g',x2,j2,_,j3⟩:=Gt (β:=β0) j1;have k2:C4 (J7 β0 s0.V (SL o) g) b:=k2;rw[j3]at k2;exact⟨_,g',x2,j2,k2⟩
    have hown1:∀b,DJ β0 s0.V b->(c.w0.heap.size<=b\/c.mine b)/\b<w.heap.size/\¬c.fb b:=fun b ⟨o,g,x,k1,k2⟩=>⟨(h0.home o g x b k1 k2).2.1,(h0.home o g x b k1 k2).1,(h0.home o g x b k1 k2).2.2⟩
    rw[←hβ1]at h1r;obtain⟨sv1,hsv1⟩:∃sv1,sv1=(s0.nrm ks os).mv:=⟨_,rfl⟩
    rw[←hsv1]at h1r hw0 hJ0 hround hend Z hsl0 ω hnh hcn1 U;obtain⟨ψ,V1⟩:=sv1;have hlow:∀b,c.fb b->b<c.w0.heap.size:=fun b hb=>(h.low b hb).1
    have hcD:c.w0.heap.size<=D:=by rw[Y];exact h.keep.size
    have M:Below w.heap.size w w1:=by
     rw[σ];exact(CL w _).trans ((CL _ _).mono (by simp[World.size_alloc]))
    have hsz1:w1.heap.size=D+2:=by rw[σ,Y];simp[World.size_alloc]
    rw[←Y]
    have hrec1:w1.heap[D+1]?=some (.loop { state:=.ready,pending:=none,fn,tmps:=a.tmps,params:=ps.toArray,assign:=cb,body:=ca,defers:=D }):=by
     rw[σ,Y,show w.heap.size+1=(w.alloc (.deferred (some []))).heap.size by simp[World.size_alloc]];exact World.alloc_heap_new _ _
    have hdd1:w1.heap[D]?=some (.deferred (some [])):=by
     have h2:(w.alloc (.deferred (some []))).heap[D]?=some (.deferred (some [])):=by rw[Y];exact World.alloc_heap_new _ _
     rw[σ,(CL (w.alloc (.deferred (some []))) _).block D (by simp[World.size_alloc,Y])];exact h2
    have χ:BZ E (xY c D b1 β1 V1 w1 (fun _=>False)) β1 ⟨ψ,V1⟩ a.tmps w1 :=
     h1r.growFb (X:=fun b=>b=D\/b=D+1) M (fun b hb=>by rw[hsz1,←Y];omega) hnh rfl (by funext b;simp[xY]) rfl (by rw[hb1];rfl)
    obtain⟨G,μ⟩:∃G:Nat->Prop,G=fun b=>(c.fb b\/(b=D\/b=D+1))\/DJ β1 V1 b:=⟨_,rfl⟩
    have hGb:∀b,G b->(xY c D b1 β1 V1 w1 (fun _=>False)).bar β1 V1 b:=fun b hb=>by
     rw[μ]at hb;rcases hb with hb|hb
     ·exact .inl (.inl hb)
     ·exact .inr hb
    have hup0:Di c.mine c.w0 w1:=h0.keep.upto.trans (M':=fun _=>False) ⟨M.os,M.tape,M.output,M.size,fun k hk _=>M.block k hk⟩ fun _ _ h=>h.elim
    refine callsIn_wide.2 ?_
    have hcall:=hseq (D+1) (jQ E c b1 ks ψ a.tmps D (fun st p=>.loop { state:=st,pending:=p,fn,tmps:=a.tmps,params:=ps.toArray,assign:=cb,body:=ca,defers:=D }) JJ Pd) w1 G G (vs++#[.func (.yield (D+1)) #[] #[]]++caps)
     (ep hcD) (eo hcD (fun r m=>ι r m) (fun r m=>θ r m) hnoR hn hps hsl0 ω hround)
     ⟨V1,β1,hcn1,hw0,.inl ⟨rfl,hJ0,hrec1⟩,hdd1,χ,μ,hup0,fun b hb=>hb.elim,by omega,fun b hb=>(hown1 b (U b hb)).1⟩
     (fun b hb=>by
      rw[μ]at hb;rcases hb with hb|⟨o,g,x,k1,k2⟩
      ·exact(χ.low b (.inl hb)).1
      ·exact(χ.home o g x b k1 k2).1) (fun b hb=>hb)
     (fun gg cs hgg=>(χ.glob gg cs hgg).mono (Aq.refl _ _) fun b _ hb=>hGb b hb)
     (by simp[ρ,hlenp]) (by rw[←ρ,et (by simp)];simp)
     (fun i d v k1 k2=>by
      have φ:i<vs.size:=by rw[ρ];exact(aa.1 k1).1
      rw[et (by simp;omega),et φ]at k2;refine(hvs i d v k1 k2).mono (.of_below M) fun b φ hb=>?_
      rw[μ]at hb;rcases hb with(hb|hb)|hb
      ·exact .inl hb
      ·omega
      ·exact .inr (U b hb))
     (fun i d v k1 k2=>by
      rw[no (by simp;omega),show pre.length+1+i-(vs++#[Value.func (.yield (D+1)) #[] #[]]).size=i by simp;omega]at k2;refine(hpost i d v k1 k2).mono (.of_below M) fun b φ hb=>?_
      rw[μ]at hb;rcases hb with(hb|hb)|hb
      ·exact .inl hb
      ·omega
      ·exact .inr (U b hb))
    refine hcall.mono fun e w' ⟨v,n,st,G',he,hfin,⟨V,β',hJ⟩,hupG,hG'⟩=>?_
    subst he;have hnhV:=V4 hJ.rel;have hlt1:D+1<w'.heap.size:=hJ.size
    have α:∀(e:Bk) (ob:Obj),Q e ⟨ψ,V⟩->Q' (ZG e) ⟨a.tmps,[J4 D]++a.defers⟩ (w'.putObj (D+1) ob):=by
     intro e ob hqe;obtain⟨w4,ζ⟩:∃w4,w4=w'.putObj (D+1) ob:=⟨_,rfl⟩
     have hsz4:w4.heap.size=w'.heap.size:=by rw[ζ];exact World.putObj_size
     have hp4:∀k,k≠D+1->w4.heap[k]?=w'.heap[k]?:=fun k hk=>by rw[ζ];exact World.putObj_heap_other hk
     have hu4:Di (fun b=>b=D+1) w' w4:=⟨by rw[ζ];rfl,by rw[ζ];rfl,by rw[ζ];rfl,by rw[hsz4];exact ck _,fun k _ hk=>hp4 k hk⟩
     rw[←ζ];obtain⟨c4,R⟩:∃c4:EG,c4={ c with w0:=w4,fb:=fun b=>c.fb b\/(b=D\/b=D+1),mine:=DJ β' V,b0:=b1,may:=fun _=>False }:=⟨_,rfl⟩
     have κ:Di c.mine c.w0 w4:=hJ.up.trans hu4 fun i hi hh=>by omega
     have ν:∀b,(c.fb b\/(b=D\/b=D+1))->b<w'.heap.size/\¬DJ β' V b:=fun b hb=>hJ.rel.low b (.inl hb)
     refine A e ⟨ψ,V⟩ β' c4 a.tmps [D] w4 hqe ?_ ?_ ?_ ?_ hn
     ·subst R;refine⟨κ.size,fun o ho=>?_,rfl,rfl,rfl,rfl,rfl,fun v hv=>?_,fun b hb=>?_,fun b hb=>.inl (.inl hb),fun b hb=>hb.elim⟩
      ·rw[hcn]at ho;have ho':o<5000000:=ho.resolve_right (by simp);show b1 o=c.b0 o;rw[hb1];simp[ho']
      ·refine(κ.mono fun i _ hi=>.inl hi).trans hv fun i hi hh=>?_
       rcases hh with hh|hh
       ·rcases hJ.own i hh with h3|h3
        ·omega
        ·exact .inl h3
       ·exact hh.elim
      ·rcases hb with hb|hb
       ·exact .inl (cp κ.size hb)
       ·exact hJ.own b hb
     ·subst R;exact⟨B.abide,B.yield,fun b hb=>hb.elim,fun b hb=>.inl (B.sub b hb),fun b _ hb=>hb.elim⟩
     ·refine⟨fun hh=>absurd (hcn.symm.trans hh) (by simp),by simp,fun D' hD'=>?_⟩;simp at hD';subst hD';refine⟨⟨?_,?_,?_,?_⟩,hcD⟩
      ·subst R;show w4.heap[D']?=_;rw[hp4 D' (by omega)];exact hJ.dd
      ·subst R;exact(ν D' (.inr (.inl rfl))).2
      ·subst R;exact id
      ·subst R;exact .inr (.inl rfl)
     ·refine hJ.rel.shift (c':=c4) (hu4.mono fun i _ hi=>.inl (.inr (.inr hi))) (fun b _ hb=>?_) (fun b hb=>?_) hnhV (by rw[R]) (by rw[R]) (by rw[R];rfl)
      ·rw[R]at hb;exact .inl hb
      ·rw[R]at hb;rw[hsz4];exact(ν b hb).1
    rcases hJ.st with⟨hst,hjj,hrec⟩|⟨hst,e,cd,hcd,hpd,hrec⟩
    ·have hne:els.fin n:=hfin.resolve_left (by rw[hst];simp);exact⟨_,_,run_endLoop hrec (by simp),α .normal _ (hend n V hJ.cn hne hjj)⟩
    ·refine⟨_,_,run_endLoop hrec (by simp),?_⟩
     cases e with
     |normal=>cases hcd
     |ret=>cases hcd;exact wpIn_ret (α .ret _ (Z .ret V hJ.cn hpd))
     |exit id=>cases hcd;exact wpIn_exit (α (.exit id) _ (Z (.exit id) V hJ.cn hpd))
 |nxt h2 ho hg hx hd =>
  intro Q Q' s c β a w h B j q hn hs A;rename_i id o ops2 x y gs l2 ks;simp only[pw]at hs;obtain⟨s1,β1,T,δ⟩:=DB h hs;refine wpIn_region_lit ?_;unfold wpListIn;have hw:Region.wanted o (yielded (o::ops2).toArray a.tmps)=true:=by simp[Region.wanted,hg]
  rw[if_pos hw];have hput:∀u,a.put o.dst u=⟨(a.put o.dst u).tmps,a.defers⟩:=fun u=>by cases o.dst<;>rfl
  refine⟨fun _ _=>trivial,?_⟩;rw[Qq,Oper.semAt_eq r _ o (fun cc hcc=>by rw[ho]at hcc;cases hcc)];obtain⟨u,w',v,ch,β',hrun,hK,γ,hv⟩:=eT δ (LD δ hx) T o.type
  have S:(execOp a.eval o).run E.P w=.ok (.value u) w':=by
   simp[execOp,ho,hrun]
  rw[S,Oper.uponIn_value,hput];have hrp:=Li (tm:=a.tmps) (dst:=o.dst) γ hv fun t ht=>by rw[hn];exact hd t ht
  exact Pr r m (a:=⟨(a.put o.dst u).tmps,a.defers⟩) (K:=fun s'=>Q .normal (s'.keep ks)) h2 hrp (by rw[Act.put_size];exact hn) hK fun s' β2 tm2 w2 hk hr z=>A.same (e:=.normal) B hk (hr.keepS _) z
 |yld h1 h2 ho hc hg hx hxs hd =>
  intro Q Q' s c β a w h B j q hn hs A;rename_i id ops1 o ops2 cl x y ys gs l1 l2 ks;simp only[pw]at hs;obtain⟨s1,β1,T,δ⟩:=DB h hs;refine wpIn_region_lit (M9 r m (rest:=o::ops2) h1 δ hn T fun s2 β2 tm2 w2 hk hr2 ht2=>?_);unfold wpListIn;have hw:Region.wanted o (yielded (ops1++o::ops2).toArray (⟨tm2,a.defers⟩:Act).tmps)=true:=by simp[Region.wanted,hg]
  rw[if_pos hw]
  exact aD r m hr2 B ho hc hx hxs hd ht2 hk fun v ch c' β' tm' w' hk2 hext O hrp z =>
   Pr r m (a:=⟨tm',a.defers⟩) (K:=fun s'=>Q .normal (s'.keep ks)) h2 hrp z hk2 fun s' β'' tm'' w'' hk hr htm2=>A .normal _ β'' c' tm'' [] w'' hk hext O (LL.nil _ _) (hr.keepS _) htm2
end Go.Pw
