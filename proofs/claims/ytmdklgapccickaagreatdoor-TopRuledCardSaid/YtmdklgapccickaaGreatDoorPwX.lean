/- A part of the proof. -/
import Derived.Test.YtmdklgapccickaaGreatDoorPkXb
import Derived.Scope
import Derived.RangeFuncLeaves
set_option linter.all false
namespace Go.Pw
open Go.RowKit
def Bg.keep (s:Bg) (ks:List Nat):Bg:=⟨fun t=>if ks.contains t then s.sl t else .undef,s.V⟩
def AL.drop (V:AL) (o:Nat):AL:=⟨CO V.ob o none,V.cn⟩
def AL.keep (V:AL) (os:List Nat):AL:=⟨fun o=>if os.contains o then V.ob o else none,V.cn⟩
inductive EE where
 |freeze (t:Nat)
 |frzP (t:Nat)
 |frzH (t:Nat)
 |frzM (t:Nat)
 |frzA (t:Nat)
 |frzC (t off:Nat)
 |ownM (t o e1 e2:Nat)
 |own (t o ety es:Nat)
 |ownC (t off o ety es:Nat)
 |ownMC (t off o e1 e2:Nat)
 |drop (o:Nat)
 |only (os:List Nat)
 |ownR (t e2:Nat)
 |unr (t k:Nat)
 |bump (t:Nat)
 |down (ks os:List Nat)
def AV.nrm (V:AL) (os:List Nat):AV->AV
 |.ptr o g off=>if live V os o g then .ptr o 0 off else .undef
 |.rptr o g es i off=>if live V os o g then .rptr o 0 es i off else .undef
 |.own o g=>if live V os o g then .own o 0 else .undef
 |.map o g=>if live V os o g then .map o 0 else .undef
 |.agg cs=>let cs':=nrmL V os cs;if cs'.all AV.one then .agg cs' else .undef
 |.fn f cs=>.fn f (nrmL V os cs)
 |.bnd f cs=>.bnd f (nrmL V os cs)
 |.tup cs=>.tup (nrmL V os cs)
 |.mref k o g=>if live V os o g then .mref k o 0 else .undef
 |.ablk sl cs off=>let cs':=nrmL V os cs;if cs'.all AV.one then .ablk sl cs' off else .undef
 |v=>v
where
 live (V:AL) (os:List Nat) (o g:Nat):Bool:=os.contains o && (match V.ob o with|some (g',_)=>g' == g|none=>false)
 nrmL (V:AL) (os:List Nat):List AV->List AV
  |[]=>[]
  |x::xs=>x.nrm V os::nrmL V os xs
def AW.nrm (V:AL) (os:List Nat):AW->Option AW
 |.cells xs=>let xs':=xs.map (AV.nrm V os);if xs'.all AV.one then some (.cells xs') else none
 |.rowH ety xs i q p=>if AV.nrm.live V os q p then some (.rowH ety xs i q 0) else none
 |.rowP ..=>none
 |.mitO q p n seen=>if AV.nrm.live V os q p then some (.mitO q 0 n seen) else none
 |x=>some x
def AL.nrm (V:AL) (os:List Nat):AL:=⟨fun o=>if os.contains o then (match V.ob o with
 |some (_,x)=>match x.nrm V os with|some y=>some (0,y)|none=>none
 |none=>none) else none,fun _=>1⟩
def Bg.nrm (s:Bg) (ks os:List Nat):Bg:=⟨fun t=>if ks.contains t then (s.sl t).nrm s.V os else .undef,s.V.nrm os⟩
def NC (o:Nat):Nat:=if o<C_ then o+5000000 else if 5000000<=o/\o<5000000+C_ then o-5000000 else o
theorem Fu (o:Nat):NC (NC o)=o:=by
 unfold NC C_
 split
 ·rw[if_neg (by omega),if_pos (by omega)];omega
 ·split
  ·rw[if_pos (by omega)];omega
  ·rename_i h1 h2;rfl
def AV.sw:AV->AV
 |.ptr o g off=>.ptr (NC o) g off
 |.rptr o g es i off=>.rptr (NC o) g es i off
 |.own o g=>.own (NC o) g
 |.map o g=>.map (NC o) g
 |.agg cs=>.agg (swL cs)
 |.fn f cs=>.fn f (swL cs)
 |.bnd f cs=>.bnd f (swL cs)
 |.tup cs=>.tup (swL cs)
 |.mref k o g=>.mref k (NC o) g
 |.ablk sl cs off=>.ablk sl (swL cs) off
 |v=>v
where
 swL:List AV->List AV
  |[]=>[]
  |x::xs=>x.sw::swL xs
theorem Nm (cs:List AV):AV.sw.swL cs=cs.map AV.sw:=by
 induction cs with
 |nil=>rfl
 |cons x xs ih=>simp only[AV.sw.swL,List.map_cons,ih]
theorem X' (a:AV):a.sw.one=a.one:=by cases a<;>rfl
def AW.sw:AW->AW
 |.cells xs=>.cells (xs.map AV.sw)
 |.rowH ety xs i q p=>.rowH ety xs i (NC q) p
 |.mitO q p n seen=>.mitO (NC q) p n seen
 |x=>x
def qh (x:Option (Nat×AW)):Option (Nat×AW):=match x with|some (g,y)=>some (g,y.sw)|none=>none
def AL.sw (V:AL):AL:=⟨fun o=>qh (V.ob (NC o)),fun _=>1⟩
def Bg.sw (s:Bg):Bg:=⟨fun t=>(s.sl t).sw,s.V.sw⟩
def pg (o:Nat) (x:Option (Nat×AW)):Bool:=match x with|some (_,.hist ..)=>false|some _=>decide (C_<=o)|none=>true
def nX (os:List Nat) (V:AL):Bool:=os.all fun o=>pg o (V.ob o)
def lw (b:Bool) (s:Bg) (K:Bg->Prop):Prop:=match b with|true=>K s.sw|false=>K s
def o8 (o g:Nat) (B:AV):AV->AV
 |.ptr o' g' off=>if o'=o/\g'=g/\off=0 then B else .ptr o' g' off
 |x=>x
def US (o g:Nat) (B:AV):AV->AV
 |.fn f cs=>.fn f (cs.map (o8 o g B))
 |x=>x
def Sv (o g:Nat) (l:List AV):Nat->List AV
 |0=>l.map (US o g .undef)
 |k+1=>l.map (US o g (.ablk false (Sv o g l k) 0))
theorem mI (o g:Nat) (l:List AV):Sv o g l 0=l.map (US o g .undef):=by rw[Sv]
theorem mH (o g:Nat) (l:List AV) (k:Nat):Sv o g l (k+1)=l.map (US o g (.ablk false (Sv o g l k) 0)):=by rw[Sv]
theorem d6 (o g:Nat) (B a:AV):(US o g B a).one=a.one:=by cases a<;>rfl
theorem d5 {w:World}{fb:Nat->Prop}{β:Nat->Nat->Value}{cn:Nat->Nat}{o g:Nat}{B a:AV}{v:Value}(h:AM w fb β cn a v) (hB:AM w fb β cn B (β o g)):AM w fb β cn (US o g B a) v:=by
 unfold US
 split
 ·cases h with
  |fn f cs vs hl h =>
   refine .fn _ _ vs (by simp[hl]) fun i c v hc hv=>?_
   rw[List.getElem?_map] at hc
   simp only[Option.map_eq_some_iff] at hc
   obtain⟨c0,h0,rfl⟩:=hc
   have h1:=h i c0 v h0 hv
   unfold o8
   split
   ·split
    ·rename_i he
     obtain⟨rfl,rfl,rfl⟩:=he
     cases h1 with|ptr _ _ _ b hg hβ=>rw[hβ] at hB;exact hB
    ·exact h1
   ·exact h1
 ·exact h
theorem d4 {w:World}{fb:Nat->Prop}{β:Nat->Nat->Value}{cn:Nat->Nat}{o g b:Nat}{l:List AV}{vs:Nat->Value}(hβ:β o g=.pointer (some ⟨b,0,none⟩)) (hb:¬fb b) (hne:l≠[]) (h1:∀x,x∈l->x.one=true)
 (hc:∀j,j<l.length->w.cell? ⟨b,0+j,none⟩=some (vs j)) (hv:∀(j:Nat) (c:AV),l[j]?=some c->AM w fb β cn c (vs j)):∀k,(∀(j:Nat) (c:AV),(Sv o g l k)[j]?=some c->AM w fb β cn c (vs j))/\AM w fb β cn (.ablk false (Sv o g l k) 0) (β o g):=by
 intro k
 have key:∀(B:AV),AM w fb β cn B (β o g)->∀(j:Nat) (c:AV),(l.map (US o g B))[j]?=some c->AM w fb β cn c (vs j):=fun B hB j c hj=>by
  rw[List.getElem?_map] at hj
  simp only[Option.map_eq_some_iff] at hj
  obtain⟨c0,h0,rfl⟩:=hj
  exact d5 (hv j c0 h0) hB
 have one:∀(B:AV) x,x∈l.map (US o g B)->x.one=true:=fun B x hx=>by
  obtain⟨y,hy,rfl⟩:=List.mem_map.1 hx
  rw[d6];exact h1 y hy
 have blk:∀(L:List AV),L.length=l.length->(∀x,x∈L->x.one=true)->(∀(j:Nat) (c:AV),L[j]?=some c->AM w fb β cn c (vs j))->AM w fb β cn (.ablk false L 0) (β o g):=fun L hL h2 h3=>by
  refine .ablk false L 0 b 0 vs _ hb (fun he=>hne (by rw[he] at hL;exact List.length_eq_zero_iff.1 hL.symm)) h2 (fun j c hj=>hc j (by have:=(List.getElem?_eq_some_iff.1 hj).1;omega)) h3 (by rw[hβ];simp[gx])
 induction k with
 |zero =>
  have h0:=key .undef (.undef _)
  rw[mI]
  exact⟨h0,blk _ (by simp) (one .undef) h0⟩
 |succ k ih =>
  have h0:=key _ ih.2
  rw[mH]
  exact⟨h0,blk _ (by simp) (one _) h0⟩
def GZ (g:EE) (s:Bg) (K:Bg->Prop):Prop :=
 match g with
 |.freeze t=>match s.sl t with
  |.own o g=>match s.V.get o g with
   |some (.row _ _ nl l)=>K ⟨CO s.sl t (.d (.list nl l)),s.V.drop o⟩
   |_=>False
  |_=>K s
 |.frzP t=>match s.sl t with
  |.ptr o g 0=>match s.V.get o g with
   |some (.cells xs)=>match BV AV.toD1 xs with
    |some (c::l)=>K ⟨CO s.sl t (.d (.ptr (c::l))),s.V.drop o⟩
    |_=>False
   |_=>False
  |_=>K s
 |.frzH t=>match s.sl t with
  |.own o g=>match s.V.get o g with
   |some (.rowH ety l i q p)=>match s.V.get q p with
    |some (.row _ _ nl xs)=>K ⟨s.sl,(s.V.drop q).app (.keep o g (.row ety 1 false (l.set i (.list nl xs))))⟩
    |_=>False
   |_=>K s
  |_=>K s
 |.frzM t=>match s.sl t with
  |.mref .out o g=>match s.V.get o g with
   |some (.mat _ _ nl ix rows)=>ZG ix rows=true/\K ⟨CO s.sl t (.d (.list nl (NN ix rows))),s.V.drop o⟩
   |_=>False
  |_=>K s
 |.frzA t=>match s.sl t with
  |.ptr o g 0=>match s.V.get o g with
   |some (.cells (c::l))=>K ⟨CO s.sl t (.ablk false (c::l) 0),s.V.drop o⟩
   |_=>False
  |_=>K s
 |.frzC t off=>match s.sl t with
  |.ptr b g f=>match s.V.get b g with
   |some (.cells xs)=>match xs[f+off]? with
    |some (.own o p)=>match s.V.get o p with
     |some (.row _ _ nl l)=>K ⟨s.sl,(s.V.drop o).app (.keep b g (.cells (xs.set (f+off) (.d (.list nl l)))))⟩
     |_=>False
    |some (.mref .out o p)=>match s.V.get o p with
     |some (.mat _ _ nl ix rows)=>ZG ix rows=true/\K ⟨s.sl,(s.V.drop o).app (.keep b g (.cells (xs.set (f+off) (.d (.list nl (NN ix rows))))))⟩
     |_=>False
    |some (.map o p)=>match s.V.get o p with
     |some (.mapB tys es _)=>K ⟨s.sl,(s.V.drop o).app (.keep b g (.cells (xs.set (f+off) (.d (.map tys (es.map (·.2)))))))⟩
     |_=>False
    |_=>K s
   |_=>K s
  |_=>K s
 |.ownM t o e1 e2=>match s.sl t with
  |.d (.list true [])=>o<C_/\K ⟨CO s.sl t (.mref .out o (s.V.cn o)),s.V.app (.fresh o (.mat e1 e2 true [] []))⟩
  |_=>K s
 |.own t o ety es=>match s.sl t with
  |.d (.list true [])=>o<C_/\K ⟨CO s.sl t (.own o (s.V.cn o)),s.V.app (.fresh o (.row ety es true []))⟩
  |_=>K s
 |.ownC t off o ety es=>match s.sl t with
  |.ptr b g f=>match s.V.get b g with
   |some (.cells xs)=>match xs[f+off]? with
    |some (.d (.list true []))=>o<C_/\o≠b/\K ⟨s.sl,(s.V.app (.fresh o (.row ety es true []))).app (.keep b g (.cells (xs.set (f+off) (.own o (s.V.cn o)))))⟩
    |_=>K s
   |_=>K s
  |_=>K s
 |.ownMC t off o e1 e2=>match s.sl t with
  |.ptr b g f=>match s.V.get b g with
   |some (.cells xs)=>match xs[f+off]? with
    |some (.d (.list true []))=>o<C_/\o≠b/\K ⟨s.sl,(s.V.app (.fresh o (.mat e1 e2 true [] []))).app (.keep b g (.cells (xs.set (f+off) (.mref .out o (s.V.cn o)))))⟩
    |_=>K s
   |_=>K s
  |_=>K s
 |.drop o=>K ⟨s.sl,s.V.drop o⟩
 |.only os=>K ⟨s.sl,s.V.keep os⟩
 |.ownR t e2=>match s.sl t with
  |.own o g=>match s.V.get o g with
   |some (.row e1 es nl l)=>nl=false/\es=1/\o<C_/\(∀x,x∈l->x=.list true []) /\
     K ⟨CO s.sl t (.mref .out o (s.V.cn o)),s.V.app (.fresh o (.mat e1 e2 false (List.range l.length) (List.replicate l.length (true,[]))))⟩
   |_=>False
  |_=>K s
 |.unr t k=>match s.sl t with
  |.ptr o g 0=>match s.V.get o g with
   |some (.cells (c::l))=>K ⟨CO s.sl t (.ablk false (Sv o g (c::l) k) 0),s.V.drop o⟩
   |_=>False
  |_=>K s
 |.bump t=>match s.sl t with
  |.own o g=>match s.V.get o g with
   |some (.row ety es nl l)=>o<C_/\K ⟨CO s.sl t (.own o (s.V.cn o)),s.V.app (.fresh o (.row ety es nl l))⟩
   |some (.rowP ety es P)=>o<C_/\∀nl l,P nl l->K ⟨CO s.sl t (.own o (s.V.cn o)),s.V.app (.fresh o (.row ety es nl l))⟩
   |_=>K s
  |_=>K s
 |.down ks os=>lw (nX os (s.nrm ks os).V) (s.nrm ks os) K
def CL:List EE->Bg->(Bg->Prop)->Prop
 |[],s,K=>K s
 |g::gs,s,K=>GZ g s fun s'=>CL gs s' K
inductive B7 where
 |normal|exit (id:Nat)|ret
inductive iE where
 |done
 |step (I:Ew) (r:iE)
 |both (a b:iE)
def MW (E:CW):iE->Bg->(Bg->Prop)->Prop
 |.done,s,K=>K s
 |.step I r,s,K=>El E I s fun v ch=>MW E r (put s I.dst v ch) K
 |.both a b,s,K=>MW E a s K/\MW E b s K
def hY (f:Nat->Option iE):List Nat->Option iE
 |[]=>some .done
 |[i]=>f i
 |i::j::l=>match f i,hY f (j::l) with
  |some a,some b=>some (.both a b)
  |_,_=>none
def Tr (ops:Array Oper) (is:List Ew):Nat->Array Bool->Option iE
 |0,listed=>if Region.ready .any ops listed=[] then some .done else none
 |n+1,listed=>hY (fun i=>match is[i]?,Tr ops is n (listed.setIfInBounds i true) with
  |some I,some r=>some (.step I r)
  |_,_=>none) (Region.ready .any ops listed)
inductive PC where
 |skip
 |reg (gs:List EE) (l:List Ew) (ks:List Nat)
 |draw (gs:List EE) (l:List (Ew×List Nat)) (ks:List Nat)
 |any (gs:List EE) (t:iE) (ks:List Nat)
 |seq (a b:PC)
 |cond (c:Hd) (a b:PC)
 |block (id:Nat) (a:PC)
 |loop (gs:List EE) (ks os:List Nat) (a:PC)
 |exit (id:Nat)
 |ret
 |dead
 |scope (a:PC)
 |lab
 |rngF (gs:List EE) (g:Hd) (ps ks os:List Nat) (b:PC) (gs2:List EE) (os2:List Nat) (a:PC)
 |nxt (gs:List EE) (dst:Option Nat) (it:Hd) (l2:List Ew) (ks:List Nat)
 |yld (gs:List EE) (l1:List Ew) (dst:Option Nat) (y:Hd) (xs:List Hd) (l2:List Ew) (ks:List Nat)
 |ydr (gs:List EE) (l1:List (Ew×List Nat)) (gd:Option (Nat×Bool)) (dst:Option Nat) (y:Hd) (xs:List Hd) (l2:List Ew) (ks:List Nat)
def Up (E:CW) (v:AV) (K:FuncId->List D->List D->Prop):Prop :=
 match v with
 |.bnd f cs=>match FB cs with
  |some ds=>Bk E.P f=true/\K f ds []
  |none=>False
 |.d (.fn f cs)=>Bk E.P f=true/\K f [] cs
 |_=>False
theorem ek {E:CW}{v:AV}{K:FuncId->List D->List D->Prop}{w:World}{fb:Nat->Prop}{β:Nat->Nat->Value}{cn:Nat->Nat}{u:Value}(h:Up E v K) (hv:AM w fb β cn v u) :
  ∃f pre post vs caps,u=.func (.func f) vs caps/\vs.size=pre.length/\caps.size=post.length/\(∀(i:Nat) (d:D) (v:Value),pre[i]?=some d->vs[i]?=some v->Az w fb d v) /\
   (∀(i:Nat) (d:D) (v:Value),post[i]?=some d->caps[i]?=some v->Az w fb d v)/\Bk E.P f=true/\K f pre post:=by
 unfold Up at h
 split at h
 ·rename_i f cs
  split at h
  ·rename_i ds hds
   unfold FB at hds
   cases hv with|bnd _ _ vs hl hh =>
   exact⟨f,ds,[],vs,#[],rfl,by rw[Aw hds];exact hl,rfl,fun i d v hd hv=>by
    obtain⟨z,hz,hzd⟩:=Bi hds hd
    exact(CD (hh i z v hz hv) hzd).1,fun i d v hd=>by simp at hd,h.1,h.2⟩
  ·exact h.elim
 ·rename_i f cs
  cases hv with|d _ _ hv=>cases hv with|fn _ _ vs hl hh=>exact⟨f,[],cs,#[],vs,rfl,rfl,hl,fun i d v hd=>by simp at hd,hh,h.1,h.2⟩
 ·exact h.elim
def Fx (ks:List Nat) (sl:Nat->AV) (V:AL):Bool:=ks.all fun k=>(sl k).sites.all fun o=>match V.ob o with|some (g,_)=>g == 0|none=>false
def Ms (A:Bg->Prop):B7->Bg->Prop
 |.normal,s=>A s
 |_,_=>False
def qu (JJ:Nat->AL->Prop) (Pd:B7->AL->Prop) (m:Nat):B7->AL->Prop
 |.normal,V=>JJ m V
 |e,V=>Pd e V
def mt (JJ:Nat->AL->Prop) (Pd:B7->AL->Prop) (m:Nat) (gs:List EE) (ks os:List Nat) (sl:Nat->AV) (e:B7) (s:Bg):Prop :=
 CL gs s fun s'=>Fx ks sl (s'.V.nrm os)=true/\qu JJ Pd m e (s'.V.nrm os)
def PC.noR:PC->Bool
 |.seq a b=>a.noR && b.noR
 |.cond _ a b=>a.noR && b.noR
 |.block _ a=>a.noR
 |.loop _ _ _ a=>a.noR
 |.scope a=>a.noR
 |.rngF ..=>false
 |_=>true
def KD (A:Bg->Prop) (Q:B7->Bg->Prop):B7->Bg->Prop
 |.normal,s=>A s
 |e,s=>Q e s
def J8 (id:Nat) (Q:B7->Bg->Prop):B7->Bg->Prop
 |.exit i,s=>if i=id then Q .normal s else Q (.exit i) s
 |e,s=>Q e s
def SU (v:AV) (A B:Prop):Prop :=
 match v with
 |.d (.bool b)=>HP b A B
 |_=>False
def PE (E:CW) (y:AV) (xs:List AV) (V:AL) (K:AV->B3->Prop):Prop :=
 match y with
 |.fn f cs=>Bk E.P f=true/\∃o els n Post,V.get o 0=some (.hist els n false)/\AV.onlyH.allH o (xs++cs)=true/\qO E f o (xs++cs) els n Post /\
   ∀n1 st1 r,Post n1 st1 r->r.flat=true/\K (up r) (.keep o 0 (.hist els n1 st1))
 |.own o g=>match V.get o g with
  |some (.hist els n false)=>match FB xs with
   |some ds=>∃k,els.nx n ds k/\K (.d (.bool true)) (.keep o g (.hist els k false))/\K (.d (.bool false)) (.keep o g (.hist els k true))
   |none=>False
  |_=>False
 |_=>False
def N3 (x:AV) (V:AL) (K:AV->B3->Prop):Prop :=
 match x with
 |.ptr o g 0=>match V.get o g with
  |some (.mitO mo mg n seen)=>match V.get mo mg with
   |some ob=>match ob.ents with
    |some (es,cl)=>cl=n/\(∀e,e∈es->seen.contains e.1=false->K (.tup [.d (.bool true),.undef,.undef]) (.keep o g (.mitO mo mg n (seen++[e.1])))) /\
     ((∀e,e∈es->seen.contains e.1=true)->K (.tup [.d (.bool false)]) .none)
    |none=>False
   |none=>False
  |some (.mitD tys kvs seen)=>(∀i,i<kvs.length->seen.contains i=false->K (.tup [.d (.bool true),.undef,.undef]) (.keep o g (.mitD tys kvs (seen++[i])))) /\
    ((∀i,i<kvs.length->seen.contains i=true)->K (.tup [.d (.bool false)]) .none)
  |_=>False
 |_=>False
def fx (gd:Option (Nat×Bool)) (s:Bg) (A B:Prop):Prop :=
 match gd with
 |none=>A
 |some (t,b)=>match s.sl t with
  |.d (.bool b')=>HP (b == b') A B
  |.tup []=>B
  |_=>False
def pw (E:CW):PC->(B7->Bg->Prop)->Bg->Prop
 |.skip,Q,s=>Q .normal s
 |.reg gs l ks,Q,s=>CL gs s fun s'=>Gu E l s' fun s'=>Q .normal (s'.keep ks)
 |.draw gs l ks,Q,s=>CL gs s fun s'=>Qr E l [] s' fun s'=>Q .normal (s'.keep ks)
 |.any gs t ks,Q,s=>CL gs s fun s'=>MW E t s' fun s'=>Q .normal (s'.keep ks)
 |.seq a b,Q,s=>pw E a (KD (pw E b Q) Q) s
 |.cond c a b,Q,s=>SU (c.val s.sl) (pw E a Q s) (pw E b Q s)
 |.block id a,Q,s=>pw E a (J8 id Q) s
 |.loop gs ks os a,Q,s=>∃J:Nat->Bg->Prop,CL gs s (fun s1=>∃n,J n (s1.nrm ks os))/\∀n s',J n s'->pw E a (KD (fun s''=>CL gs s'' fun s1=>∃m,m<n/\J m (s1.nrm ks os)) Q) s'
 |.exit id,Q,s=>Q (.exit id) s
 |.ret,Q,s=>Q .ret s
 |.dead,Q,s=>False
 |.scope a,Q,s=>pw E a Q s
 |.lab,Q,s=>Q .normal s
 |.rngF gs g ps ks os b gs2 os2 a,Q,s=>CL gs s fun s0=>Up E (g.val s0.sl) fun f pre post=>(b.noR && a.noR)=true/\∃els,TG E f pre post els/\∃(JJ:Nat->AL->Prop) (Pd:B7->AL->Prop),
  Fx ks (s0.nrm ks os).mv.sl (s0.nrm ks os).mv.V=true/\JJ 0 (s0.nrm ks os).mv.V /\
  (∀n V ds k,V.cn=(fun _=>1)->els.nx n ds k->JJ n V->ps.length=ds.length /\
   pw E b (Ms fun s2=>pw E a (mt JJ Pd k gs2 ks os2 (s0.nrm ks os).mv.sl) s2) ⟨KE (s0.nrm ks os).mv.sl ps ds,V⟩) /\
  (∀n V,V.cn=(fun _=>1)->els.fin n->JJ n V->Q .normal ⟨(s0.nrm ks os).mv.sl,V⟩) /\
  ∀e V,V.cn=(fun _=>1)->Pd e V->Q e ⟨(s0.nrm ks os).mv.sl,V⟩
 |.nxt gs dst it l2 ks,Q,s=>CL gs s fun s0=>N3 (it.val s0.sl) s0.V fun v ch=>Gu E l2 (put s0 dst v ch) fun s'=>Q .normal (s'.keep ks)
 |.yld gs l1 dst y xs l2 ks,Q,s=>CL gs s fun s0=>Gu E l1 s0 fun s1=>PE E (y.val s1.sl) (xs.map (Hd.val s1.sl)) s1.V fun v ch=>Gu E l2 (put s1 dst v ch) fun s'=>Q .normal (s'.keep ks)
 |.ydr gs l1 gd dst y xs l2 ks,Q,s=>CL gs s fun s0=>Qr E l1 [] s0 fun s1=>fx gd s1 (PE E (y.val s1.sl) (xs.map (Hd.val s1.sl)) s1.V fun v ch=>Gu E l2 (put s1 dst v ch) fun s'=>Q .normal (s'.keep ks))
  (Gu E l2 (put s1 dst (.tup []) .none) fun s'=>Q .normal (s'.keep ks))
inductive DW (E:CW) (fl:List Nat) (ns:Nat):PC->Code->Prop
 |skip:DW E fl ns .skip .skip
 |reg {id ops gs l ks} (h:BV (Hz E false fl ns ops) ops=some l):DW E fl ns (.reg gs l ks) (.region id ops.toArray false)
 |draw {id ops gs l pre ks} (h:BV (Hz E true fl ns ops) ops=some (l.map (·.1))) (hok:nN ops pre l=true):DW E fl ns (.draw gs l ks) (.region id ops.toArray true)
 |any {id ops gs t is ks} (h:BV (Hz E true fl ns ops) ops=some is) (ht:Tr ops.toArray is ops.length (Array.replicate ops.length false)=some t):DW E fl ns (.any gs t ks) (.region id ops.toArray true)
 |seq {a b c d} (h:DW E fl ns a c) (h':DW E fl ns b d):DW E fl ns (.seq a b) (.seq c d)
 |cond {x y a b c d} (hx:Oi E x=some y) (h:DW E fl ns a c) (h':DW E fl ns b d):DW E fl ns (.cond y a b) (.cond x c d)
 |block {id a c} (h:DW E fl ns a c):DW E fl ns (.block id a) (.block id c)
 |loop {gs ks os a c} (h:DW E fl ns a c):DW E fl ns (.loop gs ks os a) (.loop c)
 |exit {id}:DW E fl ns (.exit id) (.exit id)
 |ret:DW E fl ns .ret .ret
 |dead {code}:DW E fl ns .dead code
 |scope {a c} (h:DW E fl ns a c):DW E fl ns (.scope a) (.scope c)
 |lab {l}:DW E fl ns .lab (.label l)
 |rngF {gs x g ps ks os b gs2 os2 a cb ca} (hx:Oi E x=some g) (hp:∀p,p∈ps->p<ns) (h:DW E fl ns b cb) (h':DW E fl ns a ca):DW E fl ns (.rngF gs g ps ks os b gs2 os2 a) (.rangeFunc x ps.toArray cb ca)
 |nxt {id o ops2 x y gs l2 ks} (h2:BV (Hz E false fl ns (o::ops2)) ops2=some l2)
  (ho:o.op=.next x false) (hg:o.guard=none) (hx:Oi E x=some y) (hd:∀t,o.dst=some t->t<ns) :
  DW E fl ns (.nxt gs o.dst y l2 ks) (.region id (o::ops2).toArray false)
 |yld {id ops1 o ops2 cl x y ys gs l1 l2 ks} (h1:BV (Hz E false fl ns (ops1++o::ops2)) ops1=some l1) (h2:BV (Hz E false fl ns (ops1++o::ops2)) ops2=some l2)
  (ho:o.op=.call cl) (hc:cl.callee=.value x) (hg:o.guard=none) (hx:Oi E x=some y) (hxs:Qa E cl.args.toList=some ys) (hd:∀t,o.dst=some t->t<ns) :
  DW E fl ns (.yld gs l1 o.dst y ys l2 ks) (.region id (ops1++o::ops2).toArray false)
 |ydr {id ops1 o ops2 cl x y ys gs l1 gd l2 ks pre} (h1:BV (Hz E true fl ns (ops1++o::ops2)) ops1=some (l1.map (·.1))) (h2:BV (Hz E true fl ns (ops1++o::ops2)) ops2=some l2)
  (ho:o.op=.call cl) (hc:cl.callee=.value x) (hg:dB ns (ops1++o::ops2) o.guard=some gd) (hx:Oi E x=some y) (hxs:Qa E cl.args.toList=some ys) (hd:∀t,o.dst=some t->t<ns)
  (hok:qW ops1 (o::ops2) pre l1=true):DW E fl ns (.ydr gs l1 gd o.dst y ys l2 ks) (.region id (ops1++o::ops2).toArray true)
variable {E:CW}{c:D_}{β:Nat->Nat->Value}{s:Bg}{a:Act}{w:World}
theorem Br.keepS {tm:Array Value}(h:Br E c β s tm w) (ks:List Nat):Br E c β (s.keep ks) tm w:=by
 refine⟨h.keep,h.low,h.glob,fun t=>?_,h.objs,h.sep,h.home,h.pin,h.hist⟩
 show AM w _ β _ (if ks.contains t then s.sl t else .undef) _
 split
 ·exact h.slots t
 ·exact .undef _
theorem DK {V:AL}{o o':Nat}{y:Nat×AW}(h:(V.drop o).ob o'=some y):V.ob o'=some y:=by
 simp only[AL.drop,CO] at h
 split at h
 ·cases h
 ·exact h
theorem fe {V:AL}{os:List Nat}{o':Nat}{y:Nat×AW}(h:(V.keep os).ob o'=some y):V.ob o'=some y:=by
 simp only[AL.keep] at h
 split at h
 ·exact h
 ·cases h
theorem LT (V:AL) (os:List Nat) (cs:List AV):AV.nrm.nrmL V os cs=cs.map (AV.nrm V os):=by
 induction cs with
 |nil=>rfl
 |cons x xs ih=>simp only[AV.nrm.nrmL,List.map_cons,ih]
def Ic (β:Nat->Nat->Value) (V:AL):Nat->Nat->Value:=fun o _=>match V.ob o with|some (g,_)=>β o g|none=>β o 0
theorem Gg {β:Nat->Nat->Value}{V:AL}{os:List Nat}{o g:Nat}(h:AV.nrm.live V os o g=true):Ic β V o 0=β o g:=by
 unfold AV.nrm.live at h
 simp only[Bool.and_eq_true] at h
 unfold Ic
 split at h
 ·rename_i g' x hx;simp at h;simp[h.2]
 ·simp at h
theorem AM.nrm {w:World}{fb fb':Nat->Prop}{β:Nat->Nat->Value}{cn:Nat->Nat}{V:AL}{os:List Nat}(hf:∀b,b<w.heap.size->fb' b->fb b) {a:AV}{v:Value}(h:AM w fb β cn a v) :
  AM w fb' (Ic β V) (fun _=>1) (a.nrm V os) v:=by
 induction h with
 |d x v h=>exact .d x v (h.mono (Ah.refl _ _) hf)
 |ex xs a h=>exact .ex xs a (h.mono (Ah.refl _ _) hf)
 |agg cs vs hl h1 h ih =>
  simp only[AV.nrm,LT]
  split
  ·rename_i hall
   refine .agg _ vs (by simp[hl]) (fun c hc=>List.all_eq_true.1 hall c hc) fun i c v hc hv=>?_
   rw[List.getElem?_map] at hc
   simp only[Option.map_eq_some_iff] at hc
   obtain⟨c0,h0,rfl⟩:=hc
   exact ih i c0 v h0 hv
  ·exact .undef _
 |ptr o g off b hg h =>
  simp only[AV.nrm]
  split
  ·rename_i hl;exact .ptr o 0 off b (by simp) ((Gg hl).trans h)
  ·exact .undef _
 |rptr o g es i off b b0 n cap hg h =>
  simp only[AV.nrm]
  split
  ·rename_i hl;exact .rptr o 0 es i off b b0 n cap (by simp) ((Gg hl).trans h)
  ·exact .undef _
 |dptr cs off b base vs hb hne h1 hc hv =>
  cases cs with
  |nil=>exact absurd rfl hne
  |cons x xs =>
   have hlt:b<w.heap.size:=CK (hc 0 x (by simp))
   exact .dptr _ off b base vs (fun hh=>hb (hf b hlt hh)) hne h1 hc fun j c h1=>(hv j c h1).mono (Ah.refl _ _) hf
 |own o g hg h1 =>
  simp only[AV.nrm]
  split
  ·rename_i hl;rw[←Gg (β:=β) hl] at h1 ⊢;exact .own o 0 (by simp) h1
  ·exact .undef _
 |map o g hg h1 =>
  simp only[AV.nrm]
  split
  ·rename_i hl;rw[←Gg (β:=β) hl] at h1 ⊢;exact .map o 0 (by simp) h1
  ·exact .undef _
 |fn f cs vs hl h ih =>
  simp only[AV.nrm,LT]
  refine .fn f _ vs (by simp[hl]) fun i c v hc hv=>?_
  rw[List.getElem?_map] at hc
  simp only[Option.map_eq_some_iff] at hc
  obtain⟨c0,h0,rfl⟩:=hc
  exact ih i c0 v h0 hv
 |tup cs vs hl h ih =>
  simp only[AV.nrm,LT]
  refine .tup _ vs (by simp[hl]) fun i c v hc hv=>?_
  rw[List.getElem?_map] at hc
  simp only[Option.map_eq_some_iff] at hc
  obtain⟨c0,h0,rfl⟩:=hc
  exact ih i c0 v h0 hv
 |undef v=>exact .undef v
 |bnd f cs vs hl h ih =>
  simp only[AV.nrm,LT]
  refine .bnd f _ vs (by simp[hl]) fun i c v hc hv=>?_
  rw[List.getElem?_map] at hc
  simp only[Option.map_eq_some_iff] at hc
  obtain⟨c0,h0,rfl⟩:=hc
  exact ih i c0 v h0 hv
 |mref k o g u hg h h1 =>
  simp only[AV.nrm]
  split
  ·rename_i hl;exact .mref k o 0 u (by simp) (by rw[Gg hl];exact h) h1
  ·exact .undef _
 |ablk sl cs off b base vs u hb hne h1 hc hv hu ih =>
  simp only[AV.nrm,LT]
  split
  ·rename_i hall
   cases cs with
   |nil=>exact absurd rfl hne
   |cons x xs =>
    have hlt:b<w.heap.size:=CK (hc 0 x (by simp))
    refine .ablk sl _ off b base vs u (fun hh=>hb (hf b hlt hh)) (by simp) (fun c hc=>List.all_eq_true.1 hall c hc) (fun j c hj=>?_) (fun j c hj=>?_) (by simpa using hu)
    all_goals
     rw[List.getElem?_map] at hj
     simp only[Option.map_eq_some_iff] at hj
     obtain⟨c0,h0,rfl⟩:=hj
    ·exact hc j c0 h0
    ·exact ih j c0 h0
  ·exact .undef _
theorem AL.nrm_ob {V:AL}{os:List Nat}{o g:Nat}{y:AW}(h:(V.nrm os).ob o=some (g,y)):g=0/\∃g' x,V.ob o=some (g',x)/\x.nrm V os=some y:=by
 simp only[AL.nrm] at h
 split at h
 ·split at h
  ·rename_i g' x hx
   split at h
   ·rename_i y' hy
    simp at h;obtain⟨rfl,rfl⟩:=h
    exact⟨rfl,g',x,hx,hy⟩
   ·cases h
  ·cases h
 ·cases h
theorem GK {β:Nat->Nat->Value}{V:AL}{os:List Nat}{o g:Nat}{y:AW}(h:(V.nrm os).ob o=some (g,y)):∃g' x,V.ob o=some (g',x)/\x.nrm V os=some y/\Ic β V o g=β o g':=by
 obtain⟨rfl,g',x,h1,h2⟩:=AL.nrm_ob h
 exact⟨g',x,h1,h2,by simp[Ic,h1]⟩
theorem Dn.nrm {w:World}{fb fb':Nat->Prop}{β:Nat->Nat->Value}{cn:Nat->Nat}{V:AL}{os:List Nat}(hf:∀b,b<w.heap.size->fb' b->fb b) {x y:AW}{v:Value}(h:Dn w fb β cn x v) (hy:x.nrm V os=some y) :
  Dn w fb' (Ic β V) (fun _=>1) y v:=by
 cases h with
 |cells xs b cur e hb hl h1 h =>
  simp only[AW.nrm] at hy
  split at hy
  ·rename_i hall
   simp at hy;subst hy
   refine .cells _ b cur e hb (by simp[hl]) (fun z hz=>List.all_eq_true.1 hall z hz) fun i z u hz hu=>?_
   rw[List.getElem?_map] at hz
   simp only[Option.map_eq_some_iff] at hz
   obtain⟨z0,h0,rfl⟩:=hz
   exact(h i z0 u h0 hu).nrm hf
  ·cases hy
 |row ety es nil xs v h =>
  simp[AW.nrm] at hy;subst hy
  exact .row _ _ _ _ _ (h.mono (Ah.refl _ _) hf fun _ _ _=>rfl)
 |map tys kvs b es hb hl h =>
  simp[AW.nrm] at hy;subst hy
  exact .map tys kvs b es hb hl fun i kv e hk he=>by
   obtain⟨h1,h2,h3,h4⟩:=h i kv e hk he
   exact⟨h1,h2.mono (Ah.refl _ _) hf,h3.mono (Ah.refl _ _) hf,h4⟩
 |mapB tys ks cl b es hb hl hr h =>
  simp[AW.nrm] at hy;subst hy
  exact .mapB tys ks cl b es hb hl hr fun i k e hk he=>by
   obtain⟨h1,h2,h3,h4⟩:=h i k e hk he
   exact⟨h1,h2.mono (Ah.refl _ _) hf,h3.mono (Ah.refl _ _) hf,h4⟩
 |mitO q p n seen b m hg hm hb =>
  simp only[AW.nrm] at hy
  split at hy
  ·rename_i hl
   simp at hy;subst hy
   exact .mitO q 0 n seen b m (by simp) ((Gg (β:=β) hl).trans hm) hb
  ·cases hy
 |mitD tys kvs seen b m es cl sn hm hh hl hr hb hs hsn h =>
  simp[AW.nrm] at hy;subst hy
  have hlm:m<w.heap.size:=(Array.getElem?_eq_some_iff.1 hh).1
  exact .mitD tys kvs seen b m es cl sn (fun h=>hm (hf m hlm h)) hh hl hr hb hs hsn fun i kv e hk he=>by
   obtain⟨h1,h2⟩:=h i kv e hk he
   exact⟨h1.mono (Ah.refl _ _) hf,h2.mono (Ah.refl _ _) hf⟩
 |hist els n st l=>simp[AW.nrm] at hy;subst hy;exact .hist els n st l
 |rowP=>simp[AW.nrm] at hy
 |mat e1 e2 nil ix rows v h =>
  simp[AW.nrm] at hy;subst hy
  exact .mat _ _ _ _ _ _ (h.mono (Ah.refl _ _) hf fun _ _ _=>rfl)
 |rowH ety xs i q p v h =>
  simp only[AW.nrm] at hy
  split at hy
  ·rename_i hl
   simp at hy;subst hy
   have hb:=Gg (β:=β) hl
   obtain⟨b,off,cap,cur,h2,h3,h4,h5,h6,h8,h10,⟨k1,k2,k3,k4⟩,h9⟩:=h
   refine .rowH _ _ _ _ _ _ ⟨b,off,cap,cur,h2,h3,h4,h5,h6,h8,h10,⟨k1,by rw[hb];exact k2,by simp,by rw[hb];exact k4⟩,fun j x c hj hx hc=>?_⟩
   obtain⟨u,hu,hd⟩:=h9 j x c hj hx hc
   exact⟨u,hu,hd.mono (Ah.refl _ _) hf⟩
  ·cases hy
theorem fP {V:AL}{os:List Nat}{x:AW} {els n st} (h:x.nrm V os=some (.hist els n st)):x=.hist els n st:=by
 cases x with
 |cells xs=>simp only[AW.nrm] at h;split at h<;>simp at h
 |row _ _ _ _=>simp[AW.nrm] at h
 |map _ _=>simp[AW.nrm] at h
 |mat _ _ _ _ _=>simp[AW.nrm] at h
 |rowP=>simp[AW.nrm] at h
 |rowH _ _ _ _ _=>simp only[AW.nrm] at h;split at h<;>simp at h
 |mapB _ _ _=>simp[AW.nrm] at h
 |mitO _ _ _ _=>simp only[AW.nrm] at h;split at h<;>simp at h
 |mitD _ _ _=>simp[AW.nrm] at h
 |hist _ _ _=>simp only[AW.nrm,Option.some.injEq] at h;exact h
theorem Br.nrmS {tm:Array Value}(h:Br E c β s tm w) (ks os:List Nat):Br E c (Ic β s.V) (s.nrm ks os) tm w:=by
 have hbar:∀b,c.bar (Ic β s.V) (s.V.nrm os) b->c.bar β s.V b:=by
  intro b hh
  rcases hh with hh|⟨o',g',x',h1,h2⟩
  ·exact .inl hh
  ·obtain⟨g1,x1,h3,_,h4⟩:=GK (β:=β) h1
   exact .inr ⟨o',g1,x1,h3,by rw[←h4];exact h2⟩
 refine⟨h.keep,h.low,fun g cs hg=>(h.glob g cs hg).mono (Ah.refl _ _) fun b _=>hbar b,fun t=>?_,fun o g x hx=>?_,fun o1 o2 g1 g2 x1 x2 b h1 h2 h3 h4=>?_,fun o g x b hx hb=>?_,fun o g x ho hx=>?_,fun o g els n st hx=>?_⟩
 ·show AM w _ _ _ (if ks.contains t then (s.sl t).nrm s.V os else .undef) _
  split
  ·exact(h.slots t).nrm fun b _=>hbar b
  ·exact .undef _
 ·obtain⟨rfl,_⟩:=AL.nrm_ob hx
  obtain⟨g1,x1,h3,h5,h4⟩:=GK (β:=β) hx
  refine⟨by simp[Bg.nrm,AL.nrm],?_⟩
  rw[h4]
  exact(h.objs _ _ _ h3).2.nrm (fun b _=>hbar b) h5
 ·obtain⟨k1,y1,e1,_,e2⟩:=GK (β:=β) h1
  obtain⟨k2,y2,e3,_,e4⟩:=GK (β:=β) h2
  exact h.sep _ _ _ _ _ _ b e1 e3 (by rw[←e2];exact h3) (by rw[←e4];exact h4)
 ·obtain⟨k1,y1,e1,_,e2⟩:=GK (β:=β) hx
  exact h.home _ _ _ b e1 (by rw[←e2];exact hb)
 ·obtain⟨k1,y1,e1,_,e2⟩:=GK (β:=β) hx
  rw[e2];exact h.pin _ _ _ ho e1
 ·obtain⟨k1,y1,e1,e3,e2⟩:=GK (β:=β) hx
  have:=fP e3;subst this
  rw[e2];exact h.hist _ _ _ _ _ e1
theorem AM.sw {w:World}{fb fb':Nat->Prop}{β:Nat->Nat->Value}(hf:∀b,b<w.heap.size->fb' b->fb b) {a:AV}{v:Value}(h:AM w fb β (fun _=>1) a v):AM w fb' (fun o g=>β (NC o) g) (fun _=>1) a.sw v:=by
 induction h with
 |d x v h=>exact .d x v (h.mono (Ah.refl _ _) hf)
 |ex xs a h=>exact .ex xs a (h.mono (Ah.refl _ _) hf)
 |agg cs vs hl h1 h ih =>
  simp only[AV.sw,Nm]
  refine .agg _ vs (by simp[hl]) (fun c hc=>?_) fun i c v hc hv=>?_
  ·obtain⟨c0,h0,rfl⟩:=List.mem_map.1 hc
   rw[X'];exact h1 c0 h0
  ·rw[List.getElem?_map] at hc
   simp only[Option.map_eq_some_iff] at hc
   obtain⟨c0,h0,rfl⟩:=hc
   exact ih i c0 v h0 hv
 |ptr o g off b hg h=>exact .ptr (NC o) g off b hg (by rw[Fu];exact h)
 |rptr o g es i off b b0 n cap hg h=>exact .rptr (NC o) g es i off b b0 n cap hg (by rw[Fu];exact h)
 |dptr cs off b base vs hb hne h1 hc hv =>
  cases cs with
  |nil=>exact absurd rfl hne
  |cons x xs =>
   have hlt:b<w.heap.size:=CK (hc 0 x (by simp))
   exact .dptr _ off b base vs (fun hh=>hb (hf b hlt hh)) hne h1 hc fun j c h1=>(hv j c h1).mono (Ah.refl _ _) hf
 |own o g hg h1 =>
  have:=AM.own (w:=w) (fb:=fb') (β:=fun o g=>β (NC o) g) (cn:=fun _=>1) (NC o) g hg (by rw[Fu];exact h1)
  rw[Fu] at this;exact this
 |map o g hg h1 =>
  have:=AM.map (w:=w) (fb:=fb') (β:=fun o g=>β (NC o) g) (cn:=fun _=>1) (NC o) g hg (by rw[Fu];exact h1)
  rw[Fu] at this;exact this
 |fn f cs vs hl h ih =>
  simp only[AV.sw,Nm]
  refine .fn f _ vs (by simp[hl]) fun i c v hc hv=>?_
  rw[List.getElem?_map] at hc
  simp only[Option.map_eq_some_iff] at hc
  obtain⟨c0,h0,rfl⟩:=hc
  exact ih i c0 v h0 hv
 |tup cs vs hl h ih =>
  simp only[AV.sw,Nm]
  refine .tup _ vs (by simp[hl]) fun i c v hc hv=>?_
  rw[List.getElem?_map] at hc
  simp only[Option.map_eq_some_iff] at hc
  obtain⟨c0,h0,rfl⟩:=hc
  exact ih i c0 v h0 hv
 |undef v=>exact .undef v
 |bnd f cs vs hl h ih =>
  simp only[AV.sw,Nm]
  refine .bnd f _ vs (by simp[hl]) fun i c v hc hv=>?_
  rw[List.getElem?_map] at hc
  simp only[Option.map_eq_some_iff] at hc
  obtain⟨c0,h0,rfl⟩:=hc
  exact ih i c0 v h0 hv
 |mref k o g u hg h h1=>exact .mref k (NC o) g u hg (by rw[Fu];exact h) h1
 |ablk sl cs off b base vs u hb hne h1 hc hv hu ih =>
  simp only[AV.sw,Nm]
  cases cs with
  |nil=>exact absurd rfl hne
  |cons x xs =>
   have hlt:b<w.heap.size:=CK (hc 0 x (by simp))
   refine .ablk sl _ off b base vs u (fun hh=>hb (hf b hlt hh)) (by simp) (fun c hc=>?_) (fun j c hj=>?_) (fun j c hj=>?_) (by simpa using hu)
   ·obtain⟨c0,h0,rfl⟩:=List.mem_map.1 hc
    rw[X'];exact h1 c0 h0
   all_goals
    rw[List.getElem?_map] at hj
    simp only[Option.map_eq_some_iff] at hj
    obtain⟨c0,h0,rfl⟩:=hj
   ·exact hc j c0 h0
   ·exact ih j c0 h0
theorem Dn.sw {w:World}{fb fb':Nat->Prop}{β:Nat->Nat->Value}(hf:∀b,b<w.heap.size->fb' b->fb b) {x:AW}{v:Value}(h:Dn w fb β (fun _=>1) x v) (hx:∀els n st,x≠.hist els n st):Dn w fb' (fun o g=>β (NC o) g) (fun _=>1) x.sw v:=by
 cases h with
 |cells xs b cur e hb hl h1 h =>
  refine .cells _ b cur e hb (by simp[hl]) (fun z hz=>?_) fun i z u hz hu=>?_
  ·obtain⟨c0,h0,rfl⟩:=List.mem_map.1 hz
   rw[X'];exact h1 c0 h0
  ·rw[List.getElem?_map] at hz
   simp only[Option.map_eq_some_iff] at hz
   obtain⟨z0,h0,rfl⟩:=hz
   exact(h i z0 u h0 hu).sw hf
 |row ety es nil xs v h=>exact .row _ _ _ _ _ (h.mono (Ah.refl _ _) hf fun _ _ _=>rfl)
 |map tys kvs b es hb hl h =>
  exact .map tys kvs b es hb hl fun i kv e hk he=>by
   obtain⟨h1,h2,h3,h4⟩:=h i kv e hk he
   exact⟨h1,h2.mono (Ah.refl _ _) hf,h3.mono (Ah.refl _ _) hf,h4⟩
 |mapB tys ks cl b es hb hl hr h =>
  exact .mapB tys ks cl b es hb hl hr fun i k e hk he=>by
   obtain⟨h1,h2,h3,h4⟩:=h i k e hk he
   exact⟨h1,h2.mono (Ah.refl _ _) hf,h3.mono (Ah.refl _ _) hf,h4⟩
 |mitO q p n seen b m hg hm hb=>exact .mitO (NC q) p n seen b m hg (by rw[Fu];exact hm) hb
 |mitD tys kvs seen b m es cl sn hm hh hl hr hb hs hsn h =>
  have hlm:m<w.heap.size:=(Array.getElem?_eq_some_iff.1 hh).1
  exact .mitD tys kvs seen b m es cl sn (fun h=>hm (hf m hlm h)) hh hl hr hb hs hsn fun i kv e hk he=>by
   obtain⟨h1,h2⟩:=h i kv e hk he
   exact⟨h1.mono (Ah.refl _ _) hf,h2.mono (Ah.refl _ _) hf⟩
 |hist els n st l=>exact absurd rfl (hx els n st)
 |rowP ety es P nl xs v hp h=>exact .rowP _ _ _ _ _ _ hp (h.mono (Ah.refl _ _) hf fun _ _ _=>rfl)
 |mat e1 e2 nil ix rows v h=>exact .mat _ _ _ _ _ _ (h.mono (Ah.refl _ _) hf fun _ _ _=>rfl)
 |rowH ety xs i q p v h =>
  obtain⟨b,off,cap,cur,h2,h3,h4,h5,h6,h8,h10,⟨k1,k2,k3,k4⟩,h9⟩:=h
  refine .rowH _ _ _ _ _ _ ⟨b,off,cap,cur,h2,h3,h4,h5,h6,h8,h10,⟨k1,by show _=some (β (NC (NC q)) p);rw[Fu];exact k2,k3,by show (β (NC (NC q)) p).oneCell'=true;rw[Fu];exact k4⟩,fun j x c hj hx hc=>?_⟩
  obtain⟨u,hu,hd⟩:=h9 j x c hj hx hc
  exact⟨u,hu,hd.mono (Ah.refl _ _) hf⟩
theorem Hg {x:Option (Nat×AW)}{g:Nat}{y:AW}(h:qh x=some (g,y)):∃z,x=some (g,z)/\z.sw=y:=by
 cases x with
 |none=>cases h
 |some p =>
  obtain⟨g',z⟩:=p
  simp only[qh,Option.some.injEq,Prod.mk.injEq] at h
  exact⟨z,by rw[h.1],h.2⟩
theorem ir {x:AW} {els n st} (h:x.sw=.hist els n st):x=.hist els n st:=by cases x<;>simp[AW.sw] at h ⊢<;>exact h
theorem Br.sw {tm:Array Value}(h:Br E c β s tm w) (hcn:s.V.cn=fun _=>1) (hl:∀o g x,s.V.ob o=some (g,x)->C_<=o/\∀els n st,x≠.hist els n st):Br E c (fun o g=>β (NC o) g) s.sw tm w:=by
 have hbar:∀b,b<w.heap.size->c.bar (fun o g=>β (NC o) g) s.sw.V b->c.bar β s.V b:=fun b _ hb=>by
  rcases hb with hb|⟨o,g,y,h1,h2⟩
  ·exact .inl hb
  ·obtain⟨x,h3,_⟩:=Hg h1
   exact .inr ⟨_,g,x,h3,h2⟩
 refine⟨h.keep,h.low,fun gg cs hgg=>(h.glob gg cs hgg).mono (Ah.refl _ _) hbar,fun t=>?_,fun o g y hy=>?_,fun o o' g g' x x' b h1 h2 h3 h4=>?_,fun o g y b h1 h2=>?_,fun o g y ho h1=>?_,fun o g els n st h1=>?_⟩
 ·have:=h.slots t;rw[hcn] at this;exact this.sw hbar
 ·obtain⟨x,h3,h4⟩:=Hg hy
  obtain⟨k1,k2⟩:=h.objs _ g x h3
  rw[hcn] at k1 k2
  rw[←h4]
  exact⟨k1,k2.sw hbar (hl _ _ _ h3).2⟩
 ·obtain⟨y1,k1,_⟩:=Hg h1
  obtain⟨y2,k2,_⟩:=Hg h2
  have:=h.sep _ _ _ _ _ _ b k1 k2 h3 h4
  rw[←Fu o,this,Fu]
 ·obtain⟨x,h3,_⟩:=Hg h1
  exact h.home _ g x b h3 h2
 ·obtain⟨x,h3,_⟩:=Hg h1
  have h5:=(hl _ _ _ h3).1
  have hsw:NC o=o:=by
   unfold NC C_ at *
   split
   ·omega
   ·split
    ·rename_i h6 h7;rw[if_neg h6,if_pos h7] at h5;omega
    ·rfl
  show β (NC o) g=c.b0 o
  rw[hsw] at h3 ⊢
  exact h.pin o g x ho h3
 ·obtain⟨x,h3,h4⟩:=Hg h1
  have:=ir h4
  exact absurd this ((hl _ _ _ h3).2 _ _ _)
theorem fZ {os:List Nat}{V:AL}(h:nX os (V.nrm os)=true) {o g:Nat}{x:AW}(hx:(V.nrm os).ob o=some (g,x)):C_<=o/\∀els n st,x≠.hist els n st:=by
 have ho:o∈os:=by
  simp only[AL.nrm] at hx
  split at hx
  ·rename_i hc;exact List.contains_iff_mem.1 hc
  ·cases hx
 have:=List.all_eq_true.1 h o ho
 rw[hx] at this
 refine⟨?_,fun els n st he=>by subst he;cases this⟩
 unfold pg at this
 split at this
 ·cases this
 ·simpa using this
 ·rename_i he;cases he
theorem We {tm:Array Value}{g:EE}{K:Bg->Prop}(h:Br E c β s tm w) (hg:GZ g s K):∃s' β',K s'/\Br E c β' s' tm w:=by
 unfold GZ at hg
 split at hg
 ·rename_i t
  split at hg
  ·rename_i o g hs
   split at hg
   ·rename_i ety es nl l hget
    refine⟨_,β,hg,?_⟩
    have hdrop:Br E c β ⟨s.sl,s.V.drop o⟩ tm w:=h.drop rfl rfl fun o' y hy=>by
     exact DK hy
    obtain⟨_,ho⟩:=h.objs _ _ _ (AL.get_some hget)
    have hsl:=h.slots t
    rw[hs] at hsl
    refine⟨hdrop.keep,hdrop.low,hdrop.glob,fun t'=>?_,hdrop.objs,hdrop.sep,hdrop.home,hdrop.pin,hdrop.hist⟩
    simp only[CO]
    split
    ·rename_i e;subst e
     generalize hu:tm.getD t' undef=u at hsl ⊢
     cases hsl with
     |own _ _ hgg hone =>
      generalize hv:β o g=v at ho
      cases ho with
      |row _ _ _ _ _ ho =>
       have ho':CM w (c.bar β (s.V.drop o)) ety es nl l v:=ho.mono (Ah.refl _ _) (fun b _ hb=>by
        rcases hb with hb|⟨o',g',x',h2,h3⟩
        ·exact .inl hb
        ·simp only[AL.drop,CO] at h2
         split at h2
         ·cases h2
         ·exact .inr ⟨o',g',x',h2,h3⟩) fun _ _ _=>rfl
       refine .d _ _ (C4 ho' fun b hb hbar=>?_)
       rcases hbar with hbar|⟨o',g',x',h2,h3⟩
       ·exact(h.home o g _ b (AL.get_some hget) (by rw[hv];exact hb)).2.2 hbar
       ·simp only[AL.drop,CO] at h2
        split at h2
        ·cases h2
        ·rename_i hne
         exact hne (h.sep o' o g' g x' _ b h2 (AL.get_some hget) h3 (by rw[hv];exact hb))
    ·exact hdrop.slots t'
   ·exact hg.elim
  ·exact⟨_,β,hg,h⟩
 ·rename_i t
  split at hg
  ·rename_i o g hs
   split at hg
   ·rename_i xs hget
    split at hg
    ·rename_i c0 l hl
     refine⟨_,β,hg,?_⟩
     have hdrop:Br E c β ⟨s.sl,s.V.drop o⟩ tm w:=h.drop rfl rfl fun o' y hy=>by
      exact DK hy
     have hob:=AL.get_some hget
     obtain⟨_,ho⟩:=h.objs _ _ _ hob
     have hsl:=h.slots t
     rw[hs] at hsl
     refine⟨hdrop.keep,hdrop.low,hdrop.glob,fun t'=>?_,hdrop.objs,hdrop.sep,hdrop.home,hdrop.pin,hdrop.hist⟩
     simp only[CO]
     split
     ·rename_i e;subst e
      generalize hu:tm.getD t' undef=u at hsl ⊢
      cases hsl with|ptr _ _ _ b hlt hβ =>
      rw[hβ] at ho
      cases ho with|cells _ _ cur e hb hlen h1 hr =>
      have weak:∀{d:D}{u:Value},Az w (c.bar β s.V) d u->Az w (c.bar β (s.V.drop o)) d u:=fun h=>h.mono (Ah.refl _ _) fun b _ hb=>by
       rcases hb with hb|⟨o',g',x',h2,h3⟩
       ·exact .inl hb
       ·exact .inr ⟨o',g',x',DK h2,h3⟩
      refine .d _ _ (.ptr (c0::l) b 0 (fun j=>cur.getD j undef) (fun hbar=>?_) (by simp) (fun y hy=>?_) (fun j y hj=>?_) (fun j y hj=>?_))
      ·rcases hbar with hbar|⟨o',g',x',h2,h3⟩
       ·exact(h.home o g _ b hob (by rw[hβ];exact rfl)).2.2 hbar
       ·simp only[AL.drop,CO] at h2
        split at h2
        ·cases h2
        ·rename_i hne
         exact hne (h.sep o' o g' g x' _ b h2 hob h3 (by rw[hβ];exact rfl))
      ·obtain⟨x,hx,hxy⟩:=EL hl hy
       obtain⟨i,hi⟩:=List.getElem?_of_mem hx
       obtain⟨v,hv⟩:∃v,cur[i]?=some v:=⟨_,Array.getElem?_eq_getElem (by have:=(List.getElem?_eq_some_iff.1 hi).1;omega)⟩
       exact(CD (hr i x v hi hv) hxy).2 (h1 x hx)
      ·obtain⟨x,hx,hxy⟩:=Bi hl hj
       have hlt:j<cur.size:=by have:=(List.getElem?_eq_some_iff.1 hx).1;omega
       rw[Nat.zero_add,CC hb,Array.getElem?_eq_getElem hlt];simp[Array.getD_eq_getD_getElem?,hlt]
      ·obtain⟨x,hx,hxy⟩:=Bi hl hj
       have hlt:j<cur.size:=by have:=(List.getElem?_eq_some_iff.1 hx).1;omega
       have:=(CD (hr j x _ hx (Array.getElem?_eq_getElem hlt)) hxy).1
       simp only[Array.getD_eq_getD_getElem?,Array.getElem?_eq_getElem hlt,Option.getD_some];exact weak this
     ·exact hdrop.slots t'
    ·exact hg.elim
   ·exact hg.elim
  ·exact⟨_,β,hg,h⟩
 ·rename_i t
  split at hg
  ·rename_i o g hs
   split at hg
   ·rename_i ety l i q p hget
    split at hg
    ·rename_i e2 es2 nl xs hget2
     have hob:=AL.get_some hget
     have hob2:=AL.get_some hget2
     have hne:o≠q:=fun e=>by subst e;rw[hob] at hob2;simp at hob2
     have hd:Br E c β ⟨s.sl,s.V.drop q⟩ tm w:=h.drop rfl rfl fun o' y hy=>by
      exact DK hy
     have hob3:(s.V.drop q).ob o=some (g,.rowH ety l i q p):=by simp[AL.drop,CO,hne,hob]
     refine⟨_,β,hg,Br.kept hd (x:=.row ety 1 false (l.set i (.list nl xs))) hob3 (FR.refl _ _) fun fb' hf hfe=>?_⟩
     obtain⟨_,ho⟩:=hd.objs _ _ _ hob3
     obtain⟨hqlt,ho2⟩:=h.objs _ _ _ hob2
     obtain⟨v,hv⟩:∃v,β o g=v:=⟨_,rfl⟩
     rw[hv] at ho ⊢
     cases ho with
     |rowH _ _ _ _ _ _ ho =>
      obtain⟨b,off,cap,cur,h2,h3,h4,h5,h6,h8,h10,⟨k1,k2,k3,k4⟩,h9⟩:=ho
      obtain⟨v2,hv2⟩:∃v2,β q p=v2:=⟨_,rfl⟩
      rw[hv2] at ho2 k2
      cases ho2 with
      |row _ _ _ _ _ ho2 =>
       have hrow:Az w (c.bar β (s.V.drop q)) (.list nl xs) v2:=by
        refine C4 (ho2.mono (Ah.refl _ _) (fun b _ hb=>by
         rcases hb with hb|⟨o',g',x',h2,h3⟩
         ·exact .inl hb
         ·exact .inr ⟨o',g',x',DK h2,h3⟩) fun _ _ _=>rfl) fun b hb hbar=>?_
        rcases hbar with hbar|⟨o',g',x',h2,h3⟩
        ·exact(h.home q p _ b hob2 (by rw[hv2];exact hb)).2.2 hbar
        ·simp only[AL.drop,CO] at h2
         split at h2
         ·cases h2
         ·rename_i hne
          exact hne (h.sep o' q g' p x' _ b h2 hob2 h3 (by rw[hv2];exact hb))
       refine .row _ _ _ _ _ (.inr ⟨rfl,b,off,cap,cur,by simpa using h2,h3,by simpa using h4,h5,h6,Nat.one_pos,fun x hx=>?_,fun x cc hx hc=>?_,fun j x m cc hx hc=>?_⟩)
       ·rcases List.mem_or_eq_of_mem_set hx with hx|rfl
        ·exact h8 x hx
        ·rfl
       ·rcases List.mem_or_eq_of_mem_set hx with hx|rfl
        ·exact h10 x cc hx hc
        ·simp[D.cells] at hc;subst hc;rfl
       ·by_cases hj:j=i
        ·subst hj
         rw[List.getElem?_set_self k1] at hx
         simp at hx;subst hx
         cases m with
         |zero =>
          simp[D.cells] at hc;subst hc
          exact⟨v2,by simpa using k2,hrow.mono (Ah.refl _ _) hf⟩
         |succ m=>simp[D.cells] at hc
        ·rw[List.getElem?_set_ne (Ne.symm hj)] at hx
         have hm:m=0:=by have:=h8 x (List.mem_of_getElem? hx);have:=(List.getElem?_eq_some_iff.1 hc).1;omega
         subst hm
         obtain⟨u,hu,hd'⟩:=h9 j x cc hj hx hc
         exact⟨u,by simpa using hu,hd'.mono (Ah.refl _ _) hf⟩
    ·exact hg.elim
   ·exact⟨_,β,hg,h⟩
  ·exact⟨_,β,hg,h⟩
 ·rename_i t
  split at hg
  ·rename_i o g hs
   split at hg
   ·rename_i e1 e2 nl ix rows hget
    obtain⟨hal,hg⟩:=hg
    refine⟨_,β,hg,?_⟩
    have hdrop:Br E c β ⟨s.sl,s.V.drop o⟩ tm w:=h.drop rfl rfl fun o' y hy=>by
     exact DK hy
    have hob:=AL.get_some hget
    have hsl:=h.slots t
    rw[hs] at hsl
    refine⟨hdrop.keep,hdrop.low,hdrop.glob,fun t'=>?_,hdrop.objs,hdrop.sep,hdrop.home,hdrop.pin,hdrop.hist⟩
    simp only[CO]
    split
    ·rename_i e;subst e
     refine .d _ _ (U2 h (fun b hb=>?_) hget hal hsl fun b hb hbar=>?_)
     ·rcases hb with hb|⟨o',g',x',h2,h3⟩
      ·exact .inl hb
      ·exact .inr ⟨o',g',x',DK h2,h3⟩
     ·rcases hbar with hbar|⟨o',g',x',h2,h3⟩
      ·exact(h.home o g _ b hob hb).2.2 hbar
      ·simp only[AL.drop,CO] at h2
       split at h2
       ·cases h2
       ·rename_i hne
        exact hne (h.sep o' o g' g x' _ b h2 hob h3 hb)
    ·exact hdrop.slots t'
   ·exact hg.elim
  ·exact⟨_,β,hg,h⟩
 ·rename_i t
  split at hg
  ·rename_i o g hs
   split at hg
   ·rename_i c0 l hget
    refine⟨_,β,hg,?_⟩
    have hdrop:Br E c β ⟨s.sl,s.V.drop o⟩ tm w:=h.drop rfl rfl fun o' y hy=>by
     exact DK hy
    have hob:=AL.get_some hget
    obtain⟨_,ho⟩:=h.objs _ _ _ hob
    have hsl:=h.slots t
    rw[hs] at hsl
    refine⟨hdrop.keep,hdrop.low,hdrop.glob,fun t'=>?_,hdrop.objs,hdrop.sep,hdrop.home,hdrop.pin,hdrop.hist⟩
    simp only[CO]
    split
    ·rename_i e;subst e
     generalize hu:tm.getD t' undef=u at hsl ⊢
     cases hsl with|ptr _ _ _ b hlt hβ =>
     rw[hβ] at ho
     cases ho with|cells _ _ cur e hb hlen h1 hr =>
     refine .ablk false (c0::l) 0 b 0 (fun j=>cur.getD j undef) _ (fun hbar=>?_) (by simp) h1 (fun j y hj=>?_) (fun j y hj=>?_) (by simp[gx])
     ·rcases hbar with hbar|⟨o',g',x',h2,h3⟩
      ·exact(h.home o g _ b hob (by rw[hβ];exact rfl)).2.2 hbar
      ·simp only[AL.drop,CO] at h2
       split at h2
       ·cases h2
       ·rename_i hne
        exact hne (h.sep o' o g' g x' _ b h2 hob h3 (by rw[hβ];exact rfl))
     ·have hlt:j<cur.size:=by have:=(List.getElem?_eq_some_iff.1 hj).1;omega
      rw[Nat.zero_add,CC hb,Array.getElem?_eq_getElem hlt];simp[Array.getD_eq_getD_getElem?,hlt]
     ·have hlt:j<cur.size:=by have:=(List.getElem?_eq_some_iff.1 hj).1;omega
      have:=hr j y _ hj (Array.getElem?_eq_getElem hlt)
      simp only[Array.getD_eq_getD_getElem?,Array.getElem?_eq_getElem hlt,Option.getD_some]
      exact this.mono (Ah.refl _ _) (fun b _ hb=>by
       rcases hb with hb|⟨o',g',x',h2,h3⟩
       ·exact .inl hb
       ·exact .inr ⟨o',g',x',DK h2,h3⟩) (fun _ _ _=>rfl) (fun _=>Nat.le_refl _)
    ·exact hdrop.slots t'
   ·exact hg.elim
  ·exact⟨_,β,hg,h⟩
 ·rename_i t off
  split at hg
  ·rename_i b g f hs
   split at hg
   ·rename_i xs hget
    split at hg
    ·rename_i o p hx
     split at hg
     ·rename_i ety es nl l hget2
      have hob:=AL.get_some hget
      have hob2:=AL.get_some hget2
      have hne:b≠o:=fun e=>by subst e;rw[hob] at hob2;simp at hob2
      have hd:Br E c β ⟨s.sl,s.V.drop o⟩ tm w:=h.drop rfl rfl fun o' y hy=>by
       exact DK hy
      have hob3:(s.V.drop o).ob b=some (g,.cells xs):=by simp[AL.drop,CO,hne,hob]
      refine⟨_,β,hg,Br.kept hd (x:=.cells (xs.set (f+off) (.d (.list nl l)))) hob3 (FR.refl _ _) fun fb' hf hfe=>?_⟩
      obtain⟨_,ho⟩:=hd.objs _ _ _ hob3
      obtain⟨_,ho2⟩:=h.objs _ _ _ hob2
      obtain⟨v,hv⟩:∃v,β b g=v:=⟨_,rfl⟩
      obtain⟨v2,hv2⟩:∃v2,β o p=v2:=⟨_,rfl⟩
      rw[hv] at ho ⊢
      rw[hv2] at ho2
      cases ho2 with
      |row _ _ _ _ _ ho2 =>
      have hrow:Az w (c.bar β (s.V.drop o)) (.list nl l) v2:=by
       refine C4 (ho2.mono (Ah.refl _ _) (fun b _ hb=>by
        rcases hb with hb|⟨o',g',x',h2,h3⟩
        ·exact .inl hb
        ·exact .inr ⟨o',g',x',DK h2,h3⟩) fun _ _ _=>rfl) fun b hb hbar=>?_
       rcases hbar with hbar|⟨o',g',x',h2,h3⟩
       ·exact(h.home o p _ b hob2 (by rw[hv2];exact hb)).2.2 hbar
       ·simp only[AL.drop,CO] at h2
        split at h2
        ·cases h2
        ·rename_i hne
         exact hne (h.sep o' o g' p x' _ b h2 hob2 h3 (by rw[hv2];exact hb))
      cases ho with
      |cells _ b' cur e hb hlen h1 hrr =>
       refine .cells _ b' cur e hb (by simpa using hlen) (fun x hxm=>?_) fun i x u hxi hu=>?_
       ·rcases List.mem_or_eq_of_mem_set hxm with hxm|rfl
        ·exact h1 x hxm
        ·rfl
       ·by_cases hi:i=f+off
        ·subst hi
         have hlt:f+off<xs.length:=(List.getElem?_eq_some_iff.1 hx).1
         rw[List.getElem?_set_self hlt] at hxi
         simp at hxi;subst hxi
         have hrep:=hrr _ _ u hx hu
         have hu0:u=v2:=by cases hrep with|own _ _ _ _=>exact hv2
         rw[hu0]
         exact .d _ _ (hrow.mono (Ah.refl _ _) hf)
        ·rw[List.getElem?_set_ne (Ne.symm hi)] at hxi
         exact(hrr i x u hxi hu).mono (Ah.refl _ _) hf (fun _ _ _=>rfl) (fun _=>Nat.le_refl _)
     ·exact hg.elim
    ·rename_i o p hx
     split at hg
     ·rename_i e1 e2 nl ix rows hget2
      obtain⟨hal,hg⟩:=hg
      have hob:=AL.get_some hget
      have hob2:=AL.get_some hget2
      have hne:b≠o:=fun e=>by subst e;rw[hob] at hob2;simp at hob2
      have hd:Br E c β ⟨s.sl,s.V.drop o⟩ tm w:=h.drop rfl rfl fun o' y hy=>by
       exact DK hy
      have hob3:(s.V.drop o).ob b=some (g,.cells xs):=by simp[AL.drop,CO,hne,hob]
      refine⟨_,β,hg,Br.kept hd (x:=.cells (xs.set (f+off) (.d (.list nl (NN ix rows))))) hob3 (FR.refl _ _) fun fb' hf hfe=>?_⟩
      obtain⟨_,ho⟩:=hd.objs _ _ _ hob3
      obtain⟨v,hv⟩:∃v,β b g=v:=⟨_,rfl⟩
      rw[hv] at ho ⊢
      have hmat:∀u,AM w (c.bar β s.V) β s.V.cn (.mref .out o p) u->Az w (c.bar β (s.V.drop o)) (.list nl (NN ix rows)) u:=fun u hu=>by
       refine U2 h (fun b hb=>?_) hget2 hal hu fun b hb hbar=>?_
       ·rcases hb with hb|⟨o',g',x',h2,h3⟩
        ·exact .inl hb
        ·exact .inr ⟨o',g',x',DK h2,h3⟩
       ·rcases hbar with hbar|⟨o',g',x',h2,h3⟩
        ·exact(h.home o p _ b hob2 hb).2.2 hbar
        ·simp only[AL.drop,CO] at h2
         split at h2
         ·cases h2
         ·rename_i hne
          exact hne (h.sep o' o g' p x' _ b h2 hob2 h3 hb)
      cases ho with
      |cells _ b' cur e hb hlen h1 hrr =>
       refine .cells _ b' cur e hb (by simpa using hlen) (fun x hxm=>?_) fun i x u hxi hu=>?_
       ·rcases List.mem_or_eq_of_mem_set hxm with hxm|rfl
        ·exact h1 x hxm
        ·rfl
       ·by_cases hi:i=f+off
        ·subst hi
         have hlt:f+off<xs.length:=(List.getElem?_eq_some_iff.1 hx).1
         rw[List.getElem?_set_self hlt] at hxi
         simp at hxi;subst hxi
         have hrep:=hrr _ _ u hx hu
         have hrep':AM w (c.bar β s.V) β s.V.cn (.mref .out o p) u:=by cases hrep with|mref _ _ _ _ a1 a2 a3=>exact .mref _ _ _ _ a1 a2 a3
         exact .d _ _ ((hmat u hrep').mono (Ah.refl _ _) hf)
        ·rw[List.getElem?_set_ne (Ne.symm hi)] at hxi
         exact(hrr i x u hxi hu).mono (Ah.refl _ _) hf (fun _ _ _=>rfl) (fun _=>Nat.le_refl _)
     ·exact hg.elim
    ·rename_i o p hx
     split at hg
     ·rename_i tys es cl hget2
      have hob:=AL.get_some hget
      have hob2:=AL.get_some hget2
      have hne:b≠o:=fun e=>by subst e;rw[hob] at hob2;simp at hob2
      have hd:Br E c β ⟨s.sl,s.V.drop o⟩ tm w:=h.drop rfl rfl fun o' y hy=>by
       exact DK hy
      have hob3:(s.V.drop o).ob b=some (g,.cells xs):=by simp[AL.drop,CO,hne,hob]
      refine⟨_,β,hg,Br.kept hd (x:=.cells (xs.set (f+off) (.d (.map tys (es.map (·.2)))))) hob3 (FR.refl _ _) fun fb' hf hfe=>?_⟩
      obtain⟨_,ho⟩:=hd.objs _ _ _ hob3
      obtain⟨v,hv⟩:∃v,β b g=v:=⟨_,rfl⟩
      rw[hv] at ho ⊢
      have hmap:Az w (c.bar β (s.V.drop o)) (.map tys (es.map (·.2))) (β o p):=by
       refine Zf (h.objs _ _ _ hob2).2 (fun b hb hbar=>?_) fun b hb=>?_
       ·rcases hbar with hbar|⟨o',g',x',h2,h3⟩
        ·exact(h.home o p _ b hob2 hb).2.2 hbar
        ·simp only[AL.drop,CO] at h2
         split at h2
         ·cases h2
         ·rename_i hne
          exact hne (h.sep o' o g' p x' _ b h2 hob2 h3 hb)
       ·rcases hb with hb|⟨o',g',x',h2,h3⟩
        ·exact .inl hb
        ·exact .inr ⟨o',g',x',DK h2,h3⟩
      cases ho with
      |cells _ b' cur e hb hlen h1 hrr =>
       refine .cells _ b' cur e hb (by simpa using hlen) (fun x hxm=>?_) fun i x u hxi hu=>?_
       ·rcases List.mem_or_eq_of_mem_set hxm with hxm|rfl
        ·exact h1 x hxm
        ·rfl
       ·by_cases hi:i=f+off
        ·subst hi
         have hlt:f+off<xs.length:=(List.getElem?_eq_some_iff.1 hx).1
         rw[List.getElem?_set_self hlt] at hxi
         simp at hxi;subst hxi
         have hrep:=hrr _ _ u hx hu
         have hu0:u=β o p:=by cases hrep with|map _ _ _ _=>rfl
         rw[hu0]
         exact .d _ _ (hmap.mono (Ah.refl _ _) hf)
        ·rw[List.getElem?_set_ne (Ne.symm hi)] at hxi
         exact(hrr i x u hxi hu).mono (Ah.refl _ _) hf (fun _ _ _=>rfl) (fun _=>Nat.le_refl _)
     ·exact hg.elim
    ·exact⟨_,β,hg,h⟩
   ·exact⟨_,β,hg,h⟩
  ·exact⟨_,β,hg,h⟩
 ·rename_i t o e1 e2
  split at hg
  ·rename_i hs
   have hu:tm.getD t undef=.slice none 0 0:=by
    have:=h.slots t
    rw[hs] at this
    generalize tm.getD t undef=u at this ⊢
    cases this with|d _ _ hd=>cases hd;rfl
   have hr:=h.fresh (o:=o) (x:=.mat e1 e2 true [] []) hg.1 (vo:=.tuple #[.slice none 0 0]) (w':=w) (FR.of_below _ (Below.refl _ _)) (fun b hb=>by
     obtain⟨i,u,hi,hb⟩:=hb
     cases i with
     |zero=>simp at hi;subst hi;simp[BX] at hb
     |succ i=>simp at hi)
    fun β' fb' _ _ _=>.mat _ _ _ _ _ _ ⟨.slice none 0 0,[],rfl,rfl,.inl ⟨rfl,rfl,rfl⟩,fun j x u hx _=>by simp at hx,fun i j u u' b hi hj _ _ hb hb'=>by
     cases i with
     |zero=>simp at hi;subst hi;simp[BX] at hb
     |succ i=>simp at hi⟩
   refine⟨_,_,hg.2,hr.keep,hr.low,hr.glob,fun t'=>?_,hr.objs,hr.sep,hr.home,hr.pin,hr.hist⟩
   simp only[CO]
   split
   ·rename_i e;subst e
    rw[hu]
    exact .mref _ _ _ _ (by simp[AL.app,CO]) (by rw[Bj];rfl) rfl
   ·exact hr.slots t'
  ·exact⟨_,β,hg,h⟩
 ·rename_i t o ety es
  split at hg
  ·rename_i hs
   have hu:tm.getD t undef=.slice none 0 0:=by
    have:=h.slots t
    rw[hs] at this
    generalize tm.getD t undef=u at this ⊢
    cases this with|d _ _ hd=>cases hd;rfl
   have hr:=h.fresh (o:=o) (x:=.row ety es true []) hg.1 (vo:=.slice none 0 0) (w':=w) (FR.of_below _ (Below.refl _ _)) (fun b hb=>by simp[C8,BX] at hb)
    fun β' fb' _ _ _=>.row _ _ _ _ _ (.inl ⟨rfl,rfl,rfl⟩)
   refine⟨_,_,hg.2,hr.keep,hr.low,hr.glob,fun t'=>?_,hr.objs,hr.sep,hr.home,hr.pin,hr.hist⟩
   simp only[CO]
   split
   ·rename_i e;subst e
    rw[hu]
    exact AM.own_new rfl (by simp[AL.app,CO])
   ·exact hr.slots t'
  ·exact⟨_,β,hg,h⟩
 ·rename_i t off o ety es
  split at hg
  ·rename_i b g f hs
   split at hg
   ·rename_i xs hget
    split at hg
    ·rename_i hx
     obtain⟨hol,hne,hg⟩:=hg
     have hob:=AL.get_some hget
     have hr:=h.fresh (o:=o) (x:=.row ety es true []) hol (vo:=.slice none 0 0) (w':=w) (FR.of_below _ (Below.refl _ _)) (fun b hb=>by simp[C8,BX] at hb)
      fun β' fb' _ _ _=>.row _ _ _ _ _ (.inl ⟨rfl,rfl,rfl⟩)
     have hob2:(s.V.app (.fresh o (.row ety es true []))).ob b=some (g,.cells xs):=by simp[AL.app,CO,Ne.symm hne,hob]
     refine⟨_,_,hg,Br.kept hr (x:=.cells (xs.set (f+off) (.own o (s.V.cn o)))) hob2 (FR.refl _ _) fun fb' hf hfe=>?_⟩
     obtain⟨_,ho⟩:=hr.objs _ _ _ hob2
     obtain⟨v,hv⟩:∃v,ER β o (s.V.cn o) (.slice none 0 0) b g=v:=⟨_,rfl⟩
     rw[hv] at ho ⊢
     cases ho with
     |cells _ b' cur e hb hlen h1 hrr =>
      refine .cells _ b' cur e hb (by simpa using hlen) (fun x hxm=>?_) fun i x u hxi hu=>?_
      ·rcases List.mem_or_eq_of_mem_set hxm with hxm|rfl
       ·exact h1 x hxm
       ·rfl
      ·by_cases hi:i=f+off
       ·subst hi
        have hlt:f+off<xs.length:=(List.getElem?_eq_some_iff.1 hx).1
        rw[List.getElem?_set_self hlt] at hxi
        simp at hxi;subst hxi
        have hrep:=hrr _ _ u hx hu
        have hu0:u=.slice none 0 0:=by cases hrep with|d _ _ hd=>cases hd;rfl
        rw[hu0]
        exact AM.own_new rfl (by simp[AL.app,CO])
       ·rw[List.getElem?_set_ne (Ne.symm hi)] at hxi
        exact(hrr i x u hxi hu).mono (Ah.refl _ _) hf (fun _ _ _=>rfl) (fun _=>Nat.le_refl _)
    ·exact⟨_,β,hg,h⟩
   ·exact⟨_,β,hg,h⟩
  ·exact⟨_,β,hg,h⟩
 ·rename_i t off o e1 e2
  split at hg
  ·rename_i b g f hs
   split at hg
   ·rename_i xs hget
    split at hg
    ·rename_i hx
     obtain⟨hol,hne,hg⟩:=hg
     have hob:=AL.get_some hget
     have hr:=h.fresh (o:=o) (x:=.mat e1 e2 true [] []) hol (vo:=.tuple #[.slice none 0 0]) (w':=w) (FR.of_below _ (Below.refl _ _)) (fun b hb=>by
       obtain⟨i,u,hi,hb⟩:=hb
       cases i with
       |zero=>simp at hi;subst hi;simp[BX] at hb
       |succ i=>simp at hi)
      fun β' fb' _ _ _=>.mat _ _ _ _ _ _ ⟨.slice none 0 0,[],rfl,rfl,.inl ⟨rfl,rfl,rfl⟩,fun j x u hx _=>by simp at hx,fun i j u u' b hi hj _ _ hb hb'=>by
       cases i with
       |zero=>simp at hi;subst hi;simp[BX] at hb
       |succ i=>simp at hi⟩
     have hob2:(s.V.app (.fresh o (.mat e1 e2 true [] []))).ob b=some (g,.cells xs):=by simp[AL.app,CO,Ne.symm hne,hob]
     refine⟨_,_,hg,Br.kept hr (x:=.cells (xs.set (f+off) (.mref .out o (s.V.cn o)))) hob2 (FR.refl _ _) fun fb' hf hfe=>?_⟩
     obtain⟨_,ho⟩:=hr.objs _ _ _ hob2
     obtain⟨v,hv⟩:∃v,ER β o (s.V.cn o) (.tuple #[.slice none 0 0]) b g=v:=⟨_,rfl⟩
     rw[hv] at ho ⊢
     cases ho with
     |cells _ b' cur e hb hlen h1 hrr =>
      refine .cells _ b' cur e hb (by simpa using hlen) (fun x hxm=>?_) fun i x u hxi hu=>?_
      ·rcases List.mem_or_eq_of_mem_set hxm with hxm|rfl
       ·exact h1 x hxm
       ·rfl
      ·by_cases hi:i=f+off
       ·subst hi
        have hlt:f+off<xs.length:=(List.getElem?_eq_some_iff.1 hx).1
        rw[List.getElem?_set_self hlt] at hxi
        simp at hxi;subst hxi
        have hrep:=hrr _ _ u hx hu
        have hu0:u=.slice none 0 0:=by cases hrep with|d _ _ hd=>cases hd;rfl
        rw[hu0]
        exact .mref _ _ _ _ (by simp[AL.app,CO]) (by rw[Bj];rfl) rfl
       ·rw[List.getElem?_set_ne (Ne.symm hi)] at hxi
        exact(hrr i x u hxi hu).mono (Ah.refl _ _) hf (fun _ _ _=>rfl) (fun _=>Nat.le_refl _)
    ·exact⟨_,β,hg,h⟩
   ·exact⟨_,β,hg,h⟩
  ·exact⟨_,β,hg,h⟩
 ·rename_i o
  exact⟨_,β,hg,h.drop rfl rfl fun o' y hy=>by exact DK hy⟩
 ·rename_i os
  exact⟨_,β,hg,h.drop rfl rfl fun o' y hy=>by exact fe hy⟩
 ·rename_i t e2
  split at hg
  ·rename_i o g hs
   split at hg
   ·rename_i e1 es nl l hget
    obtain⟨hnl,hes,hol,hall,hg⟩:=hg
    subst hnl hes
    have hob:=AL.get_some hget
    obtain⟨hlt,ho⟩:=h.objs _ _ _ hob
    obtain⟨v,hv⟩:∃v,β o g=v:=⟨_,rfl⟩
    rw[hv] at ho
    cases ho with|row _ _ _ _ _ ho =>
    rcases ho with⟨h1,_⟩|⟨_,b,off,cap,cur,h2,h3,h4,h5,h6,h7,h8,h10,h9⟩
    ·cases h1
    have hu:tm.getD t undef=v:=by
     have:=h.slots t
     rw[hs] at this
     generalize tm.getD t undef=u at this ⊢
     cases this with|own _ _ _ _=>exact hv
    have hone:v.oneCell'=true:=by rw[h2];rfl
    have hr:=h.fresh (o:=o) (x:=.mat e1 e2 false (List.range l.length) (List.replicate l.length (true,[]))) hol (vo:=.tuple (v::List.replicate l.length (.slice none 0 0)).toArray) (w':=w) (FR.of_below _ (Below.refl _ _)) (fun b' hb=>by
      obtain⟨i,u,hi,hb⟩:=hb
      rw[List.getElem?_toArray] at hi
      cases i with
      |zero =>
       simp at hi;subst hi
       have hbk:C8 (β o g) b':=by rw[hv];rw[h2] at hb ⊢;exact hb
       exact⟨(h.home o g _ b' hob hbk).1,.inr ⟨_,_,hob,hbk⟩⟩
      |succ i =>
       simp only[List.getElem?_cons_succ,List.getElem?_replicate] at hi
       split at hi
       ·simp at hi;subst hi;simp[BX] at hb
       ·cases hi)
     fun β' fb' _ _ hf=>.mat _ _ _ _ _ _ ⟨v,List.replicate l.length (.slice none 0 0),rfl,by simp,.inr ⟨rfl,b,off,cap,cur,by rw[h2];simp,h3,by simpa using h4,h5,by simpa using h6,fun p j hp=>by
       have hpl:p<l.length:=by have:=(List.getElem?_eq_some_iff.1 hp).1;simpa using this
       have hpj:p=j:=by simp[hpl] at hp;exact hp
       subst hpj
       refine⟨.slice none 0 0,by simp[hpl],?_⟩
       have hx:=hall _ (List.getElem_mem hpl)
       obtain⟨u,hu1,hu2⟩:=h9 p _ 0 (.list true []) (List.getElem?_eq_getElem hpl) (by rw[hx];rfl)
       have:u=.slice none 0 0:=by cases hu2;rfl
       rw[←this];simpa using hu1⟩,(fun j x u hx hu=>by
       simp only[List.getElem?_replicate] at hx hu
       split at hx
       ·rename_i hj
        rw[if_pos hj] at hu
        simp at hx hu;subst hx hu
        exact⟨rfl,fun _=>.inl ⟨rfl,rfl,rfl⟩⟩
       ·cases hx),fun i j u u' b' hi hj _ _ hb hb'=>by
       have hz:∀{i:Nat}{u:Value},(v::List.replicate l.length (Value.slice none 0 0))[i]?=some u->BX u=some b'->i=0:=fun {i u} hi hb=>by
        cases i with
        |zero=>rfl
        |succ i =>
         simp only[List.getElem?_cons_succ,List.getElem?_replicate] at hi
         split at hi
         ·simp at hi;subst hi;simp[BX] at hb
         ·cases hi
       rw[hz hi hb,hz hj hb']⟩
    refine⟨_,_,hg,hr.keep,hr.low,hr.glob,fun t'=>?_,hr.objs,hr.sep,hr.home,hr.pin,hr.hist⟩
    simp only[CO]
    split
    ·rename_i e;subst e
     rw[hu]
     exact .mref _ _ _ _ (by simp[AL.app,CO]) (by rw[Bj];rfl) hone
    ·exact hr.slots t'
   ·exact hg.elim
  ·exact⟨_,β,hg,h⟩
 ·rename_i t k
  split at hg
  ·rename_i o g hs
   split at hg
   ·rename_i c0 l hget
    refine⟨_,β,hg,?_⟩
    have hdrop:Br E c β ⟨s.sl,s.V.drop o⟩ tm w:=h.drop rfl rfl fun o' y hy=>by
     exact DK hy
    have hob:=AL.get_some hget
    obtain⟨_,ho⟩:=h.objs _ _ _ hob
    have hsl:=h.slots t
    rw[hs] at hsl
    refine⟨hdrop.keep,hdrop.low,hdrop.glob,fun t'=>?_,hdrop.objs,hdrop.sep,hdrop.home,hdrop.pin,hdrop.hist⟩
    simp only[CO]
    split
    ·rename_i e;subst e
     generalize hu:tm.getD t' undef=u at hsl ⊢
     cases hsl with|ptr _ _ _ b hlt hβ =>
     rw[hβ] at ho
     cases ho with|cells _ _ cur e hb hlen h1 hr =>
     have key:=(d4 (w:=w) (fb:=c.bar β (s.V.drop o)) (β:=β) (cn:=s.V.cn) (o:=o) (g:=g) (b:=b) (l:=c0::l) (vs:=fun j=>cur.getD j undef) hβ (fun hbar=>by
      rcases hbar with hbar|⟨o',g',x',h2,h3⟩
      ·exact(h.home o g _ b hob (by rw[hβ];exact rfl)).2.2 hbar
      ·simp only[AL.drop,CO] at h2
       split at h2
       ·cases h2
       ·rename_i hne
        exact hne (h.sep o' o g' g x' _ b h2 hob h3 (by rw[hβ];exact rfl))) (by simp) h1 (fun j hj=>by
      have hlt:j<cur.size:=by omega
      rw[Nat.zero_add,CC hb,Array.getElem?_eq_getElem hlt];simp[Array.getD_eq_getD_getElem?,hlt]) (fun j y hj=>by
      have hlt:j<cur.size:=by have:=(List.getElem?_eq_some_iff.1 hj).1;omega
      have:=hr j y _ hj (Array.getElem?_eq_getElem hlt)
      simp only[Array.getD_eq_getD_getElem?,Array.getElem?_eq_getElem hlt,Option.getD_some]
      exact this.mono (Ah.refl _ _) (fun b _ hb=>by
       rcases hb with hb|⟨o',g',x',h2,h3⟩
       ·exact .inl hb
       ·exact .inr ⟨o',g',x',DK h2,h3⟩) (fun _ _ _=>rfl) (fun _=>Nat.le_refl _)) k).2
     rw[hβ] at key;exact key
    ·exact hdrop.slots t'
   ·exact hg.elim
  ·exact⟨_,β,hg,h⟩
 ·rename_i t
  split at hg
  ·rename_i o g hs
   split at hg
   ·rename_i ety es nl l hget
    obtain⟨hol,hg⟩:=hg
    have hob:=AL.get_some hget
    obtain⟨hlt,ho⟩:=h.objs _ _ _ hob
    obtain⟨v,hv⟩:∃v,β o g=v:=⟨_,rfl⟩
    rw[hv] at ho
    cases ho with|row _ _ _ _ _ ho =>
    have hu:tm.getD t undef=v/\v.oneCell'=true:=by
     have:=h.slots t
     rw[hs] at this
     generalize tm.getD t undef=u at this ⊢
     cases this with|own _ _ _ h1=>rw[hv] at h1 ⊢;exact⟨rfl,h1⟩
    have hr:=h.fresh (o:=o) (x:=.row ety es nl l) hol (vo:=v) (w':=w) (FR.of_below _ (Below.refl _ _)) (fun b' hb=>by
      have hbk:C8 (β o g) b':=by rw[hv];exact hb
      exact⟨(h.home o g _ b' hob hbk).1,.inr ⟨_,_,hob,hbk⟩⟩)
     fun β' fb' _ _ hf=>.row _ _ _ _ _ (ho.mono (Ah.refl _ _) (fun b hb2 hb=>hf b hb2 hb) fun _ _ _=>rfl)
    refine⟨_,_,hg,hr.keep,hr.low,hr.glob,fun t'=>?_,hr.objs,hr.sep,hr.home,hr.pin,hr.hist⟩
    simp only[CO]
    split
    ·rename_i e;subst e
     rw[hu.1]
     exact AM.own_new hu.2 (by simp[AL.app,CO])
    ·exact hr.slots t'
   ·rename_i ety es P hget
    obtain⟨hol,hg⟩:=hg
    have hob:=AL.get_some hget
    obtain⟨hlt,ho⟩:=h.objs _ _ _ hob
    obtain⟨v,hv⟩:∃v,β o g=v:=⟨_,rfl⟩
    rw[hv] at ho
    cases ho with|rowP _ _ _ nl l _ hp ho =>
    have hu:tm.getD t undef=v/\v.oneCell'=true:=by
     have:=h.slots t
     rw[hs] at this
     generalize tm.getD t undef=u at this ⊢
     cases this with|own _ _ _ h1=>rw[hv] at h1 ⊢;exact⟨rfl,h1⟩
    have hr:=h.fresh (o:=o) (x:=.row ety es nl l) hol (vo:=v) (w':=w) (FR.of_below _ (Below.refl _ _)) (fun b' hb=>by
      have hbk:C8 (β o g) b':=by rw[hv];exact hb
      exact⟨(h.home o g _ b' hob hbk).1,.inr ⟨_,_,hob,hbk⟩⟩)
     fun β' fb' _ _ hf=>.row _ _ _ _ _ (ho.mono (Ah.refl _ _) (fun b hb2 hb=>hf b hb2 hb) fun _ _ _=>rfl)
    refine⟨_,_,hg nl l hp,hr.keep,hr.low,hr.glob,fun t'=>?_,hr.objs,hr.sep,hr.home,hr.pin,hr.hist⟩
    simp only[CO]
    split
    ·rename_i e;subst e
     rw[hu.1]
     exact AM.own_new hu.2 (by simp[AL.app,CO])
    ·exact hr.slots t'
   ·exact⟨_,β,hg,h⟩
  ·exact⟨_,β,hg,h⟩
 ·rename_i ks os
  have hn:=h.nrmS ks os
  obtain⟨B,hB⟩:∃B,nX os (s.nrm ks os).V=B:=⟨_,rfl⟩
  rw[hB] at hg
  cases B with
  |true=>exact⟨_,_,hg,hn.sw rfl fun o g x hx=>fZ hB hx⟩
  |false=>exact⟨_,_,hg,hn⟩
theorem C5 {tm:Array Value}:∀{gs:List EE}{s:Bg}{β:Nat->Nat->Value}{K:Bg->Prop},Br E c β s tm w->CL gs s K->∃s' β',K s'/\Br E c β' s' tm w
 |[],s,β,K,h,hg=>⟨s,β,hg,h⟩
 |g::gs,s,β,K,h,hg=>by
  obtain⟨s',β',h1,h2⟩:=We h hg
  exact C5 h2 h1
theorem X3 {es:Array MapEntry}{cl:Nat}(h:GO es cl) {i j:Nat}{e e':MapEntry}(hi:es[i]?=some e) (hj:es[j]?=some e') (hb:e.born=e'.born):i=j:=by
 rcases Nat.lt_trichotomy i j with hij|hij|hij
 ·have:=h.2 i j e e' hi hj hij;omega
 ·exact hij
 ·have:=h.2 j i e' e hj hi hij;omega
theorem Xm {tm:Array Value}{s:Bg}{K:AV->B3->Prop}(h:Br E c β s tm w) {x:AV}{u:Value}(hx:AM w (c.bar β s.V) β s.V.cn x u) (he:N3 x s.V K) (ty:TypeId) :
  GF E c s tm K ((Instr.next u false ty).run E.P w):=by
 have over:AM w (c.bar β s.V) β s.V.cn (.tup [.d (.bool false)]) (.tuple #[.bool false]):=.tup _ _ rfl fun i c v hc hv=>by
  match i with
  |0=>simp at hc hv;subst hc hv;exact .d _ _ (.bool _)
  |i+1=>simp at hc
 have come:∀{w' fb' β' cn'} (a b:Value),AM w' fb' β' cn' (.tup [.d (.bool true),.undef,.undef]) (.tuple #[.bool true,a,b]):=fun {w' fb' β' cn'} a b=>.tup _ _ rfl fun i c v hc hv=>by
  match i with
  |0=>simp at hc hv;subst hc hv;exact .d _ _ (.bool _)
  |1=>simp at hc;subst hc;exact .undef _
  |2=>simp at hc;subst hc;exact .undef _
  |i+3=>simp at hc
 unfold N3 at he
 split at he
 ·rename_i o g
  split at he
  ·rename_i mo mg n seen hg
   split at he
   ·rename_i ob hmg
    split at he
    ·rename_i es0 cl hob
     obtain⟨rfl,he1,he2⟩:=he
     have hob':=AL.get_some hg
     obtain⟨_,ho⟩:=h.objs _ _ _ hob'
     cases hx with|ptr _ _ _ r hgl hβo =>
     rw[hβo] at ho
     cases ho with|mitO _ _ _ _ _ m hgm hβm hr =>
     obtain⟨m',es,hum,_,hb,hl,hrs,hent⟩:=NR h hmg hob (AM.map (w:=w) (fb:=c.bar β s.V) (β:=β) (cn:=s.V.cn) mo mg hgm (by rw[hβm];rfl))
     rw[hβm] at hum;simp at hum;subst hum
     have hold:∀x∈es.toList,x.born<cl:=fun x hx=>by
      obtain⟨i,hi⟩:=List.getElem?_of_mem hx
      rw[Array.getElem?_toList] at hi
      exact hrs.1 i x hi
     rcases run_next_at (P:=E.P) w ty r m cl cl seen.toArray es cl hr hb hold (Nat.le_refl _) with⟨h0,hrun⟩|⟨e,hel,w1,hw1,hrun⟩
     ·refine CF h (he2 fun e he=>?_) hrun over
      obtain⟨i,hi⟩:=List.getElem?_of_mem he
      have hil:i<es.size:=by rw[hl];exact(List.getElem?_eq_some_iff.1 hi).1
      have hei:es[i]?=some es[i]:=Array.getElem?_eq_getElem hil
      have hbe:=(hent i e _ hi hei).2.2
      cases hcon:seen.contains e.1 with
      |true=>rfl
      |false =>
       have hin:es[i]∈leftOf es seen.toArray:=by
        unfold leftOf
        rw[Array.mem_filter]
        refine⟨by simp,?_⟩
        rw[hbe]
        simpa using hcon
       have hz:=Array.eq_empty_of_size_eq_zero h0
       rw[hz] at hin
       simp at hin
     ·have hel':e∈es/\seen.contains e.born=false:=by
       unfold leftOf at hel
       simp at hel
       simpa using hel
      obtain⟨i,hil,hie⟩:=Array.getElem_of_mem hel'.1
      have hei:es[i]?=some e:=by rw[Array.getElem?_eq_getElem hil,hie]
      have hil0:i<es0.length:=by omega
      have hi0:es0[i]?=some es0[i]:=List.getElem?_eq_getElem hil0
      have hbe:=(hent i _ _ hi0 hei).2.2
      have hlt:r<w.heap.size:=(Array.getElem?_eq_some_iff.1 hr).1
      have hh1:w1.heap=w.heap:=by rcases hw1 with rfl|rfl<;>rfl
      have hK:=he1 es0[i] (List.getElem_mem hil0) (by rw[←hbe];exact hel'.2)
      refine⟨_,_,_,_,β,hrun,hK,h.kept hob' ?_ fun fb' hf hfe=>?_,come _ _⟩
      ·rw[hβo]
       refine⟨by rcases hw1 with rfl|rfl<;>rfl,by rcases hw1 with rfl|rfl<;>rfl,by rcases hw1 with rfl|rfl<;>rfl,by show w.heap.size<=(w1.heap.setIfInBounds r _).size;rw[hh1];simp,fun k hk hne=>?_⟩
       have hkr:r≠k:=fun e=>hne (by subst e;rfl)
       show (w1.heap.setIfInBounds r _)[k]?=_;rw[hh1,Array.getElem?_setIfInBounds_ne hkr]
      ·rw[hβo]
       refine .mitO mo mg cl _ r m hgm hβm ?_
       rw[hbe]
       show (w1.heap.setIfInBounds r _)[r]?=_
       rw[hh1];simp[hlt]
    ·exact he.elim
   ·exact he.elim
  ·rename_i tys kvs seen hg
   obtain⟨he1,he2⟩:=he
   have hob':=AL.get_some hg
   obtain⟨_,ho⟩:=h.objs _ _ _ hob'
   cases hx with|ptr _ _ _ r hgl hβo =>
   rw[hβo] at ho
   cases ho with|mitD _ _ _ _ m es cl sn hm hh hl hrs hr hsl hsn hent =>
   have hold:∀x∈es.toList,x.born<cl:=fun x hx=>by
    obtain⟨i,hi⟩:=List.getElem?_of_mem hx
    rw[Array.getElem?_toList] at hi
    exact hrs.1 i x hi
   have hmem:∀(i:Nat) e,es[i]?=some e->(sn.contains e.born=seen.contains i):=fun i e hei=>by
    rw[Bool.eq_iff_iff]
    simp only[List.contains_iff_mem]
    constructor
    ·intro hin
     obtain⟨q,hq⟩:=List.getElem?_of_mem hin
     have hql:q<seen.length:=by rw[←hsl];exact(List.getElem?_eq_some_iff.1 hq).1
     obtain⟨e',k1,k2⟩:=hsn q seen[q] (List.getElem?_eq_getElem hql)
     rw[hq] at k2;simp at k2
     rw[X3 hrs hei k1 k2]
     exact List.getElem_mem hql
    ·intro hin
     obtain⟨q,hq⟩:=List.getElem?_of_mem hin
     obtain⟨e',k1,k2⟩:=hsn q i hq
     rw[hei] at k1;simp at k1;subst k1
     exact List.mem_of_getElem? k2
   rcases run_next_at (P:=E.P) w ty r m cl cl sn.toArray es cl hr hh hold (Nat.le_refl _) with⟨h0,hrun⟩|⟨e,hel,w1,hw1,hrun⟩
   ·refine CF h (he2 fun i hi=>?_) hrun over
    have hil:i<es.size:=by omega
    have hei:es[i]?=some es[i]:=Array.getElem?_eq_getElem hil
    rw[←hmem i _ hei]
    cases hcon:sn.contains es[i].born with
    |true=>rfl
    |false =>
     have hin:es[i]∈leftOf es sn.toArray:=by
      unfold leftOf
      rw[Array.mem_filter]
      refine⟨by simp,?_⟩
      simpa using hcon
     have hz:=Array.eq_empty_of_size_eq_zero h0
     rw[hz] at hin
     simp at hin
   ·have hel':e∈es/\sn.contains e.born=false:=by
     unfold leftOf at hel
     simp at hel
     simpa using hel
    obtain⟨i,hil,hie⟩:=Array.getElem_of_mem hel'.1
    have hei:es[i]?=some e:=by rw[Array.getElem?_eq_getElem hil,hie]
    have hlt:r<w.heap.size:=(Array.getElem?_eq_some_iff.1 hr).1
    have hmlt:m<w.heap.size:=(Array.getElem?_eq_some_iff.1 hh).1
    have hh1:w1.heap=w.heap:=by rcases hw1 with rfl|rfl<;>rfl
    have hK:=he1 i (by omega) (by rw[←hmem i _ hei];exact hel'.2)
    have hmr:r≠m:=fun e=>hm (.inr ⟨o,g,_,hob',by rw[hβo,e];rfl⟩)
    have honly:FR (β o g) w (ChangeMaps.setBlock w1 r (.mapIter (some m) cl (sn.toArray.push e.born) cl)):=by
     rw[hβo]
     refine⟨by rcases hw1 with rfl|rfl<;>rfl,by rcases hw1 with rfl|rfl<;>rfl,by rcases hw1 with rfl|rfl<;>rfl,by show w.heap.size<=(w1.heap.setIfInBounds r _).size;rw[hh1];simp,fun k hk hne=>?_⟩
     have hkr:r≠k:=fun e=>hne (by subst e;rfl)
     show (w1.heap.setIfInBounds r _)[k]?=_;rw[hh1,Array.getElem?_setIfInBounds_ne hkr]
    have hst:Ah (c.bar β s.V) w (ChangeMaps.setBlock w1 r (.mapIter (some m) cl (sn.toArray.push e.born) cl)):=fun k hk hlt=>honly.block k hlt fun hb=>hk (.inr ⟨o,g,_,hob',hb⟩)
    refine⟨_,_,_,_,β,hrun,hK,h.kept hob' honly fun fb' hf hfe=>?_,come _ _⟩
    rw[hβo]
    refine .mitD tys kvs _ r m es cl (sn++[e.born]) (fun hq=>hm (hf m hmlt hq)) ((hst m hm hmlt).trans hh) hl hrs ?_ (by simp[hsl]) (fun q j hq=>?_) fun i kv e k1 k2=>⟨(hent i kv e k1 k2).1.mono hst hf,(hent i kv e k1 k2).2.mono hst hf⟩
    ·show (w1.heap.setIfInBounds r _)[r]?=_
     rw[hh1];simp[hlt]
    ·by_cases hql:q<seen.length
     ·rw[List.getElem?_append_left hql] at hq
      obtain⟨e',k1,k2⟩:=hsn q j hq
      exact⟨e',k1,by rw[List.getElem?_append_left (by omega)];exact k2⟩
     ·rw[List.getElem?_append_right (by omega)] at hq
      have hq0:q-seen.length=0:=by
       have:=(List.getElem?_eq_some_iff.1 hq).1;simp at this;omega
      rw[hq0] at hq;simp at hq;subst hq
      refine⟨e,hei,?_⟩
      rw[List.getElem?_append_right (by omega),hsl,hq0];rfl
  ·exact he.elim
 ·exact he.elim
theorem K_ (r:Option Nat) (m:Nat) {draw:Bool}{fl:List Nat}{ns:Nat}{ops:List Oper}{Q:Exit->Act->World->Prop}{K:Bg->Prop}{rest:List Oper}:∀{l:List Oper}{is:List Ew}{s:Bg}{β:Nat->Nat->Value}{a:Act}{w:World},BV (Hz E draw fl ns ops) l=some is->Br E c β s a.tmps w->a.tmps.size=ns ->
  Gu E is s K->(∀s' β' tm' w',K s'->Br E c β' s' tm' w'->tm'.size=ns->wpListIn (rF r) m E.P ops.toArray Q rest ⟨tm',a.defers⟩ w')->wpListIn (rF r) m E.P ops.toArray Q (l++rest) a w
 |[],is,s,β,a,w,hd,h,hn,hs,hQ=>by
  simp[BV] at hd;subst hd
  exact hQ s β a.tmps w hs h hn
 |o::l,is,s,β,a,w,hd,h,hn,hs,hQ=>by
  simp only[BV] at hd
  split at hd
  ·cases hd
  ·rename_i I hI
   split at hd
   ·cases hd
   ·rename_i is' his
    simp at hd;subst hd
    simp only[Gu] at hs
    rw[List.cons_append]
    unfold wpListIn
    exact Hh r m h hI hn hs fun v ch β' tm' w' hk hr htm=>K_ r m (a:=⟨tm',a.defers⟩) his hr htm hk hQ
theorem NG (r:Option Nat) (m:Nat) {draw:Bool}{fl:List Nat}{ns:Nat}{ops:List Oper}{Q:Exit->Act->World->Prop}{K:Bg->Prop}{l:List Oper}{is:List Ew}{s:Bg}{β:Nat->Nat->Value}{a:Act}{w:World}(hd:BV (Hz E draw fl ns ops) l=some is) (h:Br E c β s a.tmps w) (hn:a.tmps.size=ns)
  (hs:Gu E is s K) (hQ:∀s' β' tm' w',K s'->Br E c β' s' tm' w'->tm'.size=ns->Q .normal ⟨tm',a.defers⟩ w'):wpListIn (rF r) m E.P ops.toArray Q l a w:=by
 have:=K_ r m (rest:=[]) hd h hn hs fun s' β' tm' w' hk hr htm=>wpListIn_nil (hQ s' β' tm' w' hk hr htm)
 rwa [List.append_nil] at this
theorem UI {f:Nat->Option iE}{s:Bg}{K:Bg->Prop}:∀{l:List Nat}{t:iE},hY f l=some t->MW E t s K->(l=[]->K s)/\∀i,i∈l->∃u,f i=some u/\MW E u s K
 |[],t,h,hs=>by simp[hY] at h;subst h;exact⟨fun _=>hs,fun i hi=>(by cases hi)⟩
 |[i],t,h,hs=>⟨fun e=>(by cases e),fun j hj=>by simp at hj;subst hj;exact⟨t,h,hs⟩⟩
 |i::j::l,t,h,hs=>by
  simp only[hY] at h
  split at h
  ·rename_i a b ha hb
   simp at h;subst h
   obtain⟨h1,h2⟩:=hs
   obtain⟨_,h3⟩:=UI hb h2
   refine⟨fun e=>(by cases e),fun k hk=>?_⟩
   rcases List.mem_cons.1 hk with rfl|hk
   ·exact⟨a,ha,h1⟩
   ·exact h3 k hk
  ·cases h
theorem Tl (rr:Option Nat) (m:Nat) {fl:List Nat}{ns:Nat}{ops:List Oper}{is:List Ew}{Q:Exit->Act->World->Prop}{K:Bg->Prop}(hd:BV (Hz E true fl ns ops) ops=some is)  :
  ∀(fuel:Nat) (listed:Array Bool) {t:iE}{s:Bg}{β:Nat->Nat->Value}{a:Act}{w:World},Tr ops.toArray is fuel listed=some t->Br E c β s a.tmps w->a.tmps.size=ns->MW E t s K ->
  (∀s' β' tm' w',K s'->Br E c β' s' tm' w'->tm'.size=ns->Q .normal ⟨tm',a.defers⟩ w')->wpAnyIn (rF rr) m E.P .any ops.toArray Q fuel listed a w
 |0,listed,t,s,β,a,w,ht,h,hn,hs,hQ=>by
  simp only[Tr] at ht
  split at ht
  ·rename_i hr;simp at ht;subst ht
   exact⟨hr,hQ s β a.tmps w hs h hn⟩
  ·cases ht
 |fuel+1,listed,t,s,β,a,w,ht,h,hn,hs,hQ=>by
  simp only[Tr] at ht
  obtain⟨h1,h2⟩:=UI ht hs
  refine⟨fun hnil=>hQ s β a.tmps w (h1 hnil) h hn,fun i hi=>?_⟩
  obtain⟨u,hu,hsu⟩:=h2 i hi
  split at hu
  ·rename_i I r hI hr
   simp at hu;subst hu
   obtain⟨o,ho,hdo⟩:=Bi hd hI
   unfold wpOpIn
   simp only[List.getElem?_toArray,ho]
   exact Hh rr m h hdo hn hsu fun v ch β' tm' w' hk hr' htm=>Tl rr m hd fuel _ (a:=⟨tm',a.defers⟩) hr hr' htm hk hQ
  ·cases hu
def U6:B7->Exit
 |.normal=>.normal
 |.exit id=>.exit id
 |.ret=>.ret
theorem UW {P:Program}{b:Frame}{a:Act}{k:List Item}{cs:List Frame}{w:World}{c:Code}:step P (lone (b.atR a (.code (.scope c)::k)) cs w)=.next (lone (b.atR a (.code c :: .inScope c::k)) cs w) :=
 step_lone_go (by simp[stepG,stepG.exec,Frame.atR])
theorem Ri {P:Program}{b:Frame}{a:Act}{k:List Item}{cs:List Frame}{w:World}{c:Code}:step P (lone (b.atR a (.inScope c::k)) cs w)=.next (lone (b.atR a k) cs w) :=
 step_lone_go (by simp[stepG,stepG.exec,Frame.atR])
theorem MU {F:Fence}{n:Nat}{P:Program}{c:Code}{Q:Exit->Act->World->Prop}{a:Act}{w:World}(h:c.wpIn F n P (Exit.noGoto Q) a w):(Code.scope c).wpIn F n P Q a w:=by
 intro b k cs hro hb hr
 have h0:StepsIn (Machine.fenced P F) P (lone (b.atR a (.code (.scope c)::k)) cs w) (lone (b.atR a (.code c :: .inScope c::k)) cs w):=.one (fenced_calm hb hr rfl) UW
 obtain⟨e,a₁,w₁,hq,harr⟩:=h b (.inScope c::k) cs hro hb hr
 cases e with
 |normal=>exact⟨.normal,a₁,w₁,hq,StepsIn.trans h0 (StepsIn.trans harr (.one (fenced_calm hb hr rfl) Ri))⟩
 |exit id=>exact⟨.exit id,a₁,w₁,hq,fun k' hk=>StepsIn.trans h0 (harr.1 k' (by simp[exitTo,hk])),fun hr' hk=>let ⟨k₁,h1,h2⟩:=harr.2 hr' (by simp[exitTo,hk]);⟨k₁,h1,StepsIn.trans h0 h2⟩⟩
 |goto l=>exact hq.elim
 |ret=>exact⟨_,a₁,w₁,hq,.of_steps h0 harr⟩
 |panic ch=>exact⟨_,a₁,w₁,hq,.of_steps h0 harr⟩
 |outgrown=>exact⟨_,a₁,w₁,hq,.of_steps h0 harr⟩
def IX (D:Nat):Deferred:={ target:=.collected D,args:=#[] }
def UK (c:D_) (D:Nat):Prop:=c.w0.heap[D]?=some (.deferred (some []))/\¬c.mine D/\¬c.may D/\c.fb D
theorem UK.lt {c:D_}{D:Nat}(h:UK c D):D<c.w0.heap.size:=(Array.getElem?_eq_some_iff.1 h.1).1
theorem UK.ext {c c':D_}{D:Nat}(h:UK c D) (e:TH c c'):UK c' D:=by
 have hlt:=h.lt
 refine⟨?_,fun hm=>?_,fun hm=>?_,?_⟩
 ·rw[(e.keep c'.w0 (D1.refl _ _)).block D hlt fun hh=>hh.elim h.2.1 h.2.2.1];exact h.1
 ·rcases e.mine D (.inr hm) with h1|h1
  ·omega
  ·exact h.2.1 h1
 ·rcases e.may D hm with h1|h1
  ·exact h.2.2.1 h1
  ·omega
 ·exact(e.fb D h.2.2.2).resolve_right h.2.2.1
structure Ig (c c':D_) (Ds:List Nat):Prop where
 none:c.nr=true->Ds=[]
 nodup:Ds.Nodup
 alive:∀D,D∈Ds->UK c' D/\c.w0.heap.size<=D
theorem Ig.nil (c c':D_):Ig c c' []:=⟨fun _=>rfl,.nil,fun D h=>by cases h⟩
theorem Ig.app {c c' c2:D_}{Ds Es:List Nat}(h:Ig c c' Ds) (k:Ig c' c2 Es) (e:TH c c') (e2:TH c' c2):Ig c c2 (Es++Ds):=by
 refine⟨fun hn=>by rw[h.none hn,k.none (e.nr.trans hn)];rfl,List.nodup_append.2 ⟨k.nodup,h.nodup,fun x hx y hy he=>?_⟩,fun D hD=>?_⟩
 ·subst he
  have h1:=(k.alive x hx).2
  have h2:=(h.alive x hy).1.lt
  omega
 ·rcases List.mem_append.1 hD with hD|hD
  ·exact⟨(k.alive D hD).1,Nat.le_trans e.size (k.alive D hD).2⟩
  ·exact⟨(h.alive D hD).1.ext e2,(h.alive D hD).2⟩
def ZK (E:CW) (ns:Nat) (c:D_) (a:Act) (Q:B7->Bg->Prop) (Q':Exit->Act->World->Prop):Prop :=
 ∀e s' β' c' tm' Ds w',Q e s'->TH c c'->VQ E c'->Ig c c' Ds->Br E c' β' s' tm' w'->tm'.size=ns->Q' (U6 e) ⟨tm',Ds.map IX++a.defers⟩ w'
theorem ZK.same {ns:Nat}{c:D_}{a:Act}{Q:B7->Bg->Prop}{Q':Exit->Act->World->Prop}(h:ZK E ns c a Q Q') (hy:VQ E c) {e s' β' tm' w'} (hq:Q e s') (hr:Br E c β' s' tm' w') (hn:tm'.size=ns):Q' (U6 e) ⟨tm',a.defers⟩ w' :=
 h e s' β' c tm' [] w' hq (TH.refl c) hy (Ig.nil _ _) hr hn
theorem ZK.on {ns:Nat}{c c1:D_}{a:Act}{Q Q1:B7->Bg->Prop}{Q':Exit->Act->World->Prop}{Ds:List Nat}{tm:Array Value}(h:ZK E ns c a Q Q') (e:TH c c1) (hk:Ig c c1 Ds) (hl:∀x,c.fb x->x<c.w0.heap.size) (hl1:∀x,c1.fb x->x<c1.w0.heap.size)
  (hq:∀e s,Q1 e s->Q e s):ZK E ns c1 ⟨tm,Ds.map IX++a.defers⟩ Q1 Q':=fun x s' β' c' tm' Es w' hq1 e1 hy hk1 hr hn=>by
 have:=h x s' β' c' tm' (Es++Ds) w' (hq _ _ hq1) (e.trans e1 hl1 hl) hy (hk.app hk1 e e1) hr hn
 rw[List.map_append,List.append_assoc] at this
 exact this
def Fz:B7->Option Code
 |.normal=>none
 |.exit id=>some (.exit id)
 |.ret=>some .ret
def lx (c:D_) (D:Nat) (b1:Nat->Value) (β:Nat->Nat->Value) (V:AL) (W:World) (M:Nat->Prop):D_ :=
 { w0:=W,fb:=fun b=>(c.fb b\/(b=D\/b=D+1))\/M b,mine:=De β V,b0:=b1,nr:=true }
structure rb (E:CW) (c:D_) (b1:Nat->Value) (ks:List Nat) (sl:Nat->AV) (tm:Array Value) (D:Nat) (rec:LoopState->Option Code->Obj) (JJ:Nat->AL->Prop) (Pd:B7->AL->Prop)
  (V:AL) (β:Nat->Nat->Value) (n:Nat) (st:Bool) (W:World) (M G:Nat->Prop):Prop where
 cn:V.cn=fun _=>1
 live:Fx ks sl V=true
 st:(st=false/\JJ n V/\W.heap[D+1]?=some (rec .ready none))\/(st=true/\∃e cd,Fz e=some cd/\Pd e V/\W.heap[D+1]?=some (rec .done (some cd)))
 dd:W.heap[D]?=some (.deferred (some []))
 rel:Br E (lx c D b1 β V W M) β ⟨sl,V⟩ tm W
 g:G=fun b=>(c.fb b\/(b=D\/b=D+1))\/De β V b
 up:D1 c.mine c.w0 W
 low:∀b,M b->D+2<=b
 size:D+2<=W.heap.size
 own:∀b,De β V b->c.w0.heap.size<=b\/c.mine b
def Z3 (E:CW) (c:D_) (b1:Nat->Value) (ks:List Nat) (sl:Nat->AV) (tm:Array Value) (D:Nat) (rec:LoopState->Option Code->Obj) (JJ:Nat->AL->Prop) (Pd:B7->AL->Prop) (n:Nat) (st:Bool) (W:World) (M G:Nat->Prop):Prop :=
 ∃V β,rb E c b1 ks sl tm D rec JJ Pd V β n st W M G
theorem ST {D:Nat}{b1:Nat->Value}{β:Nat->Nat->Value}{V:AL}{W:World}{M:Nat->Prop}{sl:Nat->AV}{tm:Array Value}(h:Br E (lx c D b1 β V W M) β ⟨sl,V⟩ tm W):∀o g els n st,V.ob o≠some (g,.hist els n st) :=
 fun o g els n st hx=>(h.hist o g els n st hx).2.2.1
theorem X2 {b1:Nat->Value}{ks:List Nat}{sl:Nat->AV}{tm:Array Value}{D:Nat}{rec:LoopState->Option Code->Obj}{JJ:Nat->AL->Prop}{Pd:B7->AL->Prop}(hc:c.w0.heap.size<=D):Sr (Z3 E c b1 ks sl tm D rec JJ Pd):=by
 rintro n st W M G W' M' ⟨V,β,h⟩ hup hM hlt
 have hD:∀b,b<D+2->W'.heap[b]?=W.heap[b]?:=fun b hb=>hup.block b (Nat.lt_of_lt_of_le hb h.size) fun hm=>by have:=h.low b hm;omega
 refine⟨V,β,h.cn,h.live,?_,by rw[hD D (by omega)];exact h.dd,?_,h.g,?_,fun b hb=>?_,Nat.le_trans h.size hup.size,h.own⟩
 ·rw[hD (D+1) (by omega)];exact h.st
 ·refine h.rel.shift (c':=lx c D b1 β V W' M') (hup.mono fun i _ hi=>.inr hi) (fun b hb hf=>?_) (fun b hb=>?_) (ST h.rel) rfl rfl rfl
  ·rcases hf with hf|hf
   ·exact .inl hf
   ·rcases hM b hf with h1|h1
    ·exact .inr h1
    ·omega
  ·rcases hb with hb|hb
   ·exact Nat.lt_of_lt_of_le (h.rel.low b (.inl hb)).1 hup.size
   ·exact hlt b hb
 ·refine h.up.trans hup fun i hi hm=>?_
  have:=h.low i hm
  omega
 ·rcases hM b hb with h1|h1
  ·exact h.low b h1
  ·exact Nat.le_trans h.size h1
def qM (E:CW) (ns:Nat) (p:PC) (code:Code):Prop:=∀(r:Option Nat) (m:Nat) {Q:B7->Bg->Prop}{Q':Exit->Act->World->Prop}{s:Bg}{c:D_}{β:Nat->Nat->Value}{a:Act}{w:World},
 Br E c β s a.tmps w->VQ E c->(c.nr=true->p.noR=true)->(r.isSome=true->c.nr=true)->a.tmps.size=ns->pw E p Q s->ZK E ns c a Q Q'->code.wpIn (rF r) m E.P Q' a w
theorem QG {ks:List Nat}{sl:Nat->AV}{V:AL}(h:Fx ks sl V=true) (hsl:∀t,t∉ks->(sl t).sites=[]) (t o:Nat) (ho:o∈(sl t).sites):∃x,V.ob o=some (0,x):=by
 by_cases ht:t∈ks
 ·have:=List.all_eq_true.1 (List.all_eq_true.1 h t ht) o ho
  cases hV:V.ob o with
  |none=>rw[hV] at this;cases this
  |some q =>
   obtain⟨g,x⟩:=q
   rw[hV] at this
   have hg:g=0:=by simpa using this
   subst hg;exact⟨x,rfl⟩
 ·rw[hsl t ht] at ho;cases ho
theorem X1 {ns:Nat}{b1:Nat->Value}{ks os2 ps:List Nat}{gs2:List EE}{sl:Nat->AV}{tm:Array Value}{D fn:Nat}{pa pb:PC}{ca cb:Code}{els:RD}{JJ:Nat->AL->Prop}{Pd:B7->AL->Prop}
  (hcD:c.w0.heap.size<=D) (hA:qM E ns pb cb) (hB:qM E ns pa ca) (hnoR:(pb.noR && pa.noR)=true) (htm:tm.size=ns) (hps:∀p,p∈ps->p<ns) (hsl:∀t,t∉ks->(sl t).sites=[]) (hlim:∀t o,o∈(sl t).sites->C_<=o)
  (hround:∀(n:Nat) (V:AL) (ds:List Go.Pw.D) (k:Nat),V.cn=(fun _=>1)->els.nx n ds k->JJ n V->ps.length=ds.length/\pw E pb (Ms fun s2=>pw E pa (mt JJ Pd k gs2 ks os2 sl) s2) ⟨KE sl ps ds,V⟩) :
  Sn E (D+1) els (Z3 E c b1 ks sl tm D (fun st p=>.loop { state:=st,pending:=p,fn,tmps:=tm,params:=ps.toArray,assign:=cb,body:=ca,defers:=D }) JJ Pd) (fun _=>False):=by
 rintro m n k W M G x vs ⟨V,β,h⟩ hx hM hG hvs hd
 obtain⟨_,hJ,hrec⟩:=h.st.resolve_right fun hh=>by cases hh.1
 obtain⟨hpl,hpw⟩:=hround n V x k h.cn hx hJ
 rw[Bool.and_eq_true] at hnoR
 have hbarG:∀b,(lx c D b1 β V W M).bar β V b->G b\/M b:=fun b hb=>by
  rw[h.g]
  rcases hb with(hb|hb)|hb
  ·exact .inl (.inl hb)
  ·exact .inr hb
  ·exact .inl (.inr hb)
 have hr0:=Br.params (vs:=vs.toList) h.rel hpl (by simpa using hvs) (fun p hp=>by rw[htm];exact hps p hp) fun i d v h1 h2=>(hd i d v h1 (by simpa using h2)).mono (Ah.refl _ _) fun b _ hb=>.inl (hbarG b hb)
 have hfold:(ps.toArray.zip vs).foldl (fun tmps (x:Nat×Value)=>tmps.setIfInBounds x.1 x.2) tm=(ps.zip vs.toList).foldl (fun tm p=>tm.setIfInBounds p.1 p.2) tm:=by
  rw[←Array.foldl_toList];simp
 refine⟨fn,(ps.zip vs.toList).foldl (fun tm p=>tm.setIfInBounds p.1 p.2) tm,cb,ca,?_,?_⟩
 ·rw[run_yield hrec (by simp;omega)]
  rw[←hfold]
 refine roundIn_of_wpIn trivial ?_
 refine hA (some (D+1)) m (a:=⟨_,[]⟩) hr0 (.pure rfl rfl) (fun _=>hnoR.1) (fun _=>rfl) (by simpa[Yg] using htm) hpw fun e s' β' c' tm' Ds w' hk he hy' hmk hr htm'=>?_
 cases e with
 |exit id=>exact hk.elim
 |ret=>exact hk.elim
 |normal =>
 have hDs:=hmk.none rfl
 subst hDs
 have hu1:D1 (De β V) W w':=(he.keep w' (hr.keep.upto.mono fun i _ hi=>.inl hi)).mono fun i _ hi=>hi.elim id False.elim
 have hnl:∀b,(c.fb b\/(b=D\/b=D+1))->¬De β V b/\b<W.heap.size:=fun b hb=>⟨(h.rel.low b (.inl hb)).2,(h.rel.low b (.inl hb)).1⟩
 have hrec':w'.heap[D+1]?=_:=(hu1.block (D+1) (hnl _ (.inr (.inr rfl))).2 (hnl _ (.inr (.inr rfl))).1).trans hrec
 refine⟨_,run_beginRound hrec' rfl,?_⟩
 have hf1:c'.fb (D+1):=(he.fb (D+1) (.inl (.inr (.inr rfl)))).resolve_right id
 have hr1:=hr.putFb (ob:=.loop { state:=.busy,pending:=none,fn,tmps:=tm,params:=ps.toArray,assign:=cb,body:=ca,defers:=D }) (Array.getElem?_eq_some_iff.1 hrec').1 hf1 (J:=c'.J) (fun n st hj=>by rw[he.J] at hj;exact hj.elim)
 have hnr':c'.nr=true:=he.nr
 refine hB (some (D+1)) m (a:=⟨tm',[]⟩) hr1 ⟨hy'.abide,hy'.yield,hy'.mayfb,hy'.sub,hy'.smay⟩ (fun _=>hnoR.2) (fun _=>hnr') htm' hk fun e2 s2 β2 c3 tm2 Ds2 w3 hk2 he2 hy3 hmk2 hr3 htm3=>?_
 have hDs:=hmk2.none hnr'
 subst hDs
 obtain⟨s4,β4,⟨hlive,hjj⟩,h4⟩:=C5 hr3 hk2
 have hu2:=he2.keep w3 (hr3.keep.upto.mono fun i _ hi=>.inl hi)
 have hD1:=(hnl _ (.inr (.inr rfl))).2
 have hrec3:=hu2.block (D+1) (by show D+1<(w'.putObj _ _).heap.size;rw[World.putObj_size];exact(Array.getElem?_eq_some_iff.1 hrec').1) fun hh=>by
  rcases hh with hh|hh
  ·exact(hr1.low _ hf1).2 hh
  ·rcases he.may _ hh with h1|h1
   ·exact h1
   ·have h1:W.heap.size<=D+1:=h1
    omega
 have hrec3:=hrec3.trans (World.putObj_heap_same (Array.getElem?_eq_some_iff.1 hrec').1)
 have hf3:c3.fb (D+1):=(he2.fb (D+1) hf1).resolve_right fun hh=>by
  rcases he.may _ hh with h1|h1
  ·exact h1
  ·have h1:W.heap.size<=D+1:=h1
   omega
 have hJ3:∀n st w0 mi ma,¬c3.J n st w0 mi ma:=fun n st w0 mi ma hj=>by
  rw[he2.J] at hj
  have hj:c'.J n st w0 mi ma:=hj
  rw[he.J] at hj;exact hj
 have fin:∃b G',Ending.returned (.bool (Fz e2).isNone)=.returned (.bool b)/\Z3 E c b1 ks sl tm D (fun st p=>.loop { state:=st,pending:=p,fn,tmps:=tm,params:=ps.toArray,assign:=cb,body:=ca,defers:=D }) JJ Pd k (!b) (w3.putObj (D+1) (.loop { state:=if (Fz e2).isNone then .ready else .done,pending:=Fz e2,fn,tmps:=tm,params:=ps.toArray,assign:=cb,body:=ca,defers:=D })) M G' /\
   D1 G W (w3.putObj (D+1) (.loop { state:=if (Fz e2).isNone then .ready else .done,pending:=Fz e2,fn,tmps:=tm,params:=ps.toArray,assign:=cb,body:=ca,defers:=D }))/\∀k,G' k->(G k\/W.heap.size<=k)/\k<(w3.putObj (D+1) (.loop { state:=if (Fz e2).isNone then .ready else .done,pending:=Fz e2,fn,tmps:=tm,params:=ps.toArray,assign:=cb,body:=ca,defers:=D })).heap.size:=by
  obtain⟨w4,hw4⟩:∃w4,w4=w3.putObj (D+1) (.loop { state:=if (Fz e2).isNone then .ready else .done,pending:=Fz e2,fn,tmps:=tm,params:=ps.toArray,assign:=cb,body:=ca,defers:=D }):=⟨_,rfl⟩
  have hlt3:=(Array.getElem?_eq_some_iff.1 hrec3).1
  have h5:=h4.putFb (ob:=.loop { state:=if (Fz e2).isNone then .ready else .done,pending:=Fz e2,fn,tmps:=tm,params:=ps.toArray,assign:=cb,body:=ca,defers:=D }) hlt3 hf3 (J:=c3.J) (fun n st hj=>(hJ3 _ _ _ _ _ hj).elim)
  have h6:=h5.nrmS [] os2
  have hrec4:w4.heap[D+1]?=some (.loop { state:=if (Fz e2).isNone then .ready else .done,pending:=Fz e2,fn,tmps:=tm,params:=ps.toArray,assign:=cb,body:=ca,defers:=D }):=by rw[hw4];exact World.putObj_heap_same hlt3
  have hsz4:w4.heap.size=w3.heap.size:=by rw[hw4];exact World.putObj_size
  have hp4:∀k,k≠D+1->w4.heap[k]?=w3.heap[k]?:=fun k hk=>by rw[hw4];exact World.putObj_heap_other hk
  have hu4:D1 (fun b=>b=D+1) w3 w4:=⟨by rw[hw4];rfl,by rw[hw4];rfl,by rw[hw4];rfl,by rw[hsz4];exact Nat.le_refl _,fun k _ hk=>hp4 k hk⟩
  rw[←hw4] at h6 ⊢
  have hmay:∀b,c'.may b->W.heap.size<=b:=fun b hb=>(he.may b hb).resolve_left id
  have hown1:∀b,De β' s'.V b->W.heap.size<=b\/De β V b:=fun b ⟨o,g,x,k1,k2⟩=>he.mine b (hr.home o g x b k1 k2).2.1
  have hu2':D1 (fun b=>b=D+1) w' (w'.putObj (D+1) (.loop { state:=.busy,pending:=none,fn,tmps:=tm,params:=ps.toArray,assign:=cb,body:=ca,defers:=D })) :=
   ⟨rfl,rfl,rfl,by rw[World.putObj_size];exact Nat.le_refl _,fun k _ hk=>World.putObj_heap_other hk⟩
  have hupW:D1 (fun b=>De β V b\/b=D+1) W w4:=by
   refine(((hu1.mono fun i _ hi=>.inl hi).trans hu2' fun i _ hi=>.inr hi).trans hu2 fun i hi hh=>?_).trans hu4 fun i _ hi=>.inr hi
   rcases hh with hh|hh
   ·rcases hown1 i hh with h1|h1
    ·omega
    ·exact .inl h1
   ·have:=hmay i hh;omega
  have hfb3:∀b,(lx c D b1 β V W M).fb b->c3.fb b:=fun b hb=>by
   have h1:=(he.fb b hb).resolve_right id
   refine(he2.fb b h1).resolve_right fun h2=>?_
   have:=hmay b h2
   have:=(h.rel.low b hb).1
   have:b<W.heap.size:=this
   omega
  have hown4:∀b,De β4 s4.V b->W.heap.size<=b\/De β V b:=fun b ⟨o,g,x,k1,k2⟩=>by
   rcases he2.mine b (h4.home o g x b k1 k2).2.1 with h1|h1
   ·have h1:(w'.putObj (D+1) _).heap.size<=b:=h1
    rw[World.putObj_size] at h1
    exact .inl (Nat.le_trans hu1.size h1)
   ·exact hown1 b h1
  have hownN:∀b,De (Ic β4 s4.V) (s4.V.nrm os2) b->W.heap.size<=b\/De β V b:=fun b ⟨o,g,x,k1,k2⟩=>by
   obtain⟨g',x',j1,_,j3⟩:=GK (β:=β4) k1
   rw[j3] at k2
   exact hown4 b ⟨o,g',x',j1,k2⟩
  have h7:=h.rel.wait (sl0:=sl) (V1:=s4.V.nrm os2) h6 h.cn rfl (fun b hn hlt=>hupW.block b hlt fun hh=>by
    rcases hh with hh|hh
    ·exact hn (.inr hh)
    ·exact hn (.inl (.inl (.inr (.inr hh))))) hupW.size hfb3 (fun b hlt hb=>(hownN b hb).resolve_left (by omega)) (fun o=>(he2.b0 o (.inr hnr')).trans (he.b0 o (.inr rfl)))
   (fun t o ho=>⟨hlim t o ho,QG h.live hsl t o ho,QG hlive hsl t o ho⟩) (fun o g els n st hx=>hJ3 _ _ _ _ _ (h6.hist o g els n st hx).2.2.1)
  have hcW:c.w0.heap.size<=W.heap.size:=by have:=h.size;omega
  have hlow4:∀k,(c.fb k\/(k=D\/k=D+1))->k<w4.heap.size:=fun k hk=>Nat.lt_of_lt_of_le (hnl k hk).2 hupW.size
  refine⟨(Fz e2).isNone,fun b=>(c.fb b\/(b=D\/b=D+1))\/De (Ic β4 s4.V) (s4.V.nrm os2) b,rfl,⟨s4.V.nrm os2,Ic β4 s4.V,rfl,hlive,?_,?_,h7,rfl,?_,h.low,Nat.le_trans h.size hupW.size,fun b hb=>?_⟩,?_,fun k hk=>⟨?_,?_⟩⟩
  ·cases e2 with
   |normal=>exact .inl ⟨rfl,hjj,hrec4⟩
   |ret=>exact .inr ⟨rfl,.ret,_,rfl,hjj,hrec4⟩
   |exit id=>exact .inr ⟨rfl,.exit id,_,rfl,hjj,hrec4⟩
  ·rw[hupW.block D (hnl D (.inr (.inl rfl))).2 fun hh=>hh.elim (hnl D (.inr (.inl rfl))).1 (by omega)];exact h.dd
  ·refine h.up.trans hupW fun i hi hh=>?_
   rcases hh with hh|hh
   ·rcases h.own i hh with h1|h1
    ·omega
    ·exact h1
   ·omega
  ·rcases hownN b hb with h1|h1
   ·exact .inl (Nat.le_trans hcW h1)
   ·exact h.own b h1
  ·refine hupW.mono fun i _ hi=>?_
   rw[h.g]
   rcases hi with hi|hi
   ·exact .inr hi
   ·exact .inl (.inr (.inr hi))
  ·rw[h.g]
   rcases hk with hk|hk
   ·exact .inl (.inl hk)
   ·rcases hownN k hk with h1|h1
    ·exact .inr h1
    ·exact .inl (.inr h1)
  ·rcases hk with hk|hk
   ·exact hlow4 k hk
   ·obtain⟨o,g,x,k1,k2⟩:=hk
    exact(h6.home o g x k k1 k2).1
 cases e2 with
 |normal=>exact⟨_,_,run_endRound none hrec3,fin⟩
 |ret=>exact⟨_,_,run_endRound (some .ret) hrec3,fin⟩
 |exit id=>exact⟨_,_,run_endRound (some (.exit id)) hrec3,fin⟩
theorem fW (a:AV):∀o,o∈a.mv.sites->C_<=o:=by
 have key:∀(n:Nat) (a:AV),SizeOf.sizeOf a<n->∀o,o∈a.mv.sites->C_<=o:=by
  intro n
  induction n with
  |zero=>intro a h;omega
  |succ n ih =>
   have hl:∀cs:List AV,SizeOf.sizeOf cs<=n->∀o,o∈AV.sites.sitesL (AV.mv.mvL cs)->C_<=o:=by
    intro cs
    induction cs with
    |nil=>intro _ o ho;cases ho
    |cons x xs ihx =>
     intro hs o ho
     simp only[AV.mv.mvL,AV.sites.sitesL,List.mem_append] at ho
     simp at hs
     rcases ho with ho|ho
     ·exact ih x (by omega) o ho
     ·exact ihx (by omega) o ho
   intro a h o ho
   cases a with
   |own o' g=>simp[AV.mv,AV.sites] at ho;subst ho;exact N5 _
   |map o' g=>simp[AV.mv,AV.sites] at ho;subst ho;exact N5 _
   |ptr o' g off=>simp[AV.mv,AV.sites] at ho;subst ho;exact N5 _
   |rptr o' g es i off=>simp[AV.mv,AV.sites] at ho;subst ho;exact N5 _
   |mref k o' g=>simp[AV.mv,AV.sites] at ho;subst ho;exact N5 _
   |ablk sl cs off=>simp at h;exact hl cs (by omega) o (by simpa[AV.mv,AV.sites] using ho)
   |agg cs=>simp at h;exact hl cs (by omega) o (by simpa[AV.mv,AV.sites] using ho)
   |fn f cs=>simp at h;exact hl cs (by omega) o (by simpa[AV.mv,AV.sites] using ho)
   |bnd f cs=>simp at h;exact hl cs (by omega) o (by simpa[AV.mv,AV.sites] using ho)
   |tup cs=>simp at h;exact hl cs (by omega) o (by simpa[AV.mv,AV.sites] using ho)
   |_=>simp[AV.mv,AV.sites] at ho
 exact key _ a (Nat.lt_succ_self _)
theorem YH (s:Bg) (ks os:List Nat) (t:Nat) (ht:t∉ks):((s.nrm ks os).mv.sl t).sites=[]:=by
 simp[Bg.mv,Bg.nrm,ht,AV.mv,AV.sites]
theorem QF {ns:Nat}{o:Oper}{cl:Call}{x:Operand}{y:Hd}{ys:List Hd}(r:Option Nat) (m:Nat) {β2:Nat->Nat->Value}{s2:Bg}{tm2:Array Value}{w2:World}(hr2:Br E c β2 s2 tm2 w2) (hy:VQ E c) (ho:o.op=.call cl) (hc:cl.callee=.value x)
  (hx:Oi E x=some y) (hxs:Qa E cl.args.toList=some ys) (hd:∀t,o.dst=some t->t<ns) (ht2:tm2.size=ns) {ds0:List Deferred}{K2:AV->B3->Prop}(hk:PE E (y.val s2.sl) (ys.map (Hd.val s2.sl)) s2.V K2) {Kc:Act->World->Prop}{Q':Exit->Act->World->Prop}
  (hKK:∀v ch c' β' tm' w',K2 v ch->TH c c'->VQ E c'->Br E c' β' (put s2 o.dst v ch) tm' w'->tm'.size=ns->Kc ⟨tm',ds0⟩ w'):o.wpIn (rF r) m E.P ⟨tm2,ds0⟩ w2 Kc Q':=by
 unfold PE at hk
 split at hk
 ·rename_i f cs hyv
  obtain⟨hbf,o',els,n,Post,hget,hoh,hA,hK⟩:=hk
  have hob:=AL.get_some hget
  have hv:=JY (a:=⟨tm2,ds0⟩) hr2 hx
  rw[hyv] at hv
  obtain⟨caps,hval,hcl,hcr⟩:∃caps:Array Value,(⟨tm2,ds0⟩:Act).eval x=.func (.func f) #[] caps/\caps.size=cs.length/\∀(i:Nat) (c':AV) (v:Value),cs[i]?=some c'->caps[i]?=some v->AM w2 (c.bar β2 s2.V) β2 s2.V.cn c' v:=by
   generalize (⟨tm2,ds0⟩:Act).eval x=v at hv
   cases hv with|fn _ _ vs hl hh=>exact⟨vs,rfl,hl,hh⟩
  have hargs:=P6 (a:=⟨tm2,ds0⟩) hr2 hxs
  have hl1:=hargs.1
  have hcall:=W9 (a:=⟨tm2,ds0⟩) hr2 hy hob hA (us:=cl.args.map (⟨tm2,ds0⟩:Act).eval++caps) (by simp at hl1 ⊢;omega) (fun i x' v k1 k2=>by
   by_cases hlt:i<(ys.map (Hd.val s2.sl)).length
   ·rw[List.getElem?_append_left hlt] at k1
    rw[Array.getElem?_append_left (by simp at hl1 hlt ⊢;omega)] at k2
    exact hargs.2 i x' v k1 (by simpa using k2)
   ·rw[List.getElem?_append_right (by omega)] at k1
    rw[Array.getElem?_append_right (by simp at hl1 hlt ⊢;omega)] at k2
    refine hcr _ x' v k1 ?_
    rw[←k2];congr 1
    simp at hl1 ⊢;omega) hoh
  refine⟨fun _ _=>trivial,?_⟩
  rw[Ny,Oper.semAt_eq r _ o (fun cc hcc=>by rw[ho] at hcc;cases hcc)]
  have hex:(execOp (⟨tm2,ds0⟩:Act).eval o).run E.P w2=.ok (.enter f (cl.args.map (⟨tm2,ds0⟩:Act).eval++caps)) w2:=by
   simp[execOp,ho,resolve,hc,hval,QL,invoke,HZ hbf]
  rw[hex,Oper.uponIn_enter]
  refine⟨fun h=>by simp[rF,Fence.wide] at h,?_⟩
  show CallsIn Fence.wide (m-1) E.P f _ w2 _
  refine callsIn_wide.2 (hcall.mono fun e W' ⟨v,n1,st1,rr,c',he,hp,hd',hext,hy',hrel⟩=>?_)
  subst he
  obtain⟨hfl,hk2⟩:=hK n1 st1 rr hp
  simp only
  have hput:∀u,(⟨tm2,ds0⟩:Act).put o.dst u=⟨((⟨tm2,ds0⟩:Act).put o.dst u).tmps,ds0⟩:=fun u=>by cases o.dst<;>rfl
  have hrp:=IK (tm:=tm2) (dst:=o.dst) (v:=up rr) (u:=v) hrel (UR (Az.of_flat hfl hd')) fun t ht=>by
   show t<tm2.size
   rw[ht2];exact hd t ht
  rw[hput]
  exact hKK _ _ c' _ _ _ hk2 hext hy' hrp (by rw[Act.put_size];exact ht2)
 ·rename_i o' g hyv
  split at hk
  ·rename_i els n hget
   split at hk
   ·rename_i ds hds
    obtain⟨k,he,hk1,hk2⟩:=hk
    have hob:=AL.get_some hget
    obtain⟨_,hβ,_,_⟩:=hr2.hist _ _ _ _ _ hob
    have hv:=JY (a:=⟨tm2,ds0⟩) hr2 hx
    rw[hyv] at hv
    have hval:(⟨tm2,ds0⟩:Act).eval x=.func (.yield c.yl) #[] #[]:=by
     generalize (⟨tm2,ds0⟩:Act).eval x=v at hv
     cases hv with|own=>exact hβ
    have hargs:=P6 (a:=⟨tm2,ds0⟩) hr2 hxs
    unfold FB at hds
    have hlen:=Aw hds
    have hl1:=hargs.1
    have hys:=Z4 (a:=⟨tm2,ds0⟩) hr2 hy hob he (us:=cl.args.map (⟨tm2,ds0⟩:Act).eval) (by simp at hl1 hlen ⊢;omega) (fun i d v hd1 hv1=>by
     obtain⟨z,hz,hzd⟩:=Bi hds hd1
     exact(CD (hargs.2 i z v hz (by simpa using hv1)) hzd).1) (m-1)
    obtain⟨fn,tmps,assign,body,hrun,hround⟩:=hys
    refine⟨fun _ _=>trivial,?_⟩
    rw[Ny,Oper.semAt_eq r _ o (fun cc hcc=>by rw[ho] at hcc;cases hcc)]
    have hex:(execOp (⟨tm2,ds0⟩:Act).eval o).run E.P w2=.ok (.round c.yl fn tmps assign body) w2:=by
     simp[execOp,ho,resolve,hc,hval,Deferred.ofValue,invoke,hrun]
    rw[hex,Oper.uponIn_round]
    refine⟨fun h=>by simp[rF,Fence.wide] at h,?_⟩
    show RoundIn Fence.wide (m-1) E.P c.yl fn tmps assign body w2 _
    refine hround.mono fun e W' hh=>?_
    obtain⟨b,c',rfl,hext,hy',hrel⟩:=hh
    simp only
    have hput:∀u,(⟨tm2,ds0⟩:Act).put o.dst u=⟨((⟨tm2,ds0⟩:Act).put o.dst u).tmps,ds0⟩:=fun u=>by cases o.dst<;>rfl
    have hrp:=IK (tm:=tm2) (dst:=o.dst) (v:=.d (.bool b)) (u:=.bool b) hrel (.d _ _ (.bool b)) fun t ht=>by
     show t<tm2.size
     rw[ht2];exact hd t ht
    rw[hput]
    exact hKK (.d (.bool b)) (.keep o' g (.hist els k (!b))) c' _ _ _ (by cases b;exact hk2;exact hk1) hext hy' hrp (by rw[Act.put_size];exact ht2)
   ·exact hk.elim
  ·exact hk.elim
 ·exact hk.elim
theorem WH {fl:List Nat}{ns:Nat}(hm:E.P.follows .mixedOrders=true) {p:PC}{code:Code}(hp:DW E fl ns p code) (r:Option Nat) (m:Nat):∀{Q:B7->Bg->Prop}{Q':Exit->Act->World->Prop}{s:Bg}{c:D_}{β:Nat->Nat->Value}{a:Act}{w:World},Br E c β s a.tmps w->VQ E c->(c.nr=true->p.noR=true)->(r.isSome=true->c.nr=true)->a.tmps.size=ns->pw E p Q s ->
  ZK E ns c a Q Q'->code.wpIn (rF r) m E.P Q' a w:=by
 induction hp generalizing r m with
 |skip=>intro Q Q' s c β a w h hy hnr hrr hn hs hQ;exact wpIn_skip (hQ.same (e:=.normal) hy hs h hn)
 |reg hd =>
  intro Q Q' s c β a w h hy hnr hrr hn hs hQ
  simp only[pw] at hs
  obtain⟨s1,β1,hs1,h1⟩:=C5 h hs
  exact wpIn_region_lit (NG r m hd h1 hn hs1 fun s' β' tm' w' hk hr htm=>hQ.same (e:=.normal) hy hk (hr.keepS _) htm)
 |draw hd hok =>
  intro Q Q' s c β a w h hy hnr hrr hn hs hQ
  simp only[pw] at hs
  obtain⟨s1,β1,hs1,h1⟩:=C5 h hs
  rename_i id ops gs l pre ks
  refine wpIn_region_any hm ?_
  have hdr:Br E c β1 s1 a.tmps { w with drawn:=w.drawn+1 }:=h1.grow (Nj w)
  have:=Yz r m (fl:=fl) (Q:=Q') (fun k o I dy ho hk=>?_) (by have:=Aw hd;simpa using this) hok hdr hn hs1 fun s' β' tm' w' hk hr htm=>hQ.same (e:=.normal) hy hk (hr.keepS _) htm
  ·simpa using this
  ·obtain⟨y,hy1,hy2⟩:=Cw hd ho
   rw[List.getElem?_map,hk] at hy1
   simp at hy1;subst hy1;exact hy2
 |any hd ht =>
  intro Q Q' s c β a w h hy hnr hrr hn hs hQ
  simp only[pw] at hs
  obtain⟨s1,β1,hs1,h1⟩:=C5 h hs
  rename_i id ops gs t is ks
  refine wpIn_region_any hm ?_
  have hdr:Br E c β1 s1 a.tmps { w with drawn:=w.drawn+1 }:=h1.grow (Nj w)
  have:=Tl r m (Q:=Q') hd ops.length _ (by simpa using ht) hdr hn hs1 fun s' β' tm' w' hk hr htm=>hQ.same (e:=.normal) hy hk (hr.keepS _) htm
  simpa using this
 |seq h1 h2 ih1 ih2 =>
  intro Q Q' s c β a w h hy hnr hrr hn hs hQ
  simp only[pw] at hs
  refine wpIn_seq (ih1 r m h hy (fun e=>(Bool.and_eq_true_iff.1 (hnr e)).1) hrr hn hs fun e s' β' c' tm' Ds w' hk he hy' hmk hr htm=>?_)
  cases e with
  |normal=>exact ih2 r m (a:=⟨tm',Ds.map IX++a.defers⟩) hr hy' (fun e=>(Bool.and_eq_true_iff.1 (hnr (he.nr.symm.trans e))).2) (fun e=>he.nr.trans (hrr e)) htm hk (hQ.on he hmk (fun x hx=>(h.low x hx).1) (fun x hx=>(hr.low x hx).1) fun _ _ h=>h)
  |exit id=>exact hQ (.exit id) s' β' c' tm' Ds w' hk he hy' hmk hr htm
  |ret=>exact hQ .ret s' β' c' tm' Ds w' hk he hy' hmk hr htm
 |cond hx h1 h2 ih1 ih2 =>
  intro Q Q' s c β a w h hy hnr hrr hn hs hQ
  simp only[pw,SU] at hs
  split at hs
  ·rename_i b hb
   have hv:=JY (a:=a) h hx
   rw[hb] at hv
   refine wpIn_cond (Hj hv) ?_
   cases b with
   |true=>simp at hs ⊢;exact ih1 r m h hy (fun e=>(Bool.and_eq_true_iff.1 (hnr e)).1) hrr hn hs hQ
   |false=>simp at hs ⊢;exact ih2 r m h hy (fun e=>(Bool.and_eq_true_iff.1 (hnr e)).2) hrr hn hs hQ
  ·exact hs.elim
 |block h1 ih =>
  intro Q Q' s c β a w h hy hnr hrr hn hs hQ
  simp only[pw] at hs
  refine wpIn_block (ih r m h hy hnr hrr hn hs fun e s' β' c' tm' Ds w' hk he hy' hmk hr htm=>?_)
  cases e with
  |normal=>exact hQ .normal s' β' c' tm' Ds w' hk he hy' hmk hr htm
  |ret=>exact hQ .ret s' β' c' tm' Ds w' hk he hy' hmk hr htm
  |exit i =>
   simp only[J8] at hk
   simp only[U6,Exit.inBlock]
   split at hk
   ·rename_i e;rw[if_pos e];exact hQ .normal s' β' c' tm' Ds w' hk he hy' hmk hr htm
   ·rename_i e;rw[if_neg e];exact hQ (.exit i) s' β' c' tm' Ds w' hk he hy' hmk hr htm
 |loop h1 ih =>
  intro Q Q' s c β a w h hy hnr hrr hn hs hQ
  rename_i gs ks os p' code'
  simp only[pw] at hs
  obtain⟨J,hg0,hround⟩:=hs
  obtain⟨s0,β0,⟨n0,hJ⟩,h0⟩:=C5 h hg0
  intro b k cs hro hb hr
  have hl0:∀x,c.fb x->x<c.w0.heap.size:=fun x hx=>(h.low x hx).1
  have key:∀n (s:Bg) (c':D_) (β:Nat->Nat->Value) (Ds:List Nat) (a':Act) (w:World),J n s->TH c c'->VQ E c'->Ig c c' Ds->Br E c' β s a'.tmps w->a'.tmps.size=ns->a'.defers=Ds.map IX++a.defers ->
    ∃e a1 w',Q' e a1 w'/\ArrivesIn (Machine.fenced E.P (rF r)) E.P (lone (b.atR a' (.code code' :: .inLoop code'::k)) cs w) b k cs e a1 w':=by
   intro n
   induction n using Nat.strongRecOn with
   |_ n ihn =>
    intro s c' β Ds a' w hJs hex hyc hmk hrel htm hdef
    have hl1:∀x,c'.fb x->x<c'.w0.heap.size:=fun x hx=>(hrel.low x hx).1
    have:=ih r m (Q':=Exit.then (fun a1 w1=>∃n1 s1 c1 β1 Ds1,J n1 s1/\n1<n/\TH c c1/\VQ E c1/\Ig c c1 Ds1/\Br E c1 β1 s1 a1.tmps w1/\a1.tmps.size=ns/\a1.defers=Ds1.map IX++a.defers) Q') hrel hyc (fun e=>hnr (hex.nr.symm.trans e)) (fun e=>hex.nr.trans (hrr e)) htm (hround n s hJs) fun e s' β' c2 tm' Es w' hk he2 hy2 hmk2 hr' htm'=>?_
    ·obtain⟨e,a1,w1,hq,harr⟩:=this b (.inLoop code'::k) cs hro hb hr
     cases e with
     |normal =>
      obtain⟨n1,s1,c1,β1,Ds1,hJ1,hlt,hex1,hy1,hmk1,hr1,ht1,hd1⟩:=hq
      obtain⟨e2,a2,w2,hq2,harr2⟩:=ihn n1 hlt s1 c1 β1 Ds1 a1 w1 hJ1 hex1 hy1 hmk1 hr1 ht1 hd1
      exact⟨e2,a2,w2,hq2,.of_steps (StepsIn.trans harr (.one (fenced_calm hb hr rfl) stepR_inLoop)) harr2⟩
     |exit id=>exact⟨_,a1,w1,hq,.pass (x:=.inLoop code') rfl (fun _ _=>.inl (by simp)) harr⟩
     |goto l=>exact⟨_,a1,w1,hq,.pass (x:=.inLoop code') rfl (fun _ _=>.inl (by simp)) harr⟩
     |ret=>exact⟨_,a1,w1,hq,.pass (x:=.inLoop code') rfl (fun _ _=>.inl (by simp)) harr⟩
     |panic ch=>exact⟨_,a1,w1,hq,.pass (x:=.inLoop code') rfl (fun _ _=>.inl (by simp)) harr⟩
     |outgrown=>exact⟨_,a1,w1,hq,.pass (x:=.inLoop code') rfl (fun _ _=>.inl (by simp)) harr⟩
    ·have hd2:Es.map IX++a'.defers=(Es++Ds).map IX++a.defers:=by rw[hdef,List.map_append,List.append_assoc]
     cases e with
     |normal =>
      simp only[KD] at hk
      obtain⟨s3,β3,⟨m',hm',hJm⟩,h3⟩:=C5 hr' hk
      exact⟨m',_,c2,_,Es++Ds,hJm,hm',hex.trans he2 hl1 hl0,hy2,hmk.app hmk2 hex he2,h3.nrmS _ _,htm',hd2⟩
     |exit id =>
      show Q' (.exit id) ⟨tm',Es.map IX++a'.defers⟩ w'
      rw[hd2];exact hQ (.exit id) s' β' c2 tm' (Es++Ds) w' hk (hex.trans he2 hl1 hl0) hy2 (hmk.app hmk2 hex he2) hr' htm'
     |ret =>
      show Q' .ret ⟨tm',Es.map IX++a'.defers⟩ w'
      rw[hd2];exact hQ .ret s' β' c2 tm' (Es++Ds) w' hk (hex.trans he2 hl1 hl0) hy2 (hmk.app hmk2 hex he2) hr' htm'
  obtain⟨e,a1,w1,hq,harr⟩:=key n0 _ c _ [] a w hJ (TH.refl c) hy (Ig.nil _ _) (h0.nrmS ks os) hn rfl
  exact⟨e,a1,w1,hq,.of_steps (.one (fenced_calm hb hr rfl) stepR_loop) harr⟩
 |exit=>intro Q Q' s c β a w h hy hnr hrr hn hs hQ;exact wpIn_exit (hQ.same (e:=.exit _) hy hs h hn)
 |ret=>intro Q Q' s c β a w h hy hnr hrr hn hs hQ;exact wpIn_ret (hQ.same (e:=.ret) hy hs h hn)
 |dead=>intro Q Q' s c β a w h hy hnr hrr hn hs hQ;exact hs.elim
 |scope h1 ih =>
  intro Q Q' s c β a w h hy hnr hrr hn hs hQ
  refine MU (ih r m (Q':=Exit.noGoto Q') h hy hnr hrr hn hs fun e s' β' c' tm' Ds w' hk he hy' hmk hr htm=>?_)
  have h2:=hQ e s' β' c' tm' Ds w' hk he hy' hmk hr htm
  cases e<;>exact h2
 |lab=>intro Q Q' s c β a w h hy hnr hrr hn hs hQ;exact wpIn_label (hQ.same (e:=.normal) hy hs h hn)
 |rngF hx hps h1 h2 ih1 ih2 =>
  intro Q Q' s c β a w h hy hnr hrr hn hs hQ
  rename_i gs x g ps ks os pb gs2 os2 pa cb ca
  have hcn:c.nr=false:=by
   cases hc:c.nr with
   |false=>rfl
   |true=>exact absurd (hnr hc) (by simp[PC.noR])
  have hr:r=none:=by
   cases r with
   |none=>rfl
   |some l=>exact absurd (hnr (hrr rfl)) (by simp[PC.noR])
  subst hr
  simp only[pw] at hs
  obtain⟨s0,β0,hs0,h0⟩:=C5 h hs
  have hv:=JY (a:=a) h0 hx
  obtain⟨f,pre,post,vs,caps,hval,hlen,hlenp,hvs,hpost,hbody,hnoR,els,hseq,JJ,Pd,hw0,hJ0,hround,hend,hjump⟩:=ek hs0 hv
  ·have h1r:=(h0.nrmS ks os).mv rfl
   refine wpIn_rangeFunc fun fn _=>?_
   have henter:=run_enterLoop_outer (P:=E.P) (w:=w) fn a.tmps ps.toArray cb ca
   obtain⟨w1,hw1⟩:∃w1,w1=(w.alloc (.deferred (some []))).alloc (.loop { state:=.ready,pending:=none,fn,tmps:=a.tmps,params:=ps.toArray,assign:=cb,body:=ca,defers:=w.heap.size }):=⟨_,rfl⟩
   rw[←hw1] at henter
   refine⟨w.heap.size+1,[IX w.heap.size],w1,⟨.fn (.func f) caps,vs++#[.func (.yield (w.heap.size+1)) #[] #[]]⟩,w1,f,vs++#[.func (.yield (w.heap.size+1)) #[] #[]]++caps,w1,henter,?_,fun _ _=>trivial,?_,fun h=>by simp[rF,Fence.wide] at h,?_⟩
   ·have hk:∀v,a.eval (.const v)=v:=fun _=>rfl
    simp[resolve,rangeCall,hval,hk,Deferred.ofValue]
   ·simp[invoke,HZ hbody]
   ·obtain⟨D,hDe⟩:∃D,D=w.heap.size:=⟨_,rfl⟩
    obtain⟨b1,hb1⟩:∃b1:Nat->Value,b1=fun o=>if o<5000000 then c.b0 o else Ic β0 s0.V (unr o) 0:=⟨_,rfl⟩
    obtain⟨β1,hβ1⟩:∃β1:Nat->Nat->Value,β1=fun o g=>Ic β0 s0.V (unr o) g:=⟨_,rfl⟩
    have hsl0:∀t,t∉ks->((s0.nrm ks os).mv.sl t).sites=[]:=YH s0 ks os
    have hlm0:∀t o,o∈((s0.nrm ks os).mv.sl t).sites->C_<=o:=fun t=>fW _
    have hnh:∀o g els n st,(s0.nrm ks os).mv.V.ob o≠some (g,.hist els n st):=fun o g els n st hx=>by
     obtain⟨_,x,_,h4⟩:=AL.mv_ob hx
     exact Tp h4
    have hcn1:(s0.nrm ks os).mv.V.cn=fun _=>1:=rfl
    have hown0:∀b,De β1 (s0.nrm ks os).mv.V b->De β0 s0.V b:=fun b ⟨o,g,x,k1,k2⟩=>by
     subst hβ1
     obtain⟨_,x',j1,_⟩:=AL.mv_ob k1
     obtain⟨g',x2,j2,_,j3⟩:=GK (β:=β0) j1
     have k2:C8 (Ic β0 s0.V (unr o) g) b:=k2
     rw[j3] at k2
     exact⟨_,g',x2,j2,k2⟩
    have hown1:∀b,De β0 s0.V b->(c.w0.heap.size<=b\/c.mine b)/\b<w.heap.size/\¬c.fb b:=fun b ⟨o,g,x,k1,k2⟩=>⟨(h0.home o g x b k1 k2).2.1,(h0.home o g x b k1 k2).1,(h0.home o g x b k1 k2).2.2⟩
    rw[←hβ1] at h1r
    obtain⟨sv1,hsv1⟩:∃sv1,sv1=(s0.nrm ks os).mv:=⟨_,rfl⟩
    rw[←hsv1] at h1r hw0 hJ0 hround hend hjump hsl0 hlm0 hnh hcn1 hown0
    obtain⟨sl1,V1⟩:=sv1
    have hlow:∀b,c.fb b->b<c.w0.heap.size:=fun b hb=>(h.low b hb).1
    have hcD:c.w0.heap.size<=D:=by rw[hDe];exact h.keep.size
    have hbel:Below w.heap.size w w1:=by
     rw[hw1]
     exact(CJ w _).trans ((CJ _ _).mono (by simp[World.size_alloc]))
    have hsz1:w1.heap.size=D+2:=by rw[hw1,hDe];simp[World.size_alloc]
    rw[←hDe]
    have hrec1:w1.heap[D+1]?=some (.loop { state:=.ready,pending:=none,fn,tmps:=a.tmps,params:=ps.toArray,assign:=cb,body:=ca,defers:=D }):=by
     rw[hw1,hDe,show w.heap.size+1=(w.alloc (.deferred (some []))).heap.size by simp[World.size_alloc]];exact World.alloc_heap_new _ _
    have hdd1:w1.heap[D]?=some (.deferred (some [])):=by
     have h2:(w.alloc (.deferred (some []))).heap[D]?=some (.deferred (some [])):=by rw[hDe];exact World.alloc_heap_new _ _
     rw[hw1,(CJ (w.alloc (.deferred (some []))) _).block D (by simp[World.size_alloc,hDe])];exact h2
    have hG1:Br E (lx c D b1 β1 V1 w1 (fun _=>False)) β1 ⟨sl1,V1⟩ a.tmps w1 :=
     h1r.growFb (X:=fun b=>b=D\/b=D+1) hbel (fun b hb=>by rw[hsz1,←hDe];omega) hnh rfl (by funext b;simp[lx]) rfl (by rw[hb1];rfl)
    obtain⟨G,hGe⟩:∃G:Nat->Prop,G=fun b=>(c.fb b\/(b=D\/b=D+1))\/De β1 V1 b:=⟨_,rfl⟩
    have hGb:∀b,G b->(lx c D b1 β1 V1 w1 (fun _=>False)).bar β1 V1 b:=fun b hb=>by
     rw[hGe] at hb
     rcases hb with hb|hb
     ·exact .inl (.inl hb)
     ·exact .inr hb
    have hup0:D1 c.mine c.w0 w1:=h0.keep.upto.trans (M':=fun _=>False) ⟨hbel.os,hbel.tape,hbel.output,hbel.size,fun k hk _=>hbel.block k hk⟩ fun _ _ h=>h.elim
    refine callsIn_wide.2 ?_
    have hcall:=hseq (D+1) (Z3 E c b1 ks sl1 a.tmps D (fun st p=>.loop { state:=st,pending:=p,fn,tmps:=a.tmps,params:=ps.toArray,assign:=cb,body:=ca,defers:=D }) JJ Pd) w1 G G (vs++#[.func (.yield (D+1)) #[] #[]]++caps)
     (X2 hcD) (X1 hcD (fun r m=>ih1 r m) (fun r m=>ih2 r m) hnoR hn hps hsl0 hlm0 hround)
     ⟨V1,β1,hcn1,hw0,.inl ⟨rfl,hJ0,hrec1⟩,hdd1,hG1,hGe,hup0,fun b hb=>hb.elim,by omega,fun b hb=>(hown1 b (hown0 b hb)).1⟩
     (fun b hb=>by
      rw[hGe] at hb
      rcases hb with hb|⟨o,g,x,k1,k2⟩
      ·exact(hG1.low b (.inl hb)).1
      ·exact(hG1.home o g x b k1 k2).1) (fun b hb=>hb)
     (fun gg cs hgg=>(hG1.glob gg cs hgg).mono (Ah.refl _ _) fun b _ hb=>hGb b hb)
     (by simp[hlen,hlenp]) (by rw[←hlen,Array.getElem?_append_left (by simp)];simp)
     (fun i d v k1 k2=>by
      have hlt:i<vs.size:=by rw[hlen];exact(List.getElem?_eq_some_iff.1 k1).1
      rw[Array.getElem?_append_left (by simp;omega),Array.getElem?_append_left hlt] at k2
      refine(hvs i d v k1 k2).mono (.of_below hbel) fun b hlt hb=>?_
      rw[hGe] at hb
      rcases hb with(hb|hb)|hb
      ·exact .inl hb
      ·omega
      ·exact .inr (hown0 b hb))
     (fun i d v k1 k2=>by
      rw[Array.getElem?_append_right (by simp;omega),show pre.length+1+i-(vs++#[Value.func (.yield (D+1)) #[] #[]]).size=i by simp;omega] at k2
      refine(hpost i d v k1 k2).mono (.of_below hbel) fun b hlt hb=>?_
      rw[hGe] at hb
      rcases hb with(hb|hb)|hb
      ·exact .inl hb
      ·omega
      ·exact .inr (hown0 b hb))
    refine hcall.mono fun e w' ⟨v,n,st,G',he,hfin,⟨V,β',hJ⟩,hupG,hG'⟩=>?_
    subst he
    have hnhV:=ST hJ.rel
    have hlt1:D+1<w'.heap.size:=hJ.size
    have hfin2:∀(e:B7) (ob:Obj),Q e ⟨sl1,V⟩->Q' (U6 e) ⟨a.tmps,[IX D]++a.defers⟩ (w'.putObj (D+1) ob):=by
     intro e ob hqe
     obtain⟨w4,hw4⟩:∃w4,w4=w'.putObj (D+1) ob:=⟨_,rfl⟩
     have hsz4:w4.heap.size=w'.heap.size:=by rw[hw4];exact World.putObj_size
     have hp4:∀k,k≠D+1->w4.heap[k]?=w'.heap[k]?:=fun k hk=>by rw[hw4];exact World.putObj_heap_other hk
     have hu4:D1 (fun b=>b=D+1) w' w4:=⟨by rw[hw4];rfl,by rw[hw4];rfl,by rw[hw4];rfl,by rw[hsz4];exact Nat.le_refl _,fun k _ hk=>hp4 k hk⟩
     rw[←hw4]
     obtain⟨c4,hc4⟩:∃c4:D_,c4={ c with w0:=w4,fb:=fun b=>c.fb b\/(b=D\/b=D+1),mine:=De β' V,b0:=b1,may:=fun _=>False }:=⟨_,rfl⟩
     have hup4:D1 c.mine c.w0 w4:=hJ.up.trans hu4 fun i hi hh=>by omega
     have hlowV:∀b,(c.fb b\/(b=D\/b=D+1))->b<w'.heap.size/\¬De β' V b:=fun b hb=>hJ.rel.low b (.inl hb)
     refine hQ e ⟨sl1,V⟩ β' c4 a.tmps [D] w4 hqe ?_ ?_ ?_ ?_ hn
     ·subst hc4
      refine⟨hup4.size,fun o ho=>?_,rfl,rfl,rfl,rfl,rfl,fun v hv=>?_,fun b hb=>?_,fun b hb=>.inl (.inl hb),fun b hb=>hb.elim⟩
      ·rw[hcn] at ho
       have ho':o<5000000:=ho.resolve_right (by simp)
       show b1 o=c.b0 o
       rw[hb1];simp[ho']
      ·refine(hup4.mono fun i _ hi=>.inl hi).trans hv fun i hi hh=>?_
       rcases hh with hh|hh
       ·rcases hJ.own i hh with h3|h3
        ·omega
        ·exact .inl h3
       ·exact hh.elim
      ·rcases hb with hb|hb
       ·exact .inl (Nat.le_trans hup4.size hb)
       ·exact hJ.own b hb
     ·subst hc4;exact⟨hy.abide,hy.yield,fun b hb=>hb.elim,fun b hb=>.inl (hy.sub b hb),fun b _ hb=>hb.elim⟩
     ·refine⟨fun hh=>absurd (hcn.symm.trans hh) (by simp),by simp,fun D' hD'=>?_⟩
      simp at hD';subst hD'
      refine⟨⟨?_,?_,?_,?_⟩,hcD⟩
      ·subst hc4;show w4.heap[D']?=_;rw[hp4 D' (by omega)];exact hJ.dd
      ·subst hc4;exact(hlowV D' (.inr (.inl rfl))).2
      ·subst hc4;exact id
      ·subst hc4;exact .inr (.inl rfl)
     ·refine hJ.rel.shift (c':=c4) (hu4.mono fun i _ hi=>.inl (.inr (.inr hi))) (fun b _ hb=>?_) (fun b hb=>?_) hnhV (by rw[hc4]) (by rw[hc4]) (by rw[hc4];rfl)
      ·rw[hc4] at hb;exact .inl hb
      ·rw[hc4] at hb;rw[hsz4];exact(hlowV b hb).1
    rcases hJ.st with⟨hst,hjj,hrec⟩|⟨hst,e,cd,hcd,hpd,hrec⟩
    ·have hne:els.fin n:=hfin.resolve_left (by rw[hst];simp)
     exact⟨_,_,run_endLoop hrec (by simp),hfin2 .normal _ (hend n V hJ.cn hne hjj)⟩
    ·refine⟨_,_,run_endLoop hrec (by simp),?_⟩
     cases e with
     |normal=>cases hcd
     |ret=>cases hcd;exact wpIn_ret (hfin2 .ret _ (hjump .ret V hJ.cn hpd))
     |exit id=>cases hcd;exact wpIn_exit (hfin2 (.exit id) _ (hjump (.exit id) V hJ.cn hpd))
 |nxt h2 ho hg hx hd =>
  intro Q Q' s c β a w h hy hnr hrr hn hs hQ
  rename_i id o ops2 x y gs l2 ks
  simp only[pw] at hs
  obtain⟨s1,β1,hs1,hr1⟩:=C5 h hs
  refine wpIn_region_lit ?_
  unfold wpListIn
  have hw:Region.wanted o (yielded (o::ops2).toArray a.tmps)=true:=by simp[Region.wanted,hg]
  rw[if_pos hw]
  have hput:∀u,a.put o.dst u=⟨(a.put o.dst u).tmps,a.defers⟩:=fun u=>by cases o.dst<;>rfl
  refine⟨fun _ _=>trivial,?_⟩
  rw[Ny,Oper.semAt_eq r _ o (fun cc hcc=>by rw[ho] at hcc;cases hcc)]
  obtain⟨u,w',v,ch,β',hrun,hK,hrel,hv⟩:=Xm hr1 (JY hr1 hx) hs1 o.type
  have hex:(execOp a.eval o).run E.P w=.ok (.value u) w':=by
   simp[execOp,ho,hrun]
  rw[hex,Oper.uponIn_value,hput]
  have hrp:=IK (tm:=a.tmps) (dst:=o.dst) hrel hv fun t ht=>by rw[hn];exact hd t ht
  exact NG r m (a:=⟨(a.put o.dst u).tmps,a.defers⟩) (K:=fun s'=>Q .normal (s'.keep ks)) h2 hrp (by rw[Act.put_size];exact hn) hK fun s' β2 tm2 w2 hk hr htm=>hQ.same (e:=.normal) hy hk (hr.keepS _) htm
 |yld h1 h2 ho hc hg hx hxs hd =>
  intro Q Q' s c β a w h hy hnr hrr hn hs hQ
  rename_i id ops1 o ops2 cl x y ys gs l1 l2 ks
  simp only[pw] at hs
  obtain⟨s1,β1,hs1,hr1⟩:=C5 h hs
  refine wpIn_region_lit (K_ r m (rest:=o::ops2) h1 hr1 hn hs1 fun s2 β2 tm2 w2 hk hr2 ht2=>?_)
  unfold wpListIn
  have hw:Region.wanted o (yielded (ops1++o::ops2).toArray (⟨tm2,a.defers⟩:Act).tmps)=true:=by simp[Region.wanted,hg]
  rw[if_pos hw]
  exact QF r m hr2 hy ho hc hx hxs hd ht2 hk fun v ch c' β' tm' w' hk2 hext hy' hrp htm =>
   NG r m (a:=⟨tm',a.defers⟩) (K:=fun s'=>Q .normal (s'.keep ks)) h2 hrp htm hk2 fun s' β'' tm'' w'' hk hr htm2=>hQ .normal _ β'' c' tm'' [] w'' hk hext hy' (Ig.nil _ _) (hr.keepS _) htm2
 |ydr h1 h2 ho hc hg hx hxs hd hok =>
  intro Q Q' s c β a w h hy hnr hrr hn hs hQ
  rename_i id ops1 o ops2 cl x y ys gs l1 gd l2 ks pre
  simp only[pw] at hs
  obtain⟨s1,β1,hs1,hr1⟩:=C5 h hs
  refine wpIn_region_any hm ?_
  have hdr:Br E c β1 s1 a.tmps { w with drawn:=w.drawn+1 }:=hr1.grow (Nj w)
  obtain⟨hokD,hE,hF⟩:=fM hok
  have hl1:=Aw h1
  have hl2:=Aw h2
  have htot:(ops1++o::ops2).length=ops1.length+(o::ops2).length:=by simp
  have hE':∀k,k<(ops1++o::ops2).length->lY (ops1++o::ops2) pre k=true:=fun k hk=>hE k (by rw[←htot];exact hk)
  have key:=Wv r m (fl:=fl) (ops:=ops1) (rest:=o::ops2) (Q:=Q') (fun k o' I dy ho' hk'=>by
    obtain⟨y',hy1,hy2⟩:=Cw h1 ho'
    rw[List.getElem?_map,hk'] at hy1
    simp at hy1;subst hy1;exact hy2) (by simpa using hl1) hokD hE hF hdr hn hs1 fun s2 β2 tm2 w2 listed hk hr2 ht2 hsz hl=>?_
  ·simpa using key
  have hko:(ops1++o::ops2)[ops1.length]?=some o:=by rw[List.getElem?_append_right (Nat.le_refl _)];simp
  have hlt:ops1.length<(ops1++o::ops2).length:=by simp
  rw[←htot] at hsz hl
  obtain⟨q1,q2⟩:=Tj hE' hF hlt (Nat.le_refl _) hsz hl
  obtain⟨n2,n3⟩:=QT hsz hlt hl
  show wpAnyIn (rF r) m E.P .any (ops1++o::ops2).toArray Q' (ops2.length+1) listed ⟨tm2,a.defers⟩ w2
  refine⟨fun hnil=>by rw[hnil] at q1;(cases q1),fun i hi=>?_⟩
  have:=q2 i hi;subst this
  unfold wpOpIn
  simp only[List.getElem?_toArray,hko]
  have tail:∀(c':D_) (β':Nat->Nat->Value) (s':Bg) (tm':Array Value) (w':World),TH c c'->VQ E c'->Br E c' β' s' tm' w'->tm'.size=ns->(Gu E l2 s' fun s'=>Q .normal (s'.keep ks)) ->
    wpAnyIn (rF r) m E.P .any (ops1++o::ops2).toArray Q' ops2.length (listed.setIfInBounds ops1.length true) ⟨tm',a.defers⟩ w':=fun c' β' s' tm' w' hext hy' hrel htm hk2 =>
   ZF r m hE' hF ops2.length (ops1.length+1) l2 c' β' s' a.defers tm' w' _ (by simp;omega) (by omega) hl2 (fun i o' I ho' hI=>by
    have h3:ops2[i]?=some o':=by
     rw[List.getElem?_append_right (by omega)] at ho'
     rw[show ops1.length+1+i-ops1.length=i+1 by omega,List.getElem?_cons_succ] at ho'
     exact ho'
    obtain⟨y',hy1,hy2⟩:=Cw h2 h3
    rw[hI] at hy1
    simp at hy1;subst hy1;exact hy2) n2 n3 hrel htm hk2 fun s'' β'' tm'' w'' hk hr htm2=>hQ .normal _ β'' c' tm'' [] w'' hk hext hy' (Ig.nil _ _) (hr.keepS _) htm2
  have run:(PE E (y.val s2.sl) (ys.map (Hd.val s2.sl)) s2.V fun v ch=>Gu E l2 (put s2 o.dst v ch) fun s'=>Q .normal (s'.keep ks))->o.wpIn (rF r) m E.P ⟨tm2,a.defers⟩ w2 (wpAnyIn (rF r) m E.P .any (ops1++o::ops2).toArray Q' ops2.length (listed.setIfInBounds ops1.length true)) Q':=fun hk =>
   QF r m hr2 hy ho hc hx hxs hd ht2 hk fun v ch c' β' tm' w' hk2 hext hy' hrp htm=>tail c' β' _ tm' w' hext hy' hrp htm hk2
  have skip:(Gu E l2 (put s2 o.dst (.tup []) .none) fun s'=>Q .normal (s'.keep ks))->wpAnyIn (rF r) m E.P .any (ops1++o::ops2).toArray Q' ops2.length (listed.setIfInBounds ops1.length true) ((⟨tm2,a.defers⟩:Act).put o.dst undef) w2:=fun hk=>by
   have hput:(⟨tm2,a.defers⟩:Act).put o.dst undef=⟨((⟨tm2,a.defers⟩:Act).put o.dst undef).tmps,a.defers⟩:=by cases o.dst<;>rfl
   rw[hput]
   exact tail c β2 _ _ w2 (TH.refl c) hy (IK (tm:=tm2) (ch:=.none) hr2 TN fun t ht=>by rw[ht2];exact hd t ht) (by rw[Act.put_size];exact ht2) hk
  unfold fx at hk
  cases hgd:o.guard with
  |none =>
   rw[hgd] at hg
   simp[dB] at hg;subst hg
   have:Region.wanted o (yielded (ops1++o::ops2).toArray tm2)=true:=by simp[Region.wanted,hgd]
   rw[if_pos this]
   exact run hk
  |some q =>
   obtain⟨j,bb⟩:=q
   rw[hgd] at hg
   simp only[dB] at hg
   split at hg
   ·rename_i t ht
    split at hg
    ·rename_i htn
     simp at hg;subst hg
     simp only at hk
     have hs':=hr2.slots t
     have hget:tm2[t]?=some (tm2.getD t undef):=by
      have:t<tm2.size:=by rw[ht2];exact htn
      simp[Array.getD_eq_getD_getElem?,this]
     have hyy:yielded (ops1++o::ops2).toArray tm2 j=match tm2.getD t undef with|.bool b=>some b|_=>none:=by
      unfold yielded
      simp only[List.getElem?_toArray,ht,Option.bind_some,hget]
      generalize tm2.getD t undef=x
      cases x<;>rfl
     have hw:Region.wanted o (yielded (ops1++o::ops2).toArray tm2)=(yielded (ops1++o::ops2).toArray tm2 j == some bb):=by simp[Region.wanted,hgd]
     split at hk
     ·rename_i b' hsl
      rw[hsl] at hs'
      rw[hw,hyy,Hj hs']
      cases bb<;>cases b'<;>simp at hk ⊢
      all_goals first|exact run hk|exact⟨fun _ _=>trivial,skip hk⟩
     ·rename_i hsl
      rw[hsl] at hs'
      have hu:tm2.getD t undef=.tuple #[]:=by
       generalize tm2.getD t undef=x at hs'
       cases hs' with
       |tup _ vs hl _=>simp at hl;rw[hl]
      rw[hw,hyy,hu]
      simp
      exact⟨fun _ _=>trivial,skip hk⟩
     ·exact hk.elim
    ·cases hg
   ·cases hg
end Go.Pw
