/- Part. -/
import Derived.Test.YtmdklgapccickaaGreatDoorPkP
import Derived.TacticsIn
import Derived.OrdersIn
set_option linter.all false
open Bool renaming false_eq_true->aa,and_eq_true->az,or_eq_true->eb,not_eq_true'->oy
open List renaming mem_append->ax,range->ay,all_eq_true->cp,getElem?_eq_getElem->c8,getElem?_toArray->et,append_nil->f0,mem_append_right->hU,mem_append_left->hX,flatMap_cons->hY,nil_append->i5,mem_filter->i7,mem_range->j0,size_toArray->j4,append_assoc->kk,mem_cons_of_mem->la,mem_flatMap->lb,filter_cons->na,getD->ne
open Array renaming getD_eq_getD_getElem?->ck,replicate->ea,all_eq_true'->ox,getElem?_replicate->pv
open Nat renaming le_refl->cw,strongRecOn->no
section
namespace Go.Pw
open Go.RowKit
def put(s:BG)(dst:Option Nat)(v:AV)(ch:Bs):BG :=
 ⟨match dst with|some t=>CB s.sl t v|none=>s.sl,s.V.app ch⟩
def Ey(E:CW)(I:Fu)(s:BG)(K:AV->Bs->Prop):Prop :=
 match I.g with
 |none=>ev E I.dst s.V I.op (I.xs.map (Jk.val s.sl)) K
 |some (t,b)=>match s.sl t with
  |.d (.bool b')=>JL (b == b') (ev E I.dst s.V I.op (I.xs.map (Jk.val s.sl)) K) (K (.tup []) .none)
  |.tup []=>K (.tup []) .none
  |_=>False
def rF(r:Option Nat):Fence:={ Fence.wide with round:=r }
theorem Qq(r:Option Nat):(rF r).round=r:=rfl
section
variable {E:CW}{c:EG}{β:Nat->Nat->Value}{s:BG}{a:Act}{w:World}{K:AV->Bs->Prop}
theorem Act.put_size(a:Act)(dst:Option Nat)(v:Value):(a.put dst v).tmps.size=a.tmps.size:=by
 cases dst<;>simp[Act.put]
theorem Li{tm:Array Value}{β':Nat->Nat->Value}{v:AV}{u:Value}{ch:Bs}{dst:Option Nat}{w':World}(hr:BZ E c β' ⟨s.sl,s.V.app ch⟩ a.tmps w')(hv:AP w' (c.bar β' (s.V.app ch)) β' (s.V.app ch).cn v u)
  (hd:∀t,dst=some t->t<a.tmps.size):BZ E c β' (put s dst v ch) (a.put dst u).tmps w':=by
 cases dst with
 |none=>exact hr
 |some t=>exact hr.set (hd t rfl) hv
theorem l9{draw:Bool}{fl:List Nat}{n:Nat}{ops:List Oper}{o:Oper}{I:Fu}(h:Nv E draw fl n ops o=some I) :
  ∃sp draw' used' xs,TB E sp draw' used' o.op=some (I.op,xs)/\X8 E xs=some I.xs/\I.dst=o.dst/\(∀t,o.dst=some t->t<n) /\
   ((o.guard=none/\I.g=none)\/∃j b t,o.guard=some (j,b)/\(ops[j]?).bind (·.dst)=some t/\t<n/\I.g=some (t,b)):=by
 unfold Nv at h;split at h
 ·cases h
 ·rename_i op xs p;split at h
  ·cases h
  ·rename_i ys l;split at h
   ·rename_i g e hg;simp at h;subst h;refine⟨_,_,_,xs,p,l,rfl,fun t ht=>?_,?_⟩
    ·rw[ht]at e;simpa[xW]using e
    ·unfold AA' at hg;split at hg
     ·rename_i i;simp at hg;subst hg;exact .inl ⟨i,rfl⟩
     ·rename_i j b i;split at hg
      ·rename_i t ht;split at hg
       ·rename_i m;simp at hg;subst hg;exact .inr ⟨j,b,t,i,ht,m,rfl⟩
       ·cases hg
      ·cases hg
   ·cases h
theorem ja{fb β' cn}:AP w fb β' cn (.tup []) undef:=.tup [] #[] rfl (fun i c v hi=>by simp at hi)
theorem kQ(h:BZ E c β s a.tmps w){sp draw i:Bool}{o:Oper}{e:Bx}{ops:List Operand}{xs:List AV}(hd:TB E sp draw i o.op=some (e,ops))
  (hxs:C_ (AP w (c.bar β s.V) β s.V.cn) xs (ops.map a.eval)) (j:ev E o.dst s.V e xs K):dt E c s a.tmps K ((execOp a.eval o).run E.P w):=by
 cases sp with
 |false=>exact ow h (by simpa[TB]using hd) hxs j
 |true =>
  simp only[TB,if_true]at hd
  cases hd
theorem Po(r:Option Nat)(m:Nat)(h:BZ E c β s a.tmps w){draw:Bool}{fl:List Nat}{n:Nat}{ops:List Oper}{o:Oper}{I:Fu}(hd:Nv E draw fl n ops o=some I)(hn:a.tmps.size=n)(l:Ey E I s K){Kc:Act->World->Prop}{Q:Exit->Act->World->Prop}
  (J:∀v ch β' tm' w',K v ch->BZ E c β' (put s I.dst v ch) tm' w'->tm'.size=n->Kc ⟨tm',a.defers⟩ w') :
  if Region.wanted o (yielded ops.toArray a.tmps)then o.wpIn (rF r) m E.P a w Kc Q else(∀f,o.about E.P w a.eval=some f->(rF r).fn f)/\Kc (a.put o.dst undef) w:=by
 obtain⟨sp,draw',used',xs,z,N,i,O,hg⟩:=l9 hd;have p:∀u,a.put o.dst u=⟨(a.put o.dst u).tmps,a.defers⟩:=fun u=>by cases o.dst<;>rfl
 have q:∀t,o.dst=some t->t<a.tmps.size:=fun t ht=>by rw[hn];exact O t ht
 have L:∀cc,o.op≠.defer cc:=fun cc M=>by rw[M]at z;cases sp<;>simp[TB,jB,rB]at z
 have run:ev E o.dst s.V I.op (I.xs.map (Jk.val s.sl)) K->o.wpIn (rF r) m E.P a w Kc Q:=by
  intro l;refine⟨fun _ _=>trivial,?_⟩;rw[Qq,Oper.semAt_eq r a.eval o L];have G:=kQ (o:=o) h z (TA h N) l;rcases G with⟨u,w',v,ch,β',hr,hk,y,hv⟩|⟨f,args,w',hr,hc⟩
  ·rcases hr with hr|⟨hr,rfl⟩
   ·rw[hr,Oper.uponIn_value,p];exact J v ch β' _ w' hk (by rw[i];exact Li (tm:=a.tmps) y hv q) (by rw[Act.put_size];exact hn)
   ·rw[hr,Oper.uponIn_skip,p];exact J .undef ch β' _ w' hk (by rw[i];exact Li (tm:=a.tmps) y (.undef _) q) (by rw[Act.put_size];exact hn)
  ·rw[hr,Oper.uponIn_enter];refine⟨fun h=>by simp[rF,Fence.wide]at h,?_⟩;show CallsIn Fence.wide (m-1) E.P f args w' _;refine callsIn_wide.2 (hc.mono fun e w'' ⟨u,v,ch,β',l,hk,y,hv⟩=>?_);subst l;simp only;rw[p];exact J v ch β' _ w'' hk (by rw[i];exact Li (tm:=a.tmps) y hv q) (by rw[Act.put_size];exact hn)
 have skip:K (.tup []) .none->Kc (a.put o.dst undef) w:=by
  intro hk;rw[p];exact J _ .none β _ w hk (by rw[i];exact Li (tm:=a.tmps) (ch:=.none) h ja q) (by rw[Act.put_size];exact hn)
 unfold Ey at l;rcases hg with⟨hg,hI⟩|⟨j,b,t,hg,ht,htn,hI⟩
 ·rw[hI]at l;simp only[i]at l;have:Region.wanted o (yielded ops.toArray a.tmps)=true:=by simp[Region.wanted,hg]
  rw[if_pos this];exact run l
 ·rw[hI]at l;simp only[i]at l;have hs:=h.slots t
  have B:a.tmps[t]?=some (a.tmps.getD t undef):=by
   have:t<a.tmps.size:=by rw[hn];exact htn
   simp[ck,this]
  have R:yielded ops.toArray a.tmps j=match a.tmps.getD t undef with|.bool b=>some b|_=>none:=by
   unfold yielded;simp only[et,ht,Option.bind_some,B];generalize a.tmps.getD t undef=x
   cases x<;>rfl
  have S:Region.wanted o (yielded ops.toArray a.tmps)=(yielded ops.toArray a.tmps j == some b):=by simp[Region.wanted,hg]
  split at l
  ·rename_i b' A;rw[A]at hs;rw[S,R,Qn hs]
   cases b<;>cases b'<;>simp at l ⊢
   all_goals first|exact run l|exact⟨fun _ _=>trivial,skip l⟩
  ·rename_i A;rw[A]at hs
   have hu:a.tmps.getD t undef=.tuple #[]:=by
    generalize a.tmps.getD t undef=x at hs
    cases hs with
    |tup _ vs hl _=>simp at hl;rw[hl]
   rw[S,R,hu];simp;exact⟨fun _ _=>trivial,skip l⟩
  ·exact l.elim
end
end Go.Pw
end
section
namespace Go.Pw
inductive zr where
 |none|read|all
def Bx.foot:Bx->zr
 |.mov|.pick|.bin _|.beq _|.eqv ..|.un _|.conv _|.nilck|.field ..|.faddr _|.iaddrA ..|.index ..|.strx _|.build ..|.mkrow ..|.mkfn _|.mkbnd _|.minmax _|.extract _|.cap=>.none
 |.eqnil _|.load ..|.iaddrS _|.len _|.lookup ..|.sub _|.pre=>.read
 |_=>.all
def Bx.isCall:Bx->Bool
 |.call _|.callv|.mentry=>true
 |_=>false
def fp(V:AO)(dst:Option Nat)(op:Bx)(xs:List AV):List Nat :=
 match op.foot with
 |.none=>[]
 |.read=>AV.sites.sitesL xs
 |.all=>if op.isCall then Cn dst V xs else dst.toList++AV.sites.sitesL xs
def TM(V:AO)(dst:Option Nat)(op:Bx)(xs:List AV):List Nat :=
 match op.foot with
 |.all=>if op.isCall then Cn dst V xs else dst.toList++AV.sites.sitesL xs
 |_=>[]
theorem xg{V:AO}{dst:Option Nat}{op:Bx}{xs:List AV}{o:Nat}(h:o∈TM V dst op xs):o∈fp V dst op xs:=by
 unfold TM at h;unfold fp;split at h
 ·simp_all
 ·cases h
def Bs.site:Bs->List Nat
 |.none=>[]
 |.keep o _ _=>[o]
 |.fresh o _=>[o]
 |.seq a b=>a.site++b.site
def DK(F:List Nat)(V V':AO):Prop:=∀o,o∈F->V'.ob o=V.ob o/\V'.cn o=V.cn o
theorem DK.get{F:List Nat}{V V':AO}(h:DK F V V'){o g:Nat}(ho:o∈F):V'.get o g=V.get o g:=by
 simp only[AO.get,(h o ho).1]
theorem L0{F:List Nat}{V V':AO}(h:DK F V V'){x:AV}(hx:∀o,o∈x.sites->o∈F):x.asList V'=x.asList V:=by
 cases x with
 |own o g=>simp only[AV.asList,h.get (hx o (by simp[AV.sites]))]
 |mref k o g=>cases k<;>first|rfl|simp only[AV.asList,h.get (hx o (by simp[AV.sites]))]
 |d x=>cases x<;>rfl
 |_=>rfl
theorem fV{F:List Nat}{V V':AO}(h:DK F V V'){x:AV}(hx:∀o,o∈x.sites->o∈F):x.lenL V'=x.lenL V:=by
 unfold AV.lenL;split
 ·rfl
 ·rename_i o g;rw[h.get (hx o (by simp[AV.sites]))]
 ·rw[L0 h hx]
theorem R_{F:List Nat}{V V':AO}(h:DK F V V'){z:Option D}{x:AV}(hx:∀o,o∈x.sites->o∈F):Dq V' z x=Dq V z x:=by
 cases z with
 |none=>simp only[Dq];split<;>simp_all[L0 h hx]
 |some z=>rfl
theorem Jp{F:List Nat}{V V':AO}(h:DK F V V'){x:AV}(hx:∀o,o∈x.sites->o∈F):x.snap0 V'=x.snap0 V:=by
 cases x with
 |own o g=>simp only[AV.snap0,h.get (hx o (by simp[AV.sites]))]
 |ptr o g off =>
  have:=h.get (g:=g) (hx o (by simp[AV.sites]))
  cases off with
  |zero=>simp only[AV.snap0,this]
  |succ n=>rfl
 |mref k o g=>cases k<;>first|rfl|simp only[AV.snap0,h.get (hx o (by simp[AV.sites]))]
 |map o g=>simp only[AV.snap0,h.get (hx o (by simp[AV.sites]))]
 |_=>rfl
theorem GZ{α γ:Type}{f g:α->Option γ}:∀{l:List α},(∀x,x∈l->f x=g x)->Ax f l=Ax g l
 |[],_=>rfl
 |x::l,h=>by simp only[Ax,h x (by simp),GZ (l:=l) fun y e=>h y (by simp[e])]
theorem VG{F:List Nat}{V V':AO}(h:DK F V V'){x:AV}(hx:∀o,o∈x.sites->o∈F):x.snap V'=x.snap V:=by
 cases x with
 |agg cs=>simp only[AV.snap];rw[GZ fun y e=>Jp h fun o ho=>hx o (by simp only[AV.sites];exact Et e ho)]
 |fn f cs=>simp only[AV.snap];rw[GZ fun y e=>Jp h fun o ho=>hx o (by simp only[AV.sites];exact Et e ho)]
 |bnd f cs=>simp only[AV.snap];rw[GZ fun y e=>Jp h fun o ho=>hx o (by simp only[AV.sites];exact Et e ho)]
 |_=>exact Jp h hx
theorem Hf(xs ys:List AV):AV.sites.sitesL (xs++ys)=AV.sites.sitesL xs++AV.sites.sitesL ys:=by
 induction xs with
 |nil=>rfl
 |cons x xs ih=>simp only[List.cons_append,AV.sites.sitesL,ih,kk]
theorem bE(cs:List D):AV.sites.sitesL (cs.map .d)=[]:=by
 induction cs with
 |nil=>rfl
 |cons x xs ih=>simp only[List.map_cons,AV.sites.sitesL,AV.sites,ih,f0]
variable {E:CW}{dst:Option Nat}{V:AO}{K:AV->Bs->Prop}
def Loc(W F:List Nat)(V:AO)(G:AO->(AV->Bs->Prop)->Prop)(K:AV->Bs->Prop):Prop :=
 ∃v ch,K v ch/\(∀o,o∈ch.site->o∈W)/\∀V' K',DK F V V'->K' v ch->G V' K'
theorem Y1{F:List Nat}{V V':AO}(h:DK F V V'){o:Nat}(ho:o∈F):V'.osites o=V.osites o:=by
 simp only[AO.osites,(h o ho).1]
theorem Sg{V:AO}:∀{n:Nat}{l:List Nat}{o:Nat},o∈l->o∈V.reach n l
 |0,_,_,h=>h
 |n+1,_,_,h=>hX _ h
theorem TV{V V':AO}:∀{n:Nat}{l:List Nat},DK (V.reach n l) V V'->V'.reach n l=V.reach n l
 |0,_,_=>rfl
 |n+1,l,h=>by
  simp only[AO.reach]at h ⊢
  have e:l.flatMap V'.osites=l.flatMap V.osites:=by
   have:∀m:List Nat,(∀o,o∈m->o∈l)->m.flatMap V'.osites=m.flatMap V.osites:=by
    intro m
    induction m with
    |nil=>intro _;rfl
    |cons x m ih =>
     intro hm;rw[hY,hY,ih fun o ho=>hm o (la _ ho),Y1 h (hX _ (hm x (by simp)))]
   exact this l fun _ h=>h
  rw[e,TV (V:=V) (V':=V') (n:=n) fun o ho=>h o (hU _ ho)]
theorem bD{F:List Nat}{V V':AO}(h:DK F V V'){x:AV}(hx:∀o,o∈x.sites->o∈F):x.snapC V'=x.snapC V:=by
 cases x with
 |own o g=>simp only[AV.snapC,h.get (hx o (by simp[AV.sites]))]
 |map o g=>simp only[AV.snapC,h.get (hx o (by simp[AV.sites]))]
 |_=>rfl
theorem bC{F:List Nat}{V V':AO}(h:DK F V V'){x:AV}(hx:∀o,o∈V.reach 1 x.sites->o∈F):x.snapN V'=x.snapN V:=by
 have hs:∀o,o∈x.sites->o∈F:=fun o ho=>hx o (Sg ho)
 cases x with
 |ptr o g off =>
  cases off with
  |zero =>
   have:=h.get (g:=g) (hs o (by simp[AV.sites]));simp only[AV.snapN,this]
   cases hv:V.get o g with
   |none=>rfl
   |some y =>
    cases y with
    |cells xs =>
     simp only;rw[GZ fun z i=>bD h fun q j=>hx q ?_];have e:=AO.get_some hv;simp only[AO.reach,AV.sites,ax,hY,List.flatMap_nil,f0];refine .inr ?_;simp only[AO.osites,e];exact Et i j
    |_=>rfl
  |succ n=>exact VG h hs
 |_=>exact VG h hs
theorem VO{V:AO}:∀{n:Nat}{l:List Nat}{o:Nat},o∈V.reach n l->o∈V.reach (n+1) l
 |0,_,_,h=>Sg h
 |n+1,l,o,h=>by
  rw[AO.reach,ax]at h ⊢;exact h.imp id VO
theorem Py{V:AO}:∀{n:Nat}{l m:List Nat},(∀o,o∈l->o∈m)->∀o,o∈V.reach n l->o∈V.reach n m
 |0,_,_,h,o,ho=>h o ho
 |n+1,l,m,h,o,ho=>by
  simp only[AO.reach,ax]at ho ⊢;rcases ho with ho|ho
  ·exact .inl (h o ho)
  ·refine .inr (Py (V:=V) (fun q e=>?_) o ho);rw[lb]at e ⊢;obtain⟨z,i,e⟩:=e;exact⟨z,h z i,e⟩
theorem Tp{dst:Option Nat}{V V':AO}{xs:List AV}(h:DK (Cn dst V xs) V V'):Cn dst V' xs=Cn dst V xs:=by
 simp only[Cn]at h ⊢;rw[TV (V:=V) (V':=V') fun o ho=>h o (hU _ ho)]
theorem mS{t:Nat}{V:AO}{xs:List AV}:t∈Cn (some t) V xs:=by simp[Cn,Jf]
theorem YC{t u:Nat}{V:AO}{xs:List AV}(h:u∈Jf t):u∈Cn (some t) V xs:=by simp only[Cn];exact hX _ h
theorem Tn{dst:Option Nat}{V:AO}{xs:List AV}{o:Nat}(h:o∈AV.sites.sitesL xs):o∈Cn dst V xs:=by simp only[Cn];exact hU _ (Sg h)
theorem Tq{F:List Nat}{V V':AO}(h:DK F V V'){xs:List AV}(hx:∀o,o∈Cn dst V xs->o∈F):WL V' xs=WL V xs :=
 GZ fun y i=>bC h fun o ho=>hx o (by
  simp only[Cn]
  exact hU _ (VO (VO (Py (fun q e=>Et i e) o ho))))
theorem Lv{dst:Option Nat}{V:AO}{xs ys:List AV}(h:∀o,o∈AV.sites.sitesL xs->o∈AV.sites.sitesL ys):∀o,o∈Cn dst V xs->o∈Cn dst V ys:=by
 intro o ho;simp only[Cn,ax]at ho ⊢;exact ho.imp id (Py h o)
theorem RE{V V':AO}{F F':List Nat}{ρ:Ren}(i:∀o,o∈F->o∈F')(h:∀o,o∈F->V'.ob o=V.ob o):∀{V0:List (Nat×Nat×AY)},Handed V F ρ V0->Handed V' F' ρ V0
 |[],_=>trivial
 |(o,g,x)::l,hh=>by
  simp only[Handed]at hh ⊢;refine⟨?_,RE i h hh.2⟩;have h1:=hh.1;split at h1
  ·rename_i q y j m;have e:q.1∈F:=by simpa using h1.2
   exact⟨by simp only[AO.get,h q.1 e];exact h1.1,by simpa using i q.1 e⟩
  ·exact h1.elim
theorem Wo{cn cn':Nat->Nat}{dst:Option Nat}{V0 V1:List (Nat×Nat×AY)}{ρ ρ2:Ren}(h:∀t,dst=some t->∀o,o∈Jf t->cn' o=cn o)(hg:∀o g q,ρ.get o g=some q->cn' q.1=cn q.1)(hn:ET cn dst V0 V1 ρ ρ2=true):ET cn' dst V0 V1 ρ ρ2=true:=by
 simp only[ET,az,cp]at hn ⊢;refine⟨⟨⟨⟨hn.1.1.1.1,fun e m=>?_⟩,hn.1.1.2⟩,hn.1.2⟩,hn.2⟩;have:=hn.1.1.1.2 e m;refine⟨this.1,?_⟩;have h2:=this.2
 cases hρ:ρ.get e.1.1 e.1.2 with
 |some q=>rfl
 |none =>
  simp only[hρ,az,eb]at h2 ⊢;refine⟨⟨h2.1.1,?_⟩,h2.2⟩
  have e1:cn' e.2.1=cn e.2.1:=by
   rcases h2.2 with i|i
   ·cases dst with
    |none=>simp at i
    |some t=>exact h t rfl _ (by simpa using i)
   ·obtain⟨o0,g0,q0,j,l⟩:=RF i;rw[←l];exact hg _ _ _ j
  rw[e1];exact h2.1.2
theorem WI{ρ ρ2:Ren}:∀{V1:List (Nat×Nat×AY)}{ch:Bs},HO ρ ρ2 V1=some ch->∀o',o'∈ch.site->∃o g x q,(o,g,x)∈V1/\ρ2.get o g=some q/\q.1=o'
 |[],ch,h,o',e=>by simp[HO]at h;subst h;simp[Bs.site]at e
 |(o,g,x)::l,ch,h,o',e=>by
  simp only[HO]at h;split at h
  ·rename_i q y cl p u i;simp at h;subst h;simp only[Bs.site,ax]at e;rcases e with e|e
   ·refine⟨o,g,x,q,by simp,p,?_⟩;split at e<;>simp[Bs.site]at e<;>exact e.symm
   ·obtain⟨r,m,n,j,h1,h2,t⟩:=WI i o' e;exact⟨r,m,n,j,la _ h1,h2,t⟩
  ·cases h
theorem JB{f:FuncId}{xs:List AV}{F:List Nat}(i:∀o,o∈Cn dst V xs->o∈F)(h:DW E dst V f xs K):Loc F F V (fun V' K'=>DW E dst V' f xs K') K:=by
 have hd:∀t,dst=some t->t∈F:=fun t ht=>i t (by subst ht;exact mS)
 have hx:∀o,o∈AV.sites.sitesL xs->o∈F:=fun o ho=>i o (Tn ho)
 rcases h with⟨ds,r,h1,h2,hK⟩|⟨ds,r,h1,h2,h3,hK⟩|⟨ds,t,ety,es,P,x,h1,hl,h2,h3,h4,hK⟩|⟨V0,cxs,V1,r,r',ch,ρ,ρ2,hren,hcall,hhand,hnm,hr,hback,hK⟩|⟨o,g,ety,es,nl,l,ds,r,hget,hlim,hcf,hd',hret,hK⟩
 ·exact⟨_,_,hK,by simp[Bs.site],fun V' K' _ hk=>.inl ⟨ds,r,h1,h2,hk⟩⟩
 ·exact⟨_,_,hK,by simp[Bs.site],fun V' K' j hk=>.inr (.inl ⟨ds,r,by rw[Tq j i];exact h1,h2,h3,hk⟩)⟩
 ·refine⟨_,_,hK,fun o ho=>by simp[Bs.site]at ho;subst ho;exact hd _ h1,fun V' K' j hk=>.inr (.inr (.inl ⟨ds,t,ety,es,P,x,h1,hl,?_,h3,h4,?_⟩))⟩
  ·rw[Tq j i];exact h2
  ·rw[(j t (hd _ h1)).2];exact hk
 ·have N:=bi hnm
  have p:∀o g q,ρ.get o g=some q->q.1∈Cn dst V xs:=fun o g q e=>by
   obtain⟨A,z⟩:=(N.n1 _ _ _ e).2.1;obtain⟨L,J,k1,_,_,B⟩:=Nc hhand o g A z;rw[e]at k1;simp at k1;subst k1;exact B
  refine⟨_,_,hK,fun o' n=>?_,fun V' K' j hk=>.inr (.inr (.inr (.inl ⟨V0,cxs,V1,r,r',ch,ρ,ρ2,hren,hcall,?_,?_,hr,hback,hk⟩)))⟩
  ·obtain⟨o,g,x,q,hm,y,G⟩:=WI hback o' n;subst G
   cases e:ρ.get o g with
   |some q' =>
    obtain⟨_,rfl⟩:=N.both e y;exact i _ (p _ _ _ e)
   |none =>
    rcases((N.n2 _ _ _ y).2 e).2.2 with⟨t,ht,k1⟩|⟨o0,g0,q0,k1,k2⟩
    ·subst ht;exact i _ (YC k1)
    ·rw[←k2];exact i _ (p _ _ _ k1)
  ·have m:DK (Cn dst V xs) V V':=fun o ho=>j o (i o ho)
   exact RE (fun o ho=>by rw[Tp m];exact ho) (fun o ho=>(m o ho).1) hhand
  ·exact Wo (fun t ht o ho=>by subst ht;exact(j o (i o (YC ho))).2) (fun o g q y=>(j q.1 (i _ (p _ _ _ y))).2) hnm
 ·have u:o∈Cn dst V xs:=by simpa using hcf
  refine⟨_,_,hK,fun o' n=>by simp[Bs.site]at n;subst n;exact i _ u,fun V' K' j hk=>.inr (.inr (.inr (.inr ⟨o,g,ety,es,nl,l,ds,r,?_,hlim,?_,hd',hret,hk⟩)))⟩
  ·unfold AO.get at hget ⊢;rw[(j o (i o u)).1];exact hget
  ·have m:DK (Cn dst V xs) V V':=fun o ho=>j o (i o ho)
   rw[Tp m];exact hcf
theorem I6{α:Type}{ag:Bool}{n off:Nat}{cs:List α}{mk:List α->AV}{one:α->AV}(h:DI ag n cs off mk one (K · .none)) :
  ∃v,K v .none/\∀K':AV->Bs->Prop,K' v .none->DI ag n cs off mk one (K' · .none):=by
 cases ag with
 |true =>
  simp only[DI,if_true]at *;exact⟨_,h.2,fun K' hk=>⟨h.1,hk⟩⟩
 |false =>
  simp only[DI,aa,if_false]at *
  cases hc:cs[off]? with
  |none=>simp[hc]at h
  |some v=>simp only[hc]at h ⊢;exact⟨_,h,fun K' hk=>hk⟩
theorem wS{op:BinOp}{k k':IntKind}{a b:Int}(h:Dn op k k' a b (K · .none)):∃v,K v .none/\∀K':AV->Bs->Prop,K' v .none->Dn op k k' a b (K' · .none):=by
 cases op<;>simp only[Dn]at h ⊢<;>first
  |exact⟨_,h.2.2,fun K' hk=>⟨h.1,h.2.1,hk⟩⟩
  |exact⟨_,h.2,fun K' hk=>⟨h.1,hk⟩⟩
theorem Yu{lo hi:Bool}{len:Nat}{e:List AV}{C:Nat->Nat->Prop}(h:Pt lo hi len e C):∃a b,C a b/\∀C':Nat->Nat->Prop,C' a b->Pt lo hi len e C':=by
 cases lo<;>cases hi<;>simp only[Pt,if_true,if_false,aa]at h ⊢
 ·split at h
  ·exact⟨_,_,h,fun C' hc=>hc⟩
  ·exact h.elim
 ·split at h
  ·exact⟨_,_,h.2.2,fun C' hc=>⟨h.1,h.2.1,hc⟩⟩
  ·exact h.elim
 ·split at h
  ·exact⟨_,_,h.2.2,fun C' hc=>⟨h.1,h.2.1,hc⟩⟩
  ·exact h.elim
 ·split at h
  ·exact⟨_,_,h.2.2.2,fun C' hc=>⟨h.1,h.2.1,h.2.2.1,hc⟩⟩
  ·exact h.elim
theorem Av{W F:List Nat}{G:AO->(AV->Bs->Prop)->Prop}(h:∃v,K v .none/\∀V' K',K' v .none->G V' K'):Loc W F V G K:=by
 obtain⟨v,h1,h2⟩:=h;exact⟨v,.none,h1,by simp[Bs.site],fun V' K' _ hk=>h2 V' K' hk⟩
theorem qj{op:Bx}{xs:List AV}(h:ev E dst V op xs K):Loc (TM V dst op xs) (fp V dst op xs) V (fun V' K'=>ev E dst V' op xs K') K:=by
 have sin:∀{x:AV}{o:Nat}{ys:List AV},o∈x.sites->o∈AV.sites.sitesL (x::ys):=fun {x o ys} h=>by simp only[AV.sites.sitesL,ax];exact .inl h
 cases op with
 |mov =>
  unfold ev at h;simp only at h;split at h
  ·exact Av ⟨_,h,fun V' K' hk=>by unfold ev;exact hk⟩
  ·exact h.elim
 |pick =>
  unfold ev at h;simp only at h;split at h
  ·rename_i c a b
   cases c
   ·simp at h;exact Av ⟨_,h,fun V' K' hk=>by unfold ev;simpa using hk⟩
   ·simp at h;exact Av ⟨_,h,fun V' K' hk=>by unfold ev;simpa using hk⟩
  ·exact h.elim
 |bin b =>
  unfold ev at h;simp only at h;split at h
  ·obtain⟨v,h1,h2⟩:=wS h;exact Av ⟨v,h1,fun V' K' hk=>by unfold ev;exact h2 K' hk⟩
  ·exact h.elim
 |beq _=>unfold ev at h;exact h.elim
 |eqv neg tys =>
  unfold ev at h;simp only at h;split at h
  ·rename_i x y;split at h
   ·rename_i a b A hb;exact Av ⟨_,h.2.2,fun V' K' hk=>by unfold ev;simp only[A,hb];exact⟨h.1,h.2.1,hk⟩⟩
   ·exact h.elim
  ·exact h.elim
 |eqnil neg =>
  unfold ev at h;simp only at h;split at h
  ·rename_i x;split at h
   ·rename_i nl l hl;refine⟨_,_,h,by simp[Bs.site],fun V' K' A hk=>?_⟩;unfold ev;simp only;rw[L0 A fun o ho=>by simp only[fp,Bx.foot,Bx.isCall];exact sin ho,hl];exact hk
   ·exact h.elim
  ·exact h.elim
 |un u =>
  unfold ev at h;simp only at h;split at h
  ·exact Av ⟨_,h,fun V' K' hk=>by unfold ev;exact hk⟩
  ·exact Av ⟨_,h,fun V' K' hk=>by unfold ev;exact hk⟩
  ·exact Av ⟨_,h,fun V' K' hk=>by unfold ev;exact hk⟩
  ·exact h.elim
 |conv k =>
  unfold ev at h;simp only at h;split at h
  ·exact Av ⟨_,h,fun V' K' hk=>by unfold ev;exact hk⟩
  ·exact h.elim
 |load ag n =>
  unfold ev at h;simp only at h;split at h
  ·rename_i o g off;split at h
   ·rename_i cs hg;obtain⟨v,h1,h2⟩:=I6 h;refine⟨v,.none,h1,by simp[Bs.site],fun V' K' A hk=>?_⟩;unfold ev;simp only;rw[A.get (by simp[fp,Bx.foot,Bx.isCall,AV.sites.sitesL,AV.sites]),hg];exact h2 K' hk
   ·exact h.elim
  ·rename_i o g es i off;split at h
   ·rename_i ety es' nl l hg;obtain⟨T,h⟩:=h;split at h
    ·rename_i x hx;obtain⟨v,h1,h2⟩:=I6 h;refine⟨v,.none,h1,by simp[Bs.site],fun V' K' A hk=>?_⟩;unfold ev;simp only;rw[A.get (by simp[fp,Bx.foot,Bx.isCall,AV.sites.sitesL,AV.sites]),hg];simp only[hx];exact⟨T,h2 K' hk⟩
    ·exact h.elim
   ·exact h.elim
  ·obtain⟨v,h1,h2⟩:=I6 h;exact Av ⟨v,h1,fun V' K' hk=>by unfold ev;exact h2 K' hk⟩
  ·obtain⟨v,h1,h2⟩:=I6 h;exact Av ⟨v,h1,fun V' K' hk=>by unfold ev;exact h2 K' hk⟩
  ·rename_i i o g;have B:o∈fp V dst (.load ag n) [.mref (.xp i) o g]:=by simp[fp,Bx.foot,Bx.isCall,AV.sites.sitesL,AV.sites]
   split at h
   ·rename_i e1 e2 nl ix rows hg;split at h
    ·rename_i j hj;obtain⟨v,h1,h2⟩:=I6 h;refine⟨v,.none,h1,by simp[Bs.site],fun V' K' A hk=>?_⟩;unfold ev;simp only;rw[A.get B,hg];simp only[hj];exact h2 K' hk
    ·exact h.elim
   ·exact h.elim
  ·rename_i j k o g;have B:o∈fp V dst (.load ag n) [.mref (.mp j k) o g]:=by simp[fp,Bx.foot,Bx.isCall,AV.sites.sitesL,AV.sites]
   split at h
   ·rename_i e1 e2 nl ix rows hg;split at h
    ·rename_i x hx;split at h
     ·rename_i y hy;obtain⟨v,h1,h2⟩:=I6 h;refine⟨v,.none,h1,by simp[Bs.site],fun V' K' A hk=>?_⟩;unfold ev;simp only;rw[A.get B,hg];simp only[hx,hy];exact h2 K' hk
     ·exact h.elim
    ·exact h.elim
   ·exact h.elim
  ·obtain⟨v,h1,h2⟩:=I6 h;exact Av ⟨v,h1,fun V' K' hk=>by unfold ev;exact h2 K' hk⟩
  ·exact h.elim
 |store n =>
  unfold ev at h;simp only at h;split at h
  ·rename_i o g off v;split at h
   ·rename_i cs vs hg hv;refine⟨_,_,h.2.2,by simp[Bs.site,TM,Bx.foot,Bx.isCall,AV.sites.sitesL,AV.sites],fun V' K' A hk=>?_⟩;unfold ev;simp only;rw[A.get (by simp[fp,Bx.foot,Bx.isCall,AV.sites.sitesL,AV.sites]),hg];simp only[hv];exact⟨h.1,h.2.1,hk⟩
   ·exact h.elim
  ·rename_i o g ζ i off v;split at h
   ·rename_i ety es nl l y hg hv;obtain⟨T,h⟩:=h;split at h
    ·rename_i x hx;refine⟨_,_,h.2.2.2,by simp[Bs.site,TM,Bx.foot,Bx.isCall,AV.sites.sitesL,AV.sites],fun V' K' A hk=>?_⟩;unfold ev;simp only;rw[A.get (by simp[fp,Bx.foot,Bx.isCall,AV.sites.sitesL,AV.sites]),hg];simp only[hv,hx];exact⟨T,h.1,h.2.1,h.2.2.1,hk⟩
    ·exact h.elim
   ·exact h.elim
  ·rename_i i o g j o' g';have B:o∈fp V dst (.store n) [.mref (.xp i) o g,.mref (.row j) o' g']:=by simp[fp,Bx.foot,Bx.isCall,AV.sites.sitesL,AV.sites]
   split at h
   ·rename_i e1 e2 nl ix rows hg;refine⟨_,_,h.2.2.2.2.2,by simp[Bs.site,TM,Bx.foot,Bx.isCall,AV.sites.sitesL,AV.sites],fun V' K' A hk=>?_⟩;unfold ev;simp only;rw[A.get B,hg];exact⟨h.1,h.2.1,h.2.2.1,h.2.2.2.1,h.2.2.2.2.1,hk⟩
   ·exact h.elim
  ·rename_i i o g q p;have B:o∈fp V dst (.store n) [.mref (.xp i) o g,.own q p]:=by simp[fp,Bx.foot,Bx.isCall,AV.sites.sitesL,AV.sites]
   have R:q∈fp V dst (.store n) [.mref (.xp i) o g,.own q p]:=by simp[fp,Bx.foot,Bx.isCall,AV.sites.sitesL,AV.sites]
   split at h
   ·rename_i e1 e2 nl ix rows Z Y X l2 hg N;refine⟨_,_,h.2.2.2.2.2.2.2,by simp[Bs.site,TM,Bx.foot,Bx.isCall,AV.sites.sitesL,AV.sites],fun V' K' A hk=>?_⟩;unfold ev;simp only;rw[A.get B,hg,A.get R,N];exact⟨h.1,h.2.1,h.2.2.1,h.2.2.2.1,h.2.2.2.2.1,h.2.2.2.2.2.1,h.2.2.2.2.2.2.1,hk⟩
   ·exact h.elim
  ·rename_i j k o g v;have B:o∈fp V dst (.store n) [.mref (.mp j k) o g,v]:=by simp[fp,Bx.foot,Bx.isCall,AV.sites.sitesL,AV.sites]
   split at h
   ·rename_i e1 e2 nl ix rows y hg hv;split at h
    ·rename_i x hx;refine⟨_,_,h.2.2.2,by simp[Bs.site,TM,Bx.foot,Bx.isCall,AV.sites.sitesL,AV.sites],fun V' K' A hk=>?_⟩;unfold ev;simp only;rw[A.get B,hg];simp only[hv,hx];exact⟨h.1,h.2.1,h.2.2.1,hk⟩
    ·exact h.elim
   ·exact h.elim
  ·exact h.elim
 |nilck =>
  unfold ev at h;simp only at h;split at h
  ·exact Av ⟨_,h,fun V' K' hk=>by unfold ev;exact hk⟩
  ·exact Av ⟨_,h,fun V' K' hk=>by unfold ev;exact hk⟩
  ·exact Av ⟨_,h,fun V' K' hk=>by unfold ev;exact hk⟩
  ·exact Av ⟨_,h,fun V' K' hk=>by unfold ev;exact hk⟩
  ·exact Av ⟨_,h,fun V' K' hk=>by unfold ev;exact hk⟩
  ·exact Av ⟨_,h,fun V' K' hk=>by unfold ev;exact hk⟩
  ·exact Av ⟨_,h,fun V' K' hk=>by unfold ev;exact hk⟩
  ·exact h.elim
 |field _ _ _=>unfold ev at h;exact h.elim
 |faddr off =>
  unfold ev at h;simp only at h;split at h
  ·exact Av ⟨_,h,fun V' K' hk=>by unfold ev;exact hk⟩
  ·exact Av ⟨_,h,fun V' K' hk=>by unfold ev;exact hk⟩
  ·exact Av ⟨_,h,fun V' K' hk=>by unfold ev;exact hk⟩
  ·exact Av ⟨_,h,fun V' K' hk=>by unfold ev;exact hk⟩
  ·exact Av ⟨_,h,fun V' K' hk=>by unfold ev;exact hk⟩
  ·exact h.elim
 |iaddrS es =>
  unfold ev at h;simp only at h;split at h
  ·rename_i o g k i;split at h
   ·rename_i ety es' nl l hg;refine⟨_,_,h.2.2.2,by simp[Bs.site],fun V' K' A hk=>?_⟩;unfold ev;simp only;rw[A.get (by simp[fp,Bx.foot,Bx.isCall,AV.sites.sitesL,AV.sites]),hg];exact⟨h.1,h.2.1,h.2.2.1,hk⟩
   ·exact h.elim
  ·obtain⟨h1,h2,h⟩:=h;split at h
   ·rename_i x hx;exact Av ⟨_,h.2,fun V' K' hk=>by unfold ev;simp only[hx];exact⟨h1,h2,h.1,hk⟩⟩
   ·exact h.elim
  ·obtain⟨h1,h2,h⟩:=h;split at h
   ·rename_i x hx;exact Av ⟨_,h.2,fun V' K' hk=>by unfold ev;simp only[hx];exact⟨h1,h2,h.1,hk⟩⟩
   ·exact h.elim
  ·rename_i o g k i;split at h
   ·rename_i e1 e2 nl ix rows hg;refine⟨_,_,h.2.2.2,by simp[Bs.site],fun V' K' A hk=>?_⟩;unfold ev;simp only;rw[A.get (by simp[fp,Bx.foot,Bx.isCall,AV.sites.sitesL,AV.sites]),hg];exact⟨h.1,h.2.1,h.2.2.1,hk⟩
   ·exact h.elim
  ·rename_i j o g k i;split at h
   ·rename_i e1 e2 nl ix rows hg;split at h
    ·rename_i x hx;refine⟨_,_,h.2.2.2,by simp[Bs.site],fun V' K' A hk=>?_⟩;unfold ev;simp only;rw[A.get (by simp[fp,Bx.foot,Bx.isCall,AV.sites.sitesL,AV.sites]),hg];simp only[hx];exact⟨h.1,h.2.1,h.2.2.1,hk⟩
    ·exact h.elim
   ·exact h.elim
  ·exact Av ⟨_,h.2.2.2,fun V' K' hk=>by unfold ev;exact⟨h.1,h.2.1,h.2.2.1,hk⟩⟩
  ·exact h.elim
 |iaddrA len es =>
  unfold ev at h;simp only at h;split at h
  ·exact Av ⟨_,h.2.2,fun V' K' hk=>by unfold ev;exact⟨h.1,h.2.1,hk⟩⟩
  ·exact Av ⟨_,h.2.2,fun V' K' hk=>by unfold ev;exact⟨h.1,h.2.1,hk⟩⟩
  ·exact Av ⟨_,h.2.2,fun V' K' hk=>by unfold ev;exact⟨h.1,h.2.1,hk⟩⟩
  ·exact Av ⟨_,h.2.2,fun V' K' hk=>by unfold ev;exact⟨h.1,h.2.1,hk⟩⟩
  ·exact h.elim
 |index _ _ _=>unfold ev at h;exact h.elim
 |strx sb =>
  unfold ev at h;simp only at h;split at h
  ·obtain⟨h0,h⟩:=h;split at h
   ·rename_i b hb;exact Av ⟨_,h,fun V' K' hk=>by unfold ev;simp only[hb];exact⟨h0,hk⟩⟩
   ·exact h.elim
  ·exact h.elim
 |build z pl =>
  unfold ev at h;simp only at h;split at h
  ·rename_i cs hc;exact Av ⟨_,h.2,fun V' K' hk=>by unfold ev;simp only[hc];exact⟨h.1,hk⟩⟩
  ·exact h.elim
 |mkrow es z len ix =>
  unfold ev at h;simp only at h;split at h
  ·exact Av ⟨_,h.2.2.2,fun V' K' hk=>by unfold ev;exact⟨h.1,h.2.1,h.2.2.1,hk⟩⟩
  rename_i γ;split at h
  ·rename_i cs hc
   exact Av ⟨_,h.2,fun V' K' hk=>by
    unfold ev;simp only
    rw[hc];exact⟨h.1,hk⟩⟩
  ·exact h.elim
 |mkrowO ety es z len ix =>
  unfold ev at h;simp only at h;split at h
  ·rename_i t l hl;refine⟨_,_,h.2.2,by simp[Bs.site,TM,Bx.foot,Bx.isCall],fun V' K' A hk=>?_⟩;unfold ev;simp only[hl];rw[(A t (by simp[fp,Bx.foot,Bx.isCall])).2];exact⟨h.1,h.2.1,hk⟩
  ·exact h.elim
 |mkfn f=>exact Av ⟨_,h,fun V' K' hk=>hk⟩
 |mkbnd f=>exact Av ⟨_,h,fun V' K' hk=>hk⟩
 |yld=>exact h.elim
 |box =>
  unfold ev at h;simp only at h;split at h
  ·rename_i t v;split at h
   ·rename_i cs hc;refine⟨_,_,h.2,by simp[Bs.site,TM,Bx.foot,Bx.isCall],fun V' K' A hk=>?_⟩;unfold ev;simp only[hc];rw[(A t (by simp[fp,Bx.foot,Bx.isCall])).2];exact⟨h.1,hk⟩
   ·exact h.elim
  ·exact h.elim
 |zero cs =>
  unfold ev at h;simp only at h;split at h
  ·rename_i t;refine⟨_,_,h.2,by simp[Bs.site,TM,Bx.foot,Bx.isCall],fun V' K' A hk=>?_⟩;unfold ev;simp only;rw[(A t (by simp[fp,Bx.foot,Bx.isCall])).2];exact⟨h.1,hk⟩
  ·exact h.elim
 |mkmap tys =>
  unfold ev at h;simp only at h;split at h
  ·rename_i t;refine⟨_,_,h.2,by simp[Bs.site,TM,Bx.foot,Bx.isCall],fun V' K' A hk=>?_⟩;unfold ev;simp only;rw[(A t (by simp[fp,Bx.foot,Bx.isCall])).2];exact⟨h.1,hk⟩
  ·exact h.elim
 |mksl ety es z own =>
  unfold ev at h;simp only at h;split at h
  ·rename_i t n m;obtain⟨h1,h2,L,h⟩:=h
   cases own with
   |true =>
    simp only[if_true]at h;refine⟨_,_,h.2,by simp[Bs.site,TM,Bx.foot,Bx.isCall],fun V' K' A hk=>?_⟩;unfold ev;simp only[if_true];rw[(A t (by simp[fp,Bx.foot,Bx.isCall])).2];exact⟨h1,h2,L,h.1,hk⟩
   |false =>
    simp only[aa,if_false]at h;exact Av ⟨_,h,fun V' K' hk=>by unfold ev;simp only[aa,if_false];exact⟨h1,h2,L,hk⟩⟩
  ·exact h.elim
 |slice es lo hi mx =>
  unfold ev at h;simp only at h
  cases mx with
  |true =>
   simp only[if_true]at h;split at h
   ·exact Av ⟨_,h.2.2.2.2,fun V' K' hk=>by unfold ev;simp only[if_true];exact⟨h.1,h.2.1,h.2.2.1,h.2.2.2.1,hk⟩⟩
   ·exact Av ⟨_,h.2.2,fun V' K' hk=>by unfold ev;simp only[if_true];exact⟨h.1,h.2.1,hk⟩⟩
   ·exact Av ⟨_,h.2.2,fun V' K' hk=>by unfold ev;simp only[if_true];exact⟨h.1,h.2.1,hk⟩⟩
   ·exact Av ⟨_,h.2.2.2,fun V' K' hk=>by unfold ev;simp only[if_true];exact⟨h.1,h.2.1,h.2.2.1,hk⟩⟩
   ·exact Av ⟨_,h.2.2.2,fun V' K' hk=>by unfold ev;simp only[if_true];exact⟨h.1,h.2.1,h.2.2.1,hk⟩⟩
   ·exact Av ⟨_,h.2.2.2.2.2,fun V' K' hk=>by unfold ev;simp only[if_true];exact⟨h.1,h.2.1,h.2.2.1,h.2.2.2.1,h.2.2.2.2.1,hk⟩⟩
   ·exact h.elim
  |false =>
   simp only[aa,if_false]at h;split at h
   ·obtain⟨hu,h⟩:=h;obtain⟨a,b,h1,h2⟩:=Yu h;exact Av ⟨_,h1,fun V' K' hk=>by unfold ev;simp only[aa,if_false];exact⟨hu,h2 _ hk⟩⟩
   ·obtain⟨hu,h⟩:=h;obtain⟨a,b,h1,h2⟩:=Yu h;exact Av ⟨_,h1,fun V' K' hk=>by unfold ev;simp only[aa,if_false];exact⟨hu,h2 _ hk⟩⟩
   ·rename_i o g rest;split at h
    ·rename_i ety es' nl l hg;obtain⟨δ,T,h⟩:=h;obtain⟨a,b,h1,h2⟩:=Yu h;refine⟨_,_,h1,by simp[Bs.site,TM,Bx.foot,Bx.isCall,AV.sites.sitesL,AV.sites],fun V' K' A hk=>?_⟩;unfold ev;simp only[aa,if_false];have ho:o∈fp V dst (.slice es lo hi false) (.own o g::rest):=by simp[fp,Bx.foot,Bx.isCall,AV.sites.sitesL,AV.sites]
     rw[A.get ho,hg,(A o ho).2];exact⟨δ,T,h2 (fun a b=>K' (.own o (V.cn o)) (.fresh o (.row ety es nl (if hi then(l.drop a).take (b-a)else l.drop a)))) hk⟩
    ·exact h.elim
   ·exact h.elim
 |sub _=>unfold ev at h;exact h.elim
 |pre=>unfold ev at h;exact h.elim
 |cpy=>unfold ev at h;exact h.elim
 |clr _=>unfold ev at h;exact h.elim
 |len m =>
  unfold ev at h;simp only at h;split at h
  ·rename_i x
   cases m with
   |true =>
    simp only[if_true]at h;split at h
    ·rename_i o g;split at h
     ·rename_i tys kvs hg;refine⟨_,_,h.2,by simp[Bs.site],fun V' K' A hk=>?_⟩;unfold ev;simp only[if_true];rw[A.get (by simp[fp,Bx.foot,Bx.isCall,AV.sites.sitesL,AV.sites]),hg];exact⟨h.1,hk⟩
     ·exact h.elim
    ·exact Av ⟨_,h.2,fun V' K' hk=>by unfold ev;simp only[if_true];exact⟨h.1,hk⟩⟩
    ·exact h.elim
   |false =>
    simp only[aa,if_false]at h;split at h
    ·rename_i nl hl;refine⟨_,_,h,by simp[Bs.site],fun V' K' A hk=>?_⟩;unfold ev;simp only[aa,if_false];rw[fV A fun o ho=>by simp only[fp,Bx.foot,Bx.isCall];exact sin ho,hl];exact hk
    ·exact h.elim
  ·exact h.elim
 |cap =>
  unfold ev at h;simp only at h;split at h
  ·exact Av ⟨_,h,fun V' K' hk=>by unfold ev;exact hk⟩
  ·exact h.elim
 |minmax m =>
  unfold ev at h;simp only at h;split at h
  ·split at h
   ·rename_i r hr;exact Av ⟨_,h,fun V' K' hk=>by unfold ev;simp only[hr];exact hk⟩
   ·exact h.elim
  ·exact h.elim
 |extract i =>
  unfold ev at h;simp only at h;split at h
  ·split at h
   ·rename_i r hr;exact Av ⟨_,h,fun V' K' hk=>by unfold ev;simp only[hr];exact hk⟩
   ·exact h.elim
  ·exact h.elim
 |lookup ok tys z =>
  unfold ev at h;simp only at h;split at h
  ·rename_i o g key;split at h
   ·rename_i tys' kvs k hg G;obtain⟨h1,h2,h⟩:=h;split at h
    ·rename_i v hv;refine⟨_,_,h,by simp[Bs.site],fun V' K' A hk=>?_⟩;unfold ev;simp only;rw[A.get (by simp[fp,Bx.foot,Bx.isCall,AV.sites.sitesL,AV.sites]),hg];simp only[G,hv];exact⟨h1,h2,hk⟩
    ·rename_i hv;refine⟨_,_,h,by simp[Bs.site],fun V' K' A hk=>?_⟩;unfold ev;simp only;rw[A.get (by simp[fp,Bx.foot,Bx.isCall,AV.sites.sitesL,AV.sites]),hg];simp only[G,hv];exact⟨h1,h2,hk⟩
   ·exact h.elim
  ·split at h
   ·rename_i k G;obtain⟨h1,h2,h⟩:=h;split at h
    ·rename_i v hv;exact Av ⟨_,h,fun V' K' hk=>by unfold ev;simp only[G,hv];exact⟨h1,h2,hk⟩⟩
    ·rename_i hv;exact Av ⟨_,h,fun V' K' hk=>by unfold ev;simp only[G,hv];exact⟨h1,h2,hk⟩⟩
   ·exact h.elim
  ·split at h
   ·rename_i k G;exact Av ⟨_,h.2,fun V' K' hk=>by unfold ev;simp only[G];exact⟨h.1,hk⟩⟩
   ·exact h.elim
  ·exact h.elim
 |mapupd tys =>
  unfold ev at h;simp only at h;split at h
  ·rename_i o g key val;split at h
   ·rename_i tys' kvs k v hg G M;refine⟨_,_,h.2.2,by simp[Bs.site,TM,Bx.foot,Bx.isCall,AV.sites.sitesL,AV.sites],fun V' K' A hk=>?_⟩;unfold ev;simp only;rw[A.get (by simp[fp,Bx.foot,Bx.isCall,AV.sites.sitesL,AV.sites]),hg];simp only[G,M];exact⟨h.1,h.2.1,hk⟩
   ·exact h.elim
  ·exact h.elim
 |delete _=>unfold ev at h;exact h.elim
 |mkmapB _=>unfold ev at h;exact h.elim
 |mrange =>
  unfold ev at h;simp only at h;split at h
  ·rename_i t tys kvs;refine⟨_,_,h.2,by simp[Bs.site,TM,Bx.foot,Bx.isCall],fun V' K' A hk=>?_⟩;unfold ev;simp only;rw[(A t (by simp[fp,Bx.foot,Bx.isCall])).2];exact⟨h.1,hk⟩
  ·exact h.elim
 |mentry =>
  unfold ev at h;simp only at h;split at h
  ·rename_i o g
   have α:o∈fp V dst .mentry [.ptr o g 0]:=by
    simp only[fp,Bx.foot,Bx.isCall,if_true];exact Tn (by simp[AV.sites.sitesL,AV.sites])
   split at h
   ·rename_i tys kvs seen hg;split at h
    ·rename_i i hi;split at h
     ·rename_i kv ε;refine⟨_,_,h,by simp[Bs.site],fun V' K' A hk=>?_⟩;unfold ev;simp only;rw[A.get α,hg];simp only[hi,ε];exact hk
     ·exact h.elim
    ·exact h.elim
   ·exact h.elim
  ·exact h.elim
 |mapent tys z =>
  unfold ev at h;simp only at h;split at h
  ·rename_i o g key;split at h
   ·rename_i tys' kvs k hg G;obtain⟨h1,h2,L,h⟩:=h;split at h
    ·rename_i v hv;refine⟨_,_,h,by simp[Bs.site],fun V' K' A hk=>?_⟩;unfold ev;simp only;rw[A.get (by simp[fp,Bx.foot,Bx.isCall,AV.sites.sitesL,AV.sites]),hg];simp only[G,hv];exact⟨h1,h2,L,hk⟩
    ·rename_i hv;refine⟨_,_,h,by simp[Bs.site,TM,Bx.foot,Bx.isCall,AV.sites.sitesL,AV.sites],fun V' K' A hk=>?_⟩;unfold ev;simp only;rw[A.get (by simp[fp,Bx.foot,Bx.isCall,AV.sites.sitesL,AV.sites]),hg];simp only[G,hv];exact⟨h1,h2,L,hk⟩
   ·exact h.elim
  ·exact h.elim
 |entst =>
  unfold ev at h;simp only at h;split at h
  ·rename_i o g k i val;split at h
   ·rename_i tys kvs v hg M;obtain⟨h1,h2,h⟩:=h;split at h
    ·rename_i e β;refine⟨_,_,h,by simp[Bs.site,TM,Bx.foot,Bx.isCall,AV.sites.sitesL,AV.sites],fun V' K' A hk=>?_⟩;unfold ev;simp only;rw[A.get (by simp[fp,Bx.foot,Bx.isCall,AV.sites.sitesL,AV.sites]),hg];simp only[M,β];exact⟨h1,h2,hk⟩
    ·exact h.elim
   ·exact h.elim
  ·exact h.elim
 |app ety es z own =>
  unfold ev at h;simp only at h;split at h
  ·rename_i k o g y;have B:o∈fp V dst (.app ety es z own) [.mref k o g,y]:=by simp[fp,Bx.foot,Bx.isCall,AV.sites.sitesL,AV.sites]
   split at h
   ·rename_i e1 e2 nl ix rows q p hg;have R:q∈fp V dst (.app ety es z own) [.mref .out o g,.ablk true [.own q p] 0]:=by simp[fp,Bx.foot,Bx.isCall,AV.sites.sitesL,AV.sites]
    split at h
    ·rename_i Z Y X l2 N;obtain⟨h0,h1,h2,L,S,h5,h6,h7,h8,h⟩:=h;refine⟨_,_,h,by simp[Bs.site,TM,Bx.foot,Bx.isCall,AV.sites.sitesL,AV.sites],fun V' K' A hk=>?_⟩;unfold ev;simp only;rw[A.get B,hg];simp only;rw[A.get R,N,(A o B).2];exact⟨h0,h1,h2,L,S,h5,h6,h7,h8,hk⟩
    ·exact h.elim
   ·rename_i j e1 e2 nl ix rows hg;split at h
    ·rename_i x ys U O;obtain⟨h0,h1,h2,L,S,h5,h6,h⟩:=h;refine⟨_,_,h,by simp[Bs.site,TM,Bx.foot,Bx.isCall,AV.sites.sitesL,AV.sites],fun V' K' A hk=>?_⟩;unfold ev;simp only;rw[A.get B,hg];simp only;rw[R_ A fun o ho=>by simp[fp,Bx.foot,Bx.isCall,AV.sites.sitesL];exact .inr (.inr ho),O,U];exact⟨h0,h1,h2,L,S,h5,h6,hk⟩
    ·exact h.elim
   ·exact h.elim
  ·rename_i x y γ;split at h
   ·exact h.elim
   ·rename_i ys O
    have J:∀{V':AO},DK (fp V dst (.app ety es z own) [x,y]) V V'->Dq V' z y=some ys:=fun {V'} A=>by
     rw[R_ A fun o ho=>by simp[fp,Bx.foot,Bx.isCall,AV.sites.sitesL];exact .inr (.inr ho),O]
    split at h
    ·rename_i o g;split at h
     ·rename_i ety' es' nl l hg;obtain⟨h0,h1,h2,L,S,h⟩:=h;refine⟨_,_,h,by simp[Bs.site,TM,Bx.foot,Bx.isCall,AV.sites.sitesL,AV.sites],fun V' K' A hk=>?_⟩;have ho:o∈fp V dst (.app ety es z own) [.own o g,y]:=by simp[fp,Bx.foot,Bx.isCall,AV.sites.sitesL,AV.sites]
      unfold ev;simp only[J A];rw[A.get ho,hg,(A o ho).2];exact⟨h0,h1,h2,L,S,hk⟩
     ·exact h.elim
    ·obtain⟨h1,h2,h⟩:=h
     cases own with
     |true =>
      simp only[if_true]at h;split at h
      ·rename_i t;refine⟨_,_,h.2,by simp[Bs.site,TM,Bx.foot,Bx.isCall],fun V' K' A hk=>?_⟩;unfold ev;simp only[J A,if_true];rw[(A t (by simp[fp,Bx.foot,Bx.isCall])).2];exact⟨h1,h2,h.1,hk⟩
      ·exact h.elim
     |false =>
      simp only[aa,if_false]at h;refine⟨_,_,h,by simp[Bs.site],fun V' K' A hk=>?_⟩;unfold ev;simp only[J A,aa,if_false];exact⟨h1,h2,hk⟩
    ·obtain⟨h1,h2,h⟩:=h
     cases own with
     |true =>
      simp only[if_true]at h;split at h
      ·rename_i t;split at h
       ·refine⟨_,_,h,by simp[Bs.site,TM,Bx.foot,Bx.isCall],fun V' K' A hk=>?_⟩;unfold ev;simp only[J A,if_true];exact⟨h1,h2,hk⟩
       ·refine⟨_,_,h.2,by simp[Bs.site,TM,Bx.foot,Bx.isCall],fun V' K' A hk=>?_⟩;unfold ev;simp only[J A,if_true];rw[(A t (by simp[fp,Bx.foot,Bx.isCall])).2];exact⟨h1,h2,h.1,hk⟩
      ·exact h.elim
     |false =>
      simp only[aa,if_false]at h;refine⟨_,_,h,by simp[Bs.site],fun V' K' A hk=>?_⟩;unfold ev;simp only[J A,aa,if_false];exact⟨h1,h2,hk⟩
    ·exact h.elim
  ·exact h.elim
 |call f=>exact JB (F:=fp V dst (.call f) xs) (fun o ho=>by simpa[fp,Bx.foot,Bx.isCall]using ho) h
 |callv =>
  unfold ev at h;simp only at h;split at h
  ·rename_i f cs args;obtain⟨hb,h⟩:=h
   obtain⟨v,ch,h1,h2,L⟩:=JB (F:=fp V dst .callv (.fn f cs::args)) (fun o ho=>by
    have:o∈Cn dst V (.fn f cs::args):=Lv (fun o ho=>by
     rw[Hf]at ho;simp only[AV.sites.sitesL,AV.sites,ax]at ho ⊢
     exact ho.symm) o ho
    simpa[fp,Bx.foot,Bx.isCall]using this) h
   exact⟨v,ch,h1,h2,fun V' K' A hk=>by unfold ev;exact⟨hb,L V' K' A hk⟩⟩
  ·rename_i f cs args;obtain⟨hb,h⟩:=h
   obtain⟨v,ch,h1,h2,L⟩:=JB (F:=fp V dst .callv (.d (.fn f cs)::args)) (fun o ho=>by
    have:o∈Cn dst V (.d (.fn f cs)::args):=Lv (fun o ho=>by
     rw[Hf,bE]at ho;simp only[AV.sites.sitesL,AV.sites,ax,f0,i5]at ho ⊢
     exact ho) o ho
    simpa[fp,Bx.foot,Bx.isCall]using this) h
   exact⟨v,ch,h1,h2,fun V' K' A hk=>by unfold ev;exact⟨hb,L V' K' A hk⟩⟩
  ·rename_i f cs args;obtain⟨hb,h⟩:=h
   obtain⟨v,ch,h1,h2,L⟩:=JB (F:=fp V dst .callv (.bnd f cs::args)) (fun o ho=>by
    have:o∈Cn dst V (.bnd f cs::args):=Lv (fun o ho=>by
     rw[Hf]at ho;simp only[AV.sites.sitesL,AV.sites,ax]at ho ⊢
     exact ho) o ho
    simpa[fp,Bx.foot,Bx.isCall]using this) h
   exact⟨v,ch,h1,h2,fun V' K' A hk=>by unfold ev;exact⟨hb,L V' K' A hk⟩⟩
  ·rename_i f cs args;obtain⟨hb,h⟩:=h
   obtain⟨v,ch,h1,h2,L⟩:=JB (F:=fp V dst .callv (.d (.bnd f cs)::args)) (fun o ho=>by
    have:o∈Cn dst V (.d (.bnd f cs)::args):=Lv (fun o ho=>by
     rw[Hf,bE]at ho;simp only[AV.sites.sitesL,AV.sites,ax,f0,i5]at ho ⊢
     exact ho) o ho
    simpa[fp,Bx.foot,Bx.isCall]using this) h
   exact⟨v,ch,h1,h2,fun V' K' A hk=>by unfold ev;exact⟨hb,L V' K' A hk⟩⟩
  ·exact h.elim
end Go.Pw
end
section
namespace Go.Pw
def Lf(E:CW):List Fu->BG->(BG->Prop)->Prop
 |[],s,K=>K s
 |I::l,s,K=>Ey E I s fun v ch=>Lf E l (put s I.dst v ch) K
abbrev Wh:=List Nat×List Nat
def EA(I:Fu)(s:BG):List Nat:=fp s.V I.dst I.op (I.xs.map (Jk.val s.sl))
def N4(a b:Wh):Bool :=
 (a.1.all fun o=>!b.2.contains o) && (b.1.all fun o=>!a.2.contains o)
def Wm(E:CW):List (Fu×List Nat)->List Wh->BG->(BG->Prop)->Prop
 |[],_,s,K=>K s
 |(I,dy)::l,rec,s,K=>Ey E I s fun v ch =>
  (dy.all fun j=>match rec[j]? with|some r=>N4 r (ch.site,EA I s)|none=>false)=true /\
  Wm E l (rec++[(ch.site,EA I s)]) (put s I.dst v ch) K
def Jk.slot:Jk->List Nat
 |.t n=>[n]
 |.k _=>[]
def Fu.reads(I:Fu):List Nat:=I.xs.flatMap Jk.slot++(match I.g with|some (t,_)=>[t]|none=>[])
theorem d8{xs:List Jk}{s s':BG}(h:∀t,t∈xs.flatMap Jk.slot->s'.sl t=s.sl t):xs.map (Jk.val s'.sl)=xs.map (Jk.val s.sl):=by
 apply List.map_congr_left;intro x hx
 cases x with
 |t n=>exact h n (lb.2 ⟨_,hx,by simp[Jk.slot]⟩)
 |k v=>rfl
def m5(I:Fu)(s:BG):List Nat:=TM s.V I.dst I.op (I.xs.map (Jk.val s.sl))
variable {E:CW}
theorem XQ{I:Fu}{s:BG}{K:AV->Bs->Prop}(h:Ey E I s K) :
  ∃v ch,K v ch/\(∀o,o∈ch.site->o∈m5 I s)/\∀s' K',(∀t,t∈I.reads->s'.sl t=s.sl t)->DK (EA I s) s.V s'.V->K' v ch->Ey E I s' K':=by
 have i:∀s':BG,(∀t,t∈I.reads->s'.sl t=s.sl t)->I.xs.map (Jk.val s'.sl)=I.xs.map (Jk.val s.sl):=fun s' hs=>d8 fun t ht=>hs t (by simp[Fu.reads];exact .inl (by simpa using ht))
 unfold Ey at h;split at h
 ·rename_i hg;obtain⟨v,ch,h1,h2,m⟩:=qj h;refine⟨v,ch,h1,h2,fun s' K' hs l hk=>?_⟩;unfold Ey;simp only[hg];rw[i s' hs];exact m s'.V K' l hk
 ·rename_i t b hg;have ht:∀s':BG,(∀t,t∈I.reads->s'.sl t=s.sl t)->s'.sl t=s.sl t:=fun s' hs=>hs t (by simp[Fu.reads,hg])
  split at h
  ·rename_i b' hb
   by_cases j:(b == b')=true
   ·rw[j]at h;simp only[QK]at h;obtain⟨v,ch,h1,h2,m⟩:=qj h;refine⟨v,ch,h1,h2,fun s' K' hs l hk=>?_⟩;unfold Ey;simp only[hg];rw[ht s' hs,hb];simp only[j,QK];rw[i s' hs];exact m s'.V K' l hk
   ·have e:(b == b')=false:=by simpa using j
    rw[e]at h;simp only[Nw]at h;refine⟨_,_,h,by simp[Bs.site],fun s' K' hs l hk=>?_⟩;unfold Ey;simp only[hg];rw[ht s' hs,hb];simp only[e,Nw];exact hk
  ·rename_i hb;refine⟨_,_,h,by simp[Bs.site],fun s' K' hs l hk=>?_⟩;unfold Ey;simp only[hg];rw[ht s' hs,hb];exact hk
  ·exact h.elim
def g_(R F:List Nat)(s s':BG):Prop:=(∀t,t∈R->s'.sl t=s.sl t)/\DK F s.V s'.V
theorem g_.refl(R F:List Nat)(s:BG):g_ R F s s:=⟨fun _ _=>rfl,fun _ _=>⟨rfl,rfl⟩⟩
theorem DK.app{F:List Nat}:∀{ch:Bs}{V V':AO},DK F V V'->DK F (V.app ch) (V'.app ch)
 |.none,_,_,h=>h
 |.keep o' g x,V,V',h=>fun o ho=>by
  obtain⟨h1,h2⟩:=h o ho;refine⟨?_,h2⟩;simp only[AO.app,CB];split
  ·rfl
  ·exact h1
 |.fresh o' x,V,V',h=>fun o ho=>by
  obtain⟨h1,h2⟩:=h o ho;refine⟨?_,?_⟩
  ·simp only[AO.app,CB];split
   ·rename_i e;subst e;rw[h2]
   ·exact h1
  ·simp only[AO.app,CB];split
   ·rename_i e;subst e;rw[h2]
   ·exact h2
 |.seq a b,V,V',h=>DK.app (ch:=b) (DK.app (ch:=a) h)
theorem g_.both{R F:List Nat}{s s':BG}(h:g_ R F s s')(dst:Option Nat)(v:AV)(ch:Bs):g_ R F (put s dst v ch) (put s' dst v ch):=by
 refine⟨fun t ht=>?_,h.2.app⟩
 cases dst with
 |none=>exact h.1 t ht
 |some d =>
  simp only[put,CB];split
  ·rfl
  ·exact h.1 t ht
theorem Oo:∀{ch:Bs}{V:AO}{o:Nat},o∉ch.site->(V.app ch).ob o=V.ob o/\(V.app ch).cn o=V.cn o
 |.none,_,_,_=>⟨rfl,rfl⟩
 |.keep o' g x,V,o,h=>by
  have:o≠o':=fun e=>h (by simp[Bs.site,e])
  simp[AO.app,CB,this]
 |.fresh o' x,V,o,h=>by
  have:o≠o':=fun e=>h (by simp[Bs.site,e])
  simp[AO.app,CB,this]
 |.seq a b,V,o,h=>by
  simp only[Bs.site,ax,not_or]at h;obtain⟨h1,h2⟩:=Oo (ch:=b) (V:=V.app a) h.2;obtain⟨j,i⟩:=Oo (ch:=a) (V:=V) h.1;exact⟨h1.trans j,h2.trans i⟩
theorem g_.left{R F:List Nat}{s s':BG}(h:g_ R F s s'){dst:Option Nat}{v:AV}{ch:Bs}(hd:∀t,dst=some t->t∉R)(hc:∀o,o∈ch.site->o∉F):g_ R F (put s dst v ch) s':=by
 refine⟨fun t ht=>?_,fun o ho=>?_⟩
 ·cases dst with
  |none=>exact h.1 t ht
  |some d =>
   have:t≠d:=fun e=>hd d rfl (e▸ht)
   simp only[put,CB,this,if_false];exact h.1 t ht
 ·obtain⟨h1,h2⟩:=Oo (V:=s.V) (ch:=ch) (o:=o) fun e=>hc o e ho
  show s'.V.ob o=(s.V.app ch).ob o/\s'.V.cn o=(s.V.app ch).cn o;rw[h1,h2];exact h.2 o ho
theorem g_.right{R F:List Nat}{s s':BG}(h:g_ R F s s'){dst:Option Nat}{v:AV}{ch:Bs}(hd:∀t,dst=some t->t∉R)(hc:∀o,o∈ch.site->o∉F):g_ R F s (put s' dst v ch):=by
 refine⟨fun t ht=>?_,fun o ho=>?_⟩
 ·cases dst with
  |none=>exact h.1 t ht
  |some d =>
   have:t≠d:=fun e=>hd d rfl (e▸ht)
   simp only[put,CB,this,if_false];exact h.1 t ht
 ·obtain⟨h1,h2⟩:=Oo (V:=s'.V) (ch:=ch) (o:=o) fun e=>hc o e ho
  show(s'.V.app ch).ob o=s.V.ob o/\(s'.V.app ch).cn o=s.V.cn o;rw[h1,h2];exact h.2 o ho
theorem LI{b:Bs}{a:Bs}(l:∀x y,a≠.seq x y):∀{b:Bs}{V:AO},(∀o,o∈a.site->o∉b.site)->(V.app a).app b=(V.app b).app a
 |.seq b1 b2,V,h=>by
  have h1:∀o,o∈a.site->o∉b1.site:=fun o ho hb=>h o ho (by simp[Bs.site,hb])
  have h2:∀o,o∈a.site->o∉b2.site:=fun o ho hb=>h o ho (by simp[Bs.site,hb])
  show((V.app a).app b1).app b2=((V.app b1).app b2).app a;rw[LI (b:=b) l h1,LI (b:=b) l h2]
 |.none,V,h=>rfl
 |.keep o' g' x',V,h=>by
  cases a with
  |seq x y=>exact absurd rfl (l x y)
  |none=>rfl
  |keep o g x =>
   have hne:o'≠o:=fun e=>h o (by simp[Bs.site]) (by simp[Bs.site,e])
   simp only[AO.app];congr 1;funext i;simp only[CB];split<;>split<;>simp_all
  |fresh o x =>
   have hne:o'≠o:=fun e=>h o (by simp[Bs.site]) (by simp[Bs.site,e])
   simp only[AO.app];congr 1;funext i;simp only[CB];split<;>split<;>simp_all
 |.fresh o' x',V,h=>by
  cases a with
  |seq x y=>exact absurd rfl (l x y)
  |none=>rfl
  |keep o g x =>
   have hne:o'≠o:=fun e=>h o (by simp[Bs.site]) (by simp[Bs.site,e])
   simp only[AO.app];congr 1;funext i;simp only[CB];split<;>split<;>simp_all
  |fresh o x =>
   have hne:o'≠o:=fun e=>h o (by simp[Bs.site]) (by simp[Bs.site,e])
   have j:o≠o':=fun e=>hne e.symm
   simp only[AO.app];congr 1
   ·funext i;simp only[CB,hne,j,if_false];split<;>split<;>simp_all
   ·funext i;simp only[CB,hne,j,if_false];split<;>split<;>simp_all
theorem WM{b:Bs}:∀{a:Bs}{V:AO},(∀o,o∈a.site->o∉b.site)->(V.app a).app b=(V.app b).app a
 |.seq a1 a2,V,h=>by
  have h1:∀o,o∈a1.site->o∉b.site:=fun o ho=>h o (by simp[Bs.site,ho])
  have h2:∀o,o∈a2.site->o∉b.site:=fun o ho=>h o (by simp[Bs.site,ho])
  show((V.app a1).app a2).app b=((V.app b).app a1).app a2;rw[WM (a:=a2) h2,WM (a:=a1) h1]
 |.none,V,h=>LI (b:=b) (fun _ _=>by simp) h
 |.keep _ _ _,V,h=>LI (b:=b) (fun _ _=>by simp) h
 |.fresh _ _,V,h=>LI (b:=b) (fun _ _=>by simp) h
theorem oe{s:BG}{d j:Option Nat}{v l:AV}{a b:Bs}(hd:∀t,d=some t->j≠some t)(h:∀o,o∈a.site->o∉b.site) :
  put (put s d v a) j l b=put (put s j l b) d v a:=by
 unfold put;congr 1
 ·cases d<;>cases j<;>try rfl
  rename_i t m;have hne:m≠t:=fun e=>hd t rfl (by rw[e])
  funext i;simp only[CB];split<;>split<;>simp_all
 ·exact WM h
def after(I:Nat->Fu)(v:Nat->AV)(ch:Nat->Bs)(s0:BG)(L:Nat->Bool):Nat->BG
 |0=>s0
 |k+1=>if L k then put (after I v ch s0 L k) (I k).dst (v k) (ch k)else after I v ch s0 L k
section
variable {I:Nat->Fu}{v:Nat->AV}{ch:Nat->Bs}{s0:BG}{F:Nat->List Nat}
structure Z2 (I:Nat->Fu) (ch:Nat->Bs) (F:Nat->List Nat) (i k:Nat):Prop where
 d1:∀t,(I i).dst=some t->t∉(I k).reads
 d2:∀t,(I k).dst=some t->t∉(I i).reads
 d3:∀t,(I i).dst=some t->(I k).dst≠some t
 s1:∀o,o∈(ch i).site->o∉F k
 s2:∀o,o∈(ch k).site->o∉F i
theorem Z2.symm{i k:Nat}(h:Z2 I ch F i k):Z2 I ch F k i:=⟨h.d2,h.d1,fun t ht hi=>h.d3 t hi ht,h.s2,h.s1⟩
theorem dm{L:Nat->Bool}{k n:Nat}(hk:k<=n)(o:L k=false)(h1:∀i,i<k->L i=false->Z2 I ch F i k)(h2:∀i,k<i->i<n->L i=true->Z2 I ch F i k) :
  g_ (I k).reads (F k) (after I v ch s0 (fun _=>true) k) (after I v ch s0 L n):=by
 have a:∀m,m<=k->g_ (I k).reads (F k) (after I v ch s0 (fun _=>true) m) (after I v ch s0 L m):=by
  intro m
  induction m with
  |zero=>intro _;exact g_.refl _ _ _
  |succ m ih =>
   intro hm;have:=ih (by omega);simp only[after,if_true]
   cases hLm:L m with
   |true=>simp only[if_true];exact this.both _ _ _
   |false =>
    simp only[aa,if_false];have h:=h1 m (by omega) hLm;exact this.left h.d1 h.s1
 have b:∀m,k<=m->m<=n->g_ (I k).reads (F k) (after I v ch s0 (fun _=>true) k) (after I v ch s0 L m):=by
  intro m hm
  induction m with
  |zero =>
      intro _;have:k=0:=by omega
      subst this;exact a 0 (cw _)
  |succ m ih =>
   intro l
   by_cases j:k=m+1
   ·subst j;exact a _ (cw _)
   ·have:=ih (by omega) (by omega);simp only[after]
    cases hLm:L m with
    |false=>simp only[aa,if_false];exact this
    |true =>
     simp only[if_true];have hne:m≠k:=fun e=>by rw[e,o]at hLm;cases hLm
     have h:=h2 m (by omega) (by omega) hLm;exact this.right h.d1 h.s1
 exact b n hk (cw _)
theorem Zr{L L':Nat->Bool}{k n:Nat}(hk:k<n)(q:L k=false)(e:∀i,L' i=if i=k then true else L i)(h2:∀i,k<i->i<n->L i=true->Z2 I ch F i k)(r:∀i o,i<n->o∈(ch i).site->o∈F i) :
  after I v ch s0 L' n=put (after I v ch s0 L n) (I k).dst (v k) (ch k):=by
 have a:∀m,m<=k->after I v ch s0 L' m=after I v ch s0 L m:=by
  intro m
  induction m with
  |zero=>intro _;rfl
  |succ m ih =>
   intro hm;simp only[after,ih (by omega),e m,show ¬m=k by omega,if_false]
 have b:∀m,k<m->m<=n->after I v ch s0 L' m=put (after I v ch s0 L m) (I k).dst (v k) (ch k):=by
  intro m hm
  induction m with
  |zero=>omega
  |succ m ih =>
   intro p
   by_cases j:m=k
   ·subst j;simp only[after,a m (cw _),e m,if_true,q,aa,if_false]
   ·simp only[after,ih (by omega) (by omega),e m,j,if_false]
    cases hLm:L m with
    |false=>simp only[aa,if_false]
    |true =>
     simp only[if_true];have l:=h2 m (by omega) (by omega) hLm;exact oe (fun t ht h=>l.d3 t h ht) fun o ho h=>l.s1 o h (r k o hk ho)
 exact b n hk (cw _)
theorem dl{L L':Nat->Bool}{n:Nat}(h:∀i,i<n->L i=L' i):∀m,m<=n->after I v ch s0 L m=after I v ch s0 L' m:=by
 intro m
 induction m with
 |zero=>intro _;rfl
 |succ m ih=>intro hm;simp only[after,ih (by omega),h m (by omega)]
end
end Go.Pw
end
section
namespace Go.Pw
def XR:List (Fu×List Nat)->List (AV×Bs)->BG->Nat->BG
 |(I,_)::l,r::tr,s,k+1=>XR l tr (put s I.dst r.1 r.2) k
 |_,_,s,_=>s
def kH:List (Fu×List Nat)->List (AV×Bs)->BG->List Wh
 |(I,_)::l,r::tr,s=>(r.2.site,EA I s)::kH l tr (put s I.dst r.1 r.2)
 |_,_,_=>[]
variable {E:CW}
theorem bV:∀{l:List (Fu×List Nat)}{e:List (AV×Bs)}{s:BG}{k:Nat}{I:Fu}{i:List Nat}{r:AV×Bs},l[k]?=some (I,i)->e[k]?=some r ->
  (kH l e s)[k]?=some (r.2.site,EA I (XR l e s k))
 |[],_,_,_,_,_,_,h,_=>by simp at h
 |_::_,[],_,_,_,_,_,_,h=>by simp at h
 |(J,dj)::l,q::e,s,0,I,i,r,h1,h2=>by
  simp at h1 h2;obtain⟨rfl,rfl⟩:=h1;subst h2;simp[kH,XR]
 |(J,dj)::l,q::e,s,k+1,I,i,r,h1,h2=>by
  simp at h1 h2;simp only[kH,XR,List.getElem?_cons_succ];exact bV h1 h2
theorem ak:∀{l:List (Fu×List Nat)}{e:List (AV×Bs)}{s:BG}{k:Nat}{I:Fu}{i:List Nat}{r:AV×Bs},l[k]?=some (I,i)->e[k]?=some r ->
  XR l e s (k+1)=put (XR l e s k) I.dst r.1 r.2
 |[],_,_,_,_,_,_,h,_=>by simp at h
 |_::_,[],_,_,_,_,_,_,h=>by simp at h
 |(J,dj)::l,q::e,s,0,I,i,r,h1,h2=>by
  simp at h1 h2;obtain⟨rfl,rfl⟩:=h1;subst h2;simp only[XR]
 |(J,dj)::l,q::e,s,k+1,I,i,r,h1,h2=>by
  simp at h1 h2;simp only[XR];exact ak h1 h2
theorem xD:∀{l:List (Fu×List Nat)}{rec:List Wh}{s:BG}{K:BG->Prop},Wm E l rec s K->∃e:List (AV×Bs),e.length=l.length/\K (XR l e s l.length) /\
  ∀(k:Nat) (I:Fu) (m:List Nat) (r:AV×Bs),l[k]?=some (I,m)->e[k]?=some r ->
   (∀o,o∈r.2.site->o∈m5 I (XR l e s k)) /\
   (∀s' K',(∀t,t∈I.reads->s'.sl t=(XR l e s k).sl t)->DK (EA I (XR l e s k)) (XR l e s k).V s'.V->K' r.1 r.2->Ey E I s' K') /\
   (∀j,j∈m->∃q,(rec++kH l e s)[j]?=some q/\N4 q (r.2.site,EA I (XR l e s k))=true)
 |[],rec,s,K,h=>⟨[],rfl,h,fun k I m r hk=>by simp at hk⟩
 |(I,m)::l,rec,s,K,h=>by
  simp only[Wm]at h;obtain⟨v,ch,⟨p,y⟩,z,i⟩:=XQ h;obtain⟨e,h1,h2,M⟩:=xD y;refine⟨(v,ch)::e,by simp[h1],by simpa[XR]using h2,fun k J G r hk hr=>?_⟩
  cases k with
  |zero =>
   simp at hk hr;obtain⟨rfl,rfl⟩:=hk;subst hr;simp only[XR];refine⟨z,i,fun j u=>?_⟩;have:=cp.1 p j u;split at this
   ·rename_i q n;refine⟨q,?_,this⟩;rw[List.getElem?_append_left (List.getElem?_eq_some_iff.1 n).1];exact n
   ·cases this
  |succ k =>
   simp at hk hr;obtain⟨L,A,B⟩:=M k J G r hk hr;simp only[XR];refine⟨L,A,fun j u=>?_⟩;obtain⟨q,n,x⟩:=B j u;refine⟨q,?_,x⟩;simpa[kH,kk]using n
def Zm(J I:Fu):Bool :=
 (match J.dst with|some t=>!I.reads.contains t && I.dst != some t|none=>true) && (match I.dst with|some t=>!J.reads.contains t|none=>true)
def aV:zr->zr->Bool
 |.none,_=>true
 |_,.none=>true
 |.read,.read=>true
 |_,_=>false
def okD(ops:List Oper)(pre:List (List Nat))(dis:List (Fu×List Nat)):Bool :=
 (ay ops.length).all fun k =>
  match ops[k]?,dis[k]?,pre[k]? with
  |some o,some (I,dy),some p =>
   (o.after.toList.all fun e=>!Region.binds .any e || decide (e.on<k)) &&
   (p.all fun j=>o.after.toList.any fun e=>Region.binds .any e && (e.on == j || (match pre[e.on]? with|some q=>q.contains j|none=>false))) &&
   ((ay k).all fun j=>p.contains j || (match dis[j]? with|some (J,_)=>Zm J I && (dy.contains j || aV J.op.foot I.op.foot)|none=>false))
  |_,_,_=>false
theorem VW{ops:List Oper}{pre:List (List Nat)}{i:List (Fu×List Nat)}(h:okD ops pre i=true){k:Nat}(hk:k<ops.length):∃o I l p,ops[k]?=some o/\i[k]?=some (I,l)/\pre[k]?=some p /\
  (∀e,e∈o.after.toList->Region.binds .any e=true->e.on<k)/\(∀j,j∈p->∃e,e∈o.after.toList/\Region.binds .any e=true/\(e.on=j\/∃q,pre[e.on]?=some q/\j∈q)) /\
  (∀j,j<k->j∉p->∃J u,i[j]?=some (J,u)/\Zm J I=true/\(j∈l\/aV J.op.foot I.op.foot=true)):=by
 have:=cp.1 h k (by simpa using hk);split at this
 ·rename_i o I l p h1 h2 A;simp only[az]at this;obtain⟨⟨a,b⟩,c⟩:=this;refine⟨o,I,l,p,h1,h2,A,fun e x hb=>?_,fun j m=>?_,fun j m t=>?_⟩
  ·have:=cp.1 a e x;simpa[hb]using this
  ·have:=cp.1 b j m;obtain⟨e,x,n⟩:=List.any_eq_true.1 this;simp only[az,eb,beq_iff_eq]at n;refine⟨e,x,n.1,n.2.imp id fun r=>?_⟩;split at r
   ·rename_i q z;exact⟨q,z,by simpa using r⟩
   ·cases r
  ·have:=cp.1 c j (by simpa using m);have y:p.contains j=false:=by simpa using t
   rw[y,Bool.false_or]at this;split at this
   ·rename_i J u B;simp only[az,eb]at this;exact⟨J,u,B,this.1,this.2.imp (by simp) id⟩
   ·cases this
 ·cases this
theorem dh{J I:Fu}(h:Zm J I=true):(∀t,J.dst=some t->t∉I.reads)/\(∀t,I.dst=some t->t∉J.reads)/\(∀t,J.dst=some t->I.dst≠some t):=by
 unfold Zm at h;simp only[az]at h;refine⟨fun t ht=>?_,fun t ht=>?_,fun t ht=>?_⟩
 ·rw[ht]at h;simp at h;exact h.1.1
 ·rw[ht]at h;simp at h;exact h.2
 ·rw[ht]at h;simp at h;exact h.1.2
theorem je{J I:Fu}{s s':BG}{a b:Bs}(h:aV J.op.foot I.op.foot=true)(e:∀o,o∈a.site->o∈m5 J s)(hb:∀o,o∈b.site->o∈m5 I s') :
  (∀o,o∈a.site->o∉EA I s')/\∀o,o∈b.site->o∉EA J s:=by
 unfold m5 TM at e hb;unfold EA fp
 cases hJ:J.op.foot<;>cases hI:I.op.foot<;>simp_all[aV]
section
variable {c:EG}{β:Nat->Nat->Value}{s:BG}{a:Act}{w:World}{K:BG->Prop}
theorem H7{e:Array Bool}{i:Nat}(hi:i<e.size)(k:Nat)(d:Bool):(e.setIfInBounds i true).getD k d=if k=i then true else e.getD k d:=by
 by_cases h:k=i
 ·subst h;simp[ck,hi]
 ·simp[ck,Array.getElem?_setIfInBounds_ne (Ne.symm h),h]
theorem dP{p q:Nat->Bool}{i:Nat}:∀{l:List Nat},l.Nodup->i∈l->p i=true->(∀k,q k=if k=i then false else p k)->(l.filter q).length+1=(l.filter p).length
 |[],_,h,_,_=>by cases h
 |x::l,hn,hi,hp,hq=>by
  rw[List.nodup_cons]at hn
  by_cases hx:x=i
  ·subst hx;have m:q x=false:=by rw[hq];simp
   have j:l.filter q=l.filter p:=List.filter_congr fun y o=>by
    rw[hq];have:y≠x:=fun e=>hn.1 (e▸o)
    simp[this]
   simp[na,m,hp,j]
  ·have n:i∈l:=by
    cases hi with
    |head=>exact absurd rfl hx
    |tail _ h=>exact h
   have ih:=dP hn.2 n hp hq;have m:q x=p x:=by rw[hq];simp[hx]
   cases hpx:p x<;>simp[na,m,hpx]<;>omega
theorem mA{e:Array Bool}{n i j:Nat}(hi:i<e.size)(m:i<n)(h:e.getD i false=false)(hc:((ay n).filter fun k=>!e.getD k false).length=j+1) :
  ((ay n).filter fun k=>!(e.setIfInBounds i true).getD k false).length=j:=by
 have:=dP (p:=fun k=>!e.getD k false) (q:=fun k=>!(e.setIfInBounds i true).getD k false) (i:=i) (l:=ay n) List.nodup_range (by simpa using m) (by simp[h]) (fun k=>by
  rw[H7 hi];split<;>simp)
 omega
theorem gT(r:Option Nat)(m:Nat){fl:List Nat}{ns:Nat}{ops:List Oper}{l:List (Fu×List Nat)}{pre:List (List Nat)}{Q:Exit->Act->World->Prop}(τ:∀(k:Nat) (o:Oper) (I:Fu) (dy:List Nat),ops[k]?=some o->l[k]?=some (I,dy)->Nv E true fl ns ops o=some I)(χ:l.length=ops.length)(hok:okD ops pre l=true)
  (h:BZ E c β s a.tmps w) (hn:a.tmps.size=ns) (hs:Wm E l [] s K) (hQ:∀s' β' tm' w',K s'->BZ E c β' s' tm' w'->tm'.size=ns->Q .normal ⟨tm',a.defers⟩ w') :
  wpAnyIn (rF r) m E.P .any ops.toArray Q ops.length (ea ops.length false) a w:=by
 obtain⟨A,htl,hK,Y⟩:=xD hs
 let I:Nat->Fu:=fun k=>(l.getD k default).1
 let v:Nat->AV:=fun k=>(A.getD k (.undef,.none)).1
 let ch:Nat->Bs:=fun k=>(A.getD k (.undef,.none)).2
 let F:Nat->List Nat:=fun k=>EA (I k) (XR l A s k)
 have O:∀{k J dy},l[k]?=some (J,dy)->I k=J:=fun {k J dy} h=>by simp[I,ne,h]
 have hr:∀{k q},A[k]?=some q->v k=q.1/\ch k=q.2:=fun {k q} h=>by simp[v,ch,ne,h]
 have hst:∀k,k<=ops.length->after I v ch s (fun _=>true) k=XR l A s k:=by
  intro k
  induction k with
  |zero=>intro _;cases l<;>cases A<;>rfl
  |succ k ih =>
   intro hk;have h1:l[k]?=some l[k]:=c8 (by omega);have h2:A[k]?=some A[k]:=c8 (by omega);simp only[after,if_true,ih (by omega)];rw[ak h1 h2,O h1,(hr h2).1,(hr h2).2]
 have ζ:∀i o,i<ops.length->o∈(ch i).site->o∈F i:=by
  intro i o hi ho;have h1:l[i]?=some l[i]:=c8 (by omega);have h2:A[i]?=some A[i]:=c8 (by omega);rw[(hr h2).2]at ho;have:=(Y i _ _ _ h1 h2).1 o ho;show o∈EA (I i) _;rw[O h1];exact xg this
 have U:∀j k p,j<k->k<ops.length->pre[k]?=some p->j∉p->Z2 I ch F j k:=by
  intro j k p hjk hk hp θ;obtain⟨o,Ik,dy,p',h1,h2,h3,h4,h5,h6⟩:=VW hok hk;rw[hp]at h3;simp at h3;subst h3;obtain⟨J,dj,h7,h8,h9⟩:=h6 j hjk θ;have g1:A[k]?=some A[k]:=c8 (by omega);have g2:A[j]?=some A[j]:=c8 (by omega);obtain⟨d1,d2,d3⟩:=dh h8
  have key:(∀o,o∈(ch j).site->o∉F k)/\∀o,o∈(ch k).site->o∉F j:=by
   show(∀o,o∈(ch j).site->o∉EA (I k) _)/\∀o,o∈(ch k).site->o∉EA (I j) _;rw[O h2,O h7,(hr g1).2,(hr g2).2];rcases h9 with h9|h9
   ·obtain⟨q,hq,μ⟩:=(Y k _ _ _ h2 g1).2.2 j h9;rw[i5,bV h7 g2]at hq;simp at hq;subst hq;simp only[N4,az]at μ;refine⟨fun o ho=>?_,fun o ho=>?_⟩
    ·have:=cp.1 μ.1 o ho;simpa using this
    ·have:=cp.1 μ.2 o ho;simpa using this
   ·exact je h9 (Y j _ _ _ h7 g2).1 (Y k _ _ _ h2 g1).1
  exact⟨by rw[O h2,O h7];exact d1,by rw[O h2,O h7];exact d2,by rw[O h2,O h7];exact d3,key.1,key.2⟩
 have hclosed:∀(L:Nat->Bool),(∀k o,ops[k]?=some o->L k=true->∀e,e∈o.after.toList->Region.binds .any e=true->L e.on=true)->∀k,k<ops.length->∀p,pre[k]?=some p ->
   (∀o,ops[k]?=some o->∀e,e∈o.after.toList->Region.binds .any e=true->L e.on=true)->∀j,j∈p->L j=true:=by
  intro L hL k
  induction k using no with
  |_ k ih =>
   intro hk p hp N j S;obtain⟨o,Ik,dy,p',h1,h2,h3,h4,h5,h6⟩:=VW hok hk;rw[hp]at h3;simp at h3;subst h3;obtain⟨e,R,hb,h7⟩:=h5 j S;have x:=h4 e R hb;have σ:=N o h1 e R hb;rcases h7 with h7|⟨q,hq,hjq⟩
   ·rw[←h7];exact σ
   ·refine ih e.on x (by omega) q hq (fun o' u e' he' hb'=>hL e.on o' u σ e' he' hb') j hjq
 have main:∀(B:Nat) (listed:Array Bool) (tm:Array Value) (β:Nat->Nat->Value) (w:World),listed.size=ops.length->((ay ops.length).filter fun k=>!listed.getD k false).length=B ->
   (∀k o,ops[k]?=some o->listed.getD k false=true->∀e,e∈o.after.toList->Region.binds .any e=true->listed.getD e.on false=true) ->
   BZ E c β (after I v ch s (fun k=>listed.getD k false) ops.length) tm w->tm.size=ns->wpAnyIn (rF r) m E.P .any ops.toArray Q B listed ⟨tm,a.defers⟩ w:=by
  intro B
  induction B with
  |zero =>
   intro listed tm β w ν hcount T α δ
   have y:∀k,k<ops.length->listed.getD k false=true:=by
    intro k hk;have X:=List.eq_nil_of_length_eq_zero hcount;have:k∉(ay ops.length).filter fun k=>!listed.getD k false:=by rw[X];simp
    simpa[hk]using this
   refine⟨?_,?_⟩
   ·cases hre:Region.ready .any ops.toArray listed with
    |nil=>rfl
    |cons i rest =>
     have hi:i∈Region.ready .any ops.toArray listed:=by rw[hre];simp
     simp only[Region.ready,i7,j0,j4,az]at hi;have:=y i hi.1;have κ:=hi.2.1;have x:i<listed.size:=by omega
     simp[ck,x]at this κ;rw[this]at κ;cases κ
   ·refine hQ _ β tm w ?_ α δ;have:=dl (I:=I) (v:=v) (ch:=ch) (s0:=s) (L:=fun k=>listed.getD k false) (L':=fun _=>true) (n:=ops.length) y ops.length (cw _);rw[this,hst _ (cw _),←χ];exact hK
  |succ B ih =>
   intro listed tm β w ν hcount T α δ;refine⟨fun X=>?_,fun i hi=>?_⟩
   ·
    exfalso
    have hex:∃k,k<ops.length/\listed.getD k false=false:=by
     cases hf:(ay ops.length).filter fun k=>!listed.getD k false with
     |nil=>rw[hf]at hcount;cases hcount
     |cons k rest =>
      have:k∈(ay ops.length).filter fun k=>!listed.getD k false:=by rw[hf];simp
      exact⟨k,by simpa using this⟩
    have ψ:∃k,k<ops.length/\listed.getD k false=false/\∀j,j<k->listed.getD j false=true:=by
     obtain⟨k,hk⟩:=hex
     induction k using no with
     |_ k ihk =>
      by_cases y:∀j,j<k->listed.getD j false=true
      ·exact⟨k,hk.1,hk.2,y⟩
      ·simp only[Classical.not_forall]at y;obtain⟨j,S,z⟩:=y;exact ihk j S ⟨by omega,by simpa using z⟩
    obtain⟨k,hk,hkl,hbelow⟩:=ψ;obtain⟨o,Ik,dy,p,h1,h2,h3,h4,h5,h6⟩:=VW hok hk
    have:k∈Region.ready .any ops.toArray listed:=by
     simp only[Region.ready,i7,j0,j4,az];refine⟨hk,?_,?_⟩
     ·have x:k<listed.size:=by omega
      simp[ck,x]at hkl ⊢;exact hkl
     ·simp only[et,h1,Option.map_some,Option.getD_some,ox,eb,oy];intro e R
      by_cases hb:Region.binds .any e=true
      ·exact .inr (hbelow _ (h4 e (by simpa using R) hb))
      ·exact .inl (by simpa using hb)
    rw[X]at this;cases this
   ·simp only[Region.ready,i7,j0,j4,az]at hi;obtain⟨Z,φ,ρ⟩:=hi;have x:i<listed.size:=by omega
    have M:listed.getD i false=false:=by
     simp[ck,x]at φ ⊢;exact φ
    obtain⟨o,Ii,dy,p,h1,h2,h3,h4,h5,h6⟩:=VW hok Z;simp only[et,h1,Option.map_some,Option.getD_some,ox,eb,oy]at ρ
    have N:∀e,e∈o.after.toList->Region.binds .any e=true->listed.getD e.on false=true:=fun e R hb=>by
     rcases ρ e (by simpa using R)with h|h
     ·rw[hb]at h;cases h
     ·exact h
    have g2:A[i]?=some A[i]:=c8 (by omega)
    have ξ:∀j,j<i->listed.getD j false=false->Z2 I ch F j i:=fun j S z=>by
     refine U j i p S Z h3 fun θ=>?_
     have:=hclosed (fun k=>listed.getD k false) T i Z p h3 (fun o' u e R hb=>by rw[h1]at u;simp at u;subst u;exact N e R hb) j θ;rw[z]at this;cases this
    have γ:∀j,i<j->j<ops.length->listed.getD j false=true->Z2 I ch F i j:=fun j S G z=>by
     obtain⟨oj,Ij,dyj,pj,k1,k2,k3,k4,k5,k6⟩:=VW hok G;refine U i j pj S G k3 fun hip=>?_
     have:=hclosed (fun k=>listed.getD k false) T j G pj k3 (fun o' u e R hb=>T j o' u z e R hb) i hip;rw[M]at this;cases this
    have η:=dm (I:=I) (v:=v) (ch:=ch) (s0:=s) (F:=F) (L:=fun k=>listed.getD k false) (k:=i) (n:=ops.length) (by omega) M ξ fun j S G z=>(γ j S G z).symm
    have υ:=Zr (I:=I) (v:=v) (ch:=ch) (s0:=s) (F:=F) (L:=fun k=>listed.getD k false) (L':=fun k=>(listed.setIfInBounds i true).getD k false) (k:=i) (n:=ops.length) Z M (fun k=>H7 x k false) (fun j S G z=>(γ j S G z).symm) ζ;rw[hst i (by omega)]at η
    have ε:Ey E Ii (after I v ch s (fun k=>listed.getD k false) ops.length) (fun v' ch'=>v'=v i/\ch'=ch i):=by
     refine(Y i _ _ _ h2 g2).2.1 _ _ (fun t ht=>?_) ?_ ⟨(hr g2).1.symm,(hr g2).2.symm⟩
     ·have:=η.1 t (by rw[O h2];exact ht);exact this
     ·have:=η.2;show DK (EA Ii _) _ _;have hF:F i=EA Ii (XR l A s i):=by show EA (I i) _=_;rw[O h2]
      rw[←hF];exact this
    unfold wpOpIn;simp only[et,h1];refine Po r m (a:=⟨tm,a.defers⟩) α (τ i o Ii dy h1 h2) δ ε fun v' ch' β' tm' w' hvc ι ω=>?_
    obtain⟨rfl,rfl⟩:=hvc;refine ih (listed.setIfInBounds i true) tm' β' w' (by simpa using ν) ?_ (fun k o' u hk e R hb=>?_) ?_ ω
    ·exact mA x Z M hcount
    ·rw[H7 x]at hk ⊢;split
     ·rfl
     ·split at hk
      ·rename_i hki;subst hki;rw[h1]at u;simp at u;subst u;exact N e R hb
      ·exact T k o' u hk e R hb
    ·rw[υ,O h2];exact ι
 have h0:after I v ch s (fun k=>(ea ops.length false).getD k false) ops.length=s:=by
  have hf:∀k,(ea ops.length false).getD k false=false:=fun k=>by
   simp only[ck,pv];split<;>rfl
  have:∀m,after I v ch s (fun k=>(ea ops.length false).getD k false) m=s:=by
   intro m
   induction m with
   |zero=>rfl
   |succ m ih =>
    simp only[after];rw[if_neg (by rw[hf];simp)];exact ih
  exact this _
 have hf:∀k,(ea ops.length false).getD k false=false:=fun k=>by
  simp only[ck,pv];split<;>rfl
 refine main ops.length _ a.tmps β w (by simp) ?_ (fun k o ho hk=>by rw[hf]at hk;cases hk) (by rw[h0];exact h) hn
 have:((ay ops.length).filter fun k=>!(ea ops.length false).getD k false)=ay ops.length:=by
  rw[List.filter_eq_self];intro k _;rw[hf];rfl
 rw[this];simp
end
end Go.Pw
end
