/- A part of the proof. -/
import Derived.Test.YtpcpcjbbdgmohaaGreatPkP
import Derived.TacticsIn
import Derived.OrdersIn
set_option linter.all false
section
namespace Go.Pw
open Go.RowKit
def put (s:A3) (dst:Option Nat) (v:AV) (ch:Bp):A3 :=
 ⟨match dst with|some t=>CN s.sl t v|none=>s.sl,s.V.app ch⟩
def D9 (E:CU) (I:D6) (s:A3) (K:AV->Bp->Prop):Prop :=
 match I.g with
 |none=>ev E I.dst s.V I.op (I.xs.map (Gh.val s.sl)) K
 |some (t,b)=>match s.sl t with
  |.d (.bool b')=>GZ (b == b') (ev E I.dst s.V I.op (I.xs.map (Gh.val s.sl)) K) (K (.tup []) .none)
  |.tup []=>K (.tup []) .none
  |_=>False
def rF (r:Option Nat):Fence:={ Fence.wide with round:=r }
theorem M6 (r:Option Nat):(rF r).round=r:=rfl
section
variable {E:CU}{c:DT}{β:Nat->Nat->Value}{s:A3}{a:Act}{w:World}{K:AV->Bp->Prop}
theorem Act.put_size (a:Act) (dst:Option Nat) (v:Value):(a.put dst v).tmps.size=a.tmps.size:=by
 cases dst<;>simp[Act.put]
theorem HY {tm:Array Value}{β':Nat->Nat->Value}{v:AV}{u:Value}{ch:Bp}{dst:Option Nat}{w':World}(hr:BP E c β' ⟨s.sl,s.V.app ch⟩ a.tmps w') (hv:AQ w' (c.bar β' (s.V.app ch)) β' (s.V.app ch).cn v u)
  (hd:∀t,dst=some t->t<a.tmps.size):BP E c β' (put s dst v ch) (a.put dst u).tmps w':=by
 cases dst with
 |none=>exact hr
 |some t=>exact hr.set (hd t rfl) hv
theorem bN {draw:Bool}{fl:List Nat}{n:Nat}{ops:List Oper}{o:Oper}{I:D6}(h:HH E draw fl n ops o=some I) :
  ∃sp draw' used' xs,O2 E sp draw' used' o.op=some (I.op,xs)/\PV E xs=some I.xs/\I.dst=o.dst/\(∀t,o.dst=some t->t<n) /\
   ((o.guard=none/\I.g=none)\/∃j b t,o.guard=some (j,b)/\(ops[j]?).bind (·.dst)=some t/\t<n/\I.g=some (t,b)):=by
 unfold HH at h
 split at h
 ·cases h
 ·rename_i op xs hop
  split at h
  ·cases h
  ·rename_i ys hys
   split at h
   ·rename_i g hdst hg
    simp at h;subst h
    refine⟨_,_,_,xs,hop,hys,rfl,fun t ht=>?_,?_⟩
    ·rw[ht] at hdst;simpa[jC] using hdst
    ·unfold bO at hg
     split at hg
     ·rename_i hgd;simp at hg;subst hg;exact .inl ⟨hgd,rfl⟩
     ·rename_i j b hgd
      split at hg
      ·rename_i t ht
       split at hg
       ·rename_i hlt;simp at hg;subst hg;exact .inr ⟨j,b,t,hgd,ht,hlt,rfl⟩
       ·cases hg
      ·cases hg
   ·cases h
theorem So {fb β' cn}:AQ w fb β' cn (.tup []) undef:=.tup [] #[] rfl (fun i c v hi=>by simp at hi)
theorem ZR (h:BP E c β s a.tmps w) {t e:TypeId}{es:Nat}(ht:E.P.underlying t=some (.slice e)) (hsz:Dx E.P e=some es) (hes:0<es) {x y:AV}{u v:Value}{dst:Option Nat}
  (hx:AQ w (c.bar β s.V) β s.V.cn x u) (hy:AQ w (c.bar β s.V) β s.V.cn y v) (he:ev E dst s.V (.sub es) [x,y] K):FI E c s a.tmps K ((Instr.sliceAt t u (some v) none none).run E.P w):=by
 unfold ev at he
 simp only at he
 split at he
 ·rename_i o g k i heq
  simp only[List.cons.injEq,and_true] at heq;obtain⟨rfl,rfl⟩:=heq
  split at he
  ·rename_i ety es' nl l hg
   obtain⟨hnl,rfl,hi0,hil,hK⟩:=he
   subst hnl
   have hob:=AO.get_some hg
   obtain⟨hlt,ho⟩:=h.objs _ _ _ hob
   obtain⟨rfl,_⟩:=BD hy
   obtain⟨q,hq⟩:∃q,β o g=q:=⟨_,rfl⟩
   have hux:u=q:=by cases hx with|own _ _ _ _=>exact hq
   rw[hq] at ho
   cases ho with|row _ _ _ _ _ ho =>
   rcases ho with⟨h1,_⟩|⟨_,b,off,cap,cur,h2,h3,h4,h5,h6,h7,h8,h10,h9⟩
   ·cases h1
   ·have hr:(Instr.sliceAt t u (some (.int k i)) none none).run E.P w=.ok (.slice (some (if cap=i.toNat then ⟨b,off,none⟩ else ⟨b,off+i.toNat * es,none⟩)) (l.length-i.toNat) (cap-i.toNat)) w:=by
     rw[hux,h2]
     have hle:i<=((l.length:Nat):Int):=hil
     have e1:i<=((l.length:Nat):Int)/\0<=i:=⟨hle,hi0⟩
     by_cases hc:cap=i.toNat
     ·simp[Instr.sliceAt,Instr.slice,run_underlying ht,Instr.sliceBounds,Instr.sliceBound,asIntOf,BU hsz,hi0,hle,hc]
     ·simp[Instr.sliceAt,Instr.slice,run_underlying ht,Instr.sliceBounds,Instr.sliceBound,asIntOf,BU hsz,hi0,hle,hc,Addr.add_lit]
    refine B1 h hK hr (.mref _ _ _ _ hlt ?_ rfl)
    rw[hq,h2]
    simp only[Dd]
    rw[if_pos (by omega)]
  ·exact he.elim
 ·exact he.elim
theorem ZS (h:BP E c β s a.tmps w) {t e:TypeId}{es:Nat}(ht:E.P.underlying t=some (.slice e)) (hsz:Dx E.P e=some es) {x y:AV}{u v:Value}{dst:Option Nat}
  (hx:AQ w (c.bar β s.V) β s.V.cn x u) (hy:AQ w (c.bar β s.V) β s.V.cn y v) (he:ev E dst s.V .pre [x,y] K):FI E c s a.tmps K ((Instr.sliceAt t u none (some v) none).run E.P w):=by
 unfold ev at he
 simp only at he
 split at he
 ·rename_i o g k i heq
  simp only[List.cons.injEq,and_true] at heq;obtain⟨rfl,rfl⟩:=heq
  split at he
  ·rename_i ety es' nl l hg
   obtain⟨hnl,hi0,hil,hK⟩:=he
   subst hnl
   have hob:=AO.get_some hg
   obtain⟨hlt,ho⟩:=h.objs _ _ _ hob
   obtain⟨rfl,_⟩:=BD hy
   obtain⟨q,hq⟩:∃q,β o g=q:=⟨_,rfl⟩
   have hux:u=q:=by cases hx with|own _ _ _ _=>exact hq
   rw[hq] at ho
   cases ho with|row _ _ _ _ _ ho =>
   rcases ho with⟨h1,_⟩|⟨_,b,off,cap,cur,h2,h3,h4,h5,h6,h7,h8,h10,h9⟩
   ·cases h1
   ·have hr:(Instr.sliceAt t u none (some (.int k i)) none).run E.P w=.ok (.slice (some ⟨b,off,none⟩) i.toNat cap) w:=by
     rw[hux,h2]
     have hle:i<=((cap:Nat):Int):=by omega
     by_cases hc:cap=0
     ·simp[Instr.sliceAt,Instr.slice,run_underlying ht,Instr.sliceBounds,Instr.sliceBound,asIntOf,BU hsz,hi0,hle,hc,Addr.add_lit]
      omega
     ·simp[Instr.sliceAt,Instr.slice,run_underlying ht,Instr.sliceBounds,Instr.sliceBound,asIntOf,BU hsz,hi0,hle,hc,Addr.add_lit]
    refine B1 h hK hr (.mref _ _ _ _ hlt ?_ rfl)
    rw[hq,h2]
    simp only[Dd]
    rw[if_pos (by omega)]
  ·exact he.elim
 ·exact he.elim
theorem Z1 (h:BP E c β s a.tmps w) {sp draw used:Bool}{o:Oper}{iop:BV}{ops:List Operand}{xs:List AV}(hd:O2 E sp draw used o.op=some (iop,ops))
  (hxs:C0 (AQ w (c.bar β s.V) β s.V.cn) xs (ops.map a.eval)) (he:ev E o.dst s.V iop xs K):Wr E c s a.tmps K ((execOp a.eval o).run E.P w):=by
 cases sp with
 |false=>exact dV h (by simpa[O2] using hd) hxs he
 |true =>
  simp only[O2,if_true] at hd
  obtain⟨dst,op,ty,pos,after,guard⟩:=o
  simp only at he hd
  unfold YP at hd
  split at hd<;>try (cases hd;done)
  ·rename_i t
   split at hd<;>try (cases hd;done)
   rename_i kt e hu
   cases hk:CX E.P kt with
   |none=>simp[hk] at hd
   |some tys =>
    simp[hk] at hd;obtain⟨rfl,rfl⟩:=hd
    have:xs=[]:=List.eq_nil_of_length_eq_zero (by have:=hxs.1;simpa using this.symm)
    subst this
    cases dst with
    |none=>simp[ev] at he
    |some t=>exact CR (T6 h he)
  ·rename_i t x lo
   split at hd<;>try (cases hd;done)
   rename_i e hu
   split at hd<;>try (cases hd;done)
   rename_i es hsz
   split at hd<;>try (cases hd;done)
   rename_i hes
   simp at hd;obtain⟨rfl,rfl⟩:=hd
   cases xs with
   |nil=>exact absurd hxs.1 (by simp)
   |cons ax ys =>
    cases ys with
    |nil=>exact absurd hxs.1 (by simp)
    |cons ay zs =>
     cases zs with
     |cons _ _=>exact absurd hxs.1 (by simp)
     |nil =>
      obtain⟨u,v,hu',h1,h2⟩:=Kr hxs
      simp at hu';obtain⟨rfl,rfl⟩:=hu'
      exact CR (ZR h hu hsz hes h1 h2 he)
  ·rename_i t x hi
   split at hd<;>try (cases hd;done)
   rename_i e hu
   split at hd<;>try (cases hd;done)
   rename_i es hsz
   simp at hd;obtain⟨rfl,rfl⟩:=hd
   cases xs with
   |nil=>exact absurd hxs.1 (by simp)
   |cons ax ys =>
    cases ys with
    |nil=>exact absurd hxs.1 (by simp)
    |cons ay zs =>
     cases zs with
     |cons _ _=>exact absurd hxs.1 (by simp)
     |nil =>
      obtain⟨u,v,hu',h1,h2⟩:=Kr hxs
      simp at hu';obtain⟨rfl,rfl⟩:=hu'
      exact CR (ZS h hu hsz h1 h2 he)
theorem Gs (r:Option Nat) (m:Nat) (h:BP E c β s a.tmps w) {draw:Bool}{fl:List Nat}{n:Nat}{ops:List Oper}{o:Oper}{I:D6}(hd:HH E draw fl n ops o=some I) (hn:a.tmps.size=n) (he:D9 E I s K) {Kc:Act->World->Prop}{Q:Exit->Act->World->Prop}
  (hK:∀v ch β' tm' w',K v ch->BP E c β' (put s I.dst v ch) tm' w'->tm'.size=n->Kc ⟨tm',a.defers⟩ w') :
  if Region.wanted o (yielded ops.toArray a.tmps) then o.wpIn (rF r) m E.P a w Kc Q else (∀f,o.about E.P w a.eval=some f->(rF r).fn f)/\Kc (a.put o.dst undef) w:=by
 obtain⟨sp,draw',used',xs,hop,hos,hdst,hlt,hg⟩:=bN hd
 have hput:∀u,a.put o.dst u=⟨(a.put o.dst u).tmps,a.defers⟩:=fun u=>by cases o.dst<;>rfl
 have hlt':∀t,o.dst=some t->t<a.tmps.size:=fun t ht=>by rw[hn];exact hlt t ht
 have hnd:∀cc,o.op≠.defer cc:=fun cc hcc=>by rw[hcc] at hop;cases sp<;>simp[O2,Y_,YP] at hop
 have run:ev E o.dst s.V I.op (I.xs.map (Gh.val s.sl)) K->o.wpIn (rF r) m E.P a w Kc Q:=by
  intro he
  refine⟨fun _ _=>trivial,?_⟩
  rw[M6,Oper.semAt_eq r a.eval o hnd]
  have hgot:=Z1 (o:=o) h hop (O1 h hos) he
  rcases hgot with⟨u,w',v,ch,β',hr,hk,hrel,hv⟩|⟨f,args,w',hr,hc⟩
  ·rcases hr with hr|⟨hr,rfl⟩
   ·rw[hr,Oper.uponIn_value,hput]
    exact hK v ch β' _ w' hk (by rw[hdst];exact HY (tm:=a.tmps) hrel hv hlt') (by rw[Act.put_size];exact hn)
   ·rw[hr,Oper.uponIn_skip,hput]
    exact hK .undef ch β' _ w' hk (by rw[hdst];exact HY (tm:=a.tmps) hrel (.undef _) hlt') (by rw[Act.put_size];exact hn)
  ·rw[hr,Oper.uponIn_enter]
   refine⟨fun h=>by simp[rF,Fence.wide] at h,?_⟩
   show CallsIn Fence.wide (m-1) E.P f args w' _
   refine callsIn_wide.2 (hc.mono fun e w'' ⟨u,v,ch,β',he,hk,hrel,hv⟩=>?_)
   subst he
   simp only
   rw[hput]
   exact hK v ch β' _ w'' hk (by rw[hdst];exact HY (tm:=a.tmps) hrel hv hlt') (by rw[Act.put_size];exact hn)
 have skip:K (.tup []) .none->Kc (a.put o.dst undef) w:=by
  intro hk
  rw[hput]
  exact hK _ .none β _ w hk (by rw[hdst];exact HY (tm:=a.tmps) (ch:=.none) h So hlt') (by rw[Act.put_size];exact hn)
 unfold D9 at he
 rcases hg with⟨hg,hI⟩|⟨j,b,t,hg,ht,htn,hI⟩
 ·rw[hI] at he
  simp only[hdst] at he
  have:Region.wanted o (yielded ops.toArray a.tmps)=true:=by simp[Region.wanted,hg]
  rw[if_pos this]
  exact run he
 ·rw[hI] at he
  simp only[hdst] at he
  have hs:=h.slots t
  have hget:a.tmps[t]?=some (a.tmps.getD t undef):=by
   have:t<a.tmps.size:=by rw[hn];exact htn
   simp[Array.getD_eq_getD_getElem?,this]
  have hy:yielded ops.toArray a.tmps j=match a.tmps.getD t undef with|.bool b=>some b|_=>none:=by
   unfold yielded
   simp only[List.getElem?_toArray,ht,Option.bind_some,hget]
   generalize a.tmps.getD t undef=x
   cases x<;>rfl
  have hw:Region.wanted o (yielded ops.toArray a.tmps)=(yielded ops.toArray a.tmps j == some b):=by simp[Region.wanted,hg]
  split at he
  ·rename_i b' hsl
   rw[hsl] at hs
   rw[hw,hy,Gw hs]
   cases b<;>cases b'<;>simp at he ⊢
   all_goals first|exact run he|exact⟨fun _ _=>trivial,skip he⟩
  ·rename_i hsl
   rw[hsl] at hs
   have hu:a.tmps.getD t undef=.tuple #[]:=by
    generalize a.tmps.getD t undef=x at hs
    cases hs with
    |tup _ vs hl _=>simp at hl;rw[hl]
   rw[hw,hy,hu]
   simp
   exact⟨fun _ _=>trivial,skip he⟩
  ·exact he.elim
end
end Go.Pw
end
section
namespace Go.Pw
inductive k8 where
 |none|read|all
def BV.foot:BV->k8
 |.mov|.pick|.bin _|.beq _|.eqv ..|.un _|.conv _|.nilck|.field ..|.faddr _|.iaddrA ..|.index ..|.strx _|.build ..|.mkrow ..|.mkfn _|.mkbnd _|.minmax _|.extract _|.cap=>.none
 |.eqnil _|.load ..|.iaddrS _|.len _|.lookup ..|.sub _|.pre=>.read
 |_=>.all
def BV.isCall:BV->Bool
 |.call _|.callv|.mentry=>true
 |_=>false
def fp (V:AO) (dst:Option Nat) (op:BV) (xs:List AV):List Nat :=
 match op.foot with
 |.none=>[]
 |.read=>AV.sites.sitesL xs
 |.all=>if op.isCall then CZ dst V xs else dst.toList++AV.sites.sitesL xs
def J5 (V:AO) (dst:Option Nat) (op:BV) (xs:List AV):List Nat :=
 match op.foot with
 |.all=>if op.isCall then CZ dst V xs else dst.toList++AV.sites.sitesL xs
 |_=>[]
theorem bm {V:AO}{dst:Option Nat}{op:BV}{xs:List AV}{o:Nat}(h:o∈J5 V dst op xs):o∈fp V dst op xs:=by
 unfold J5 at h;unfold fp
 split at h
 ·simp_all
 ·cases h
def Bp.site:Bp->List Nat
 |.none=>[]
 |.keep o _ _=>[o]
 |.fresh o _=>[o]
 |.seq a b=>a.site++b.site
def C2 (F:List Nat) (V V':AO):Prop:=∀o,o∈F->V'.ob o=V.ob o/\V'.cn o=V.cn o
theorem C2.get {F:List Nat}{V V':AO}(h:C2 F V V') {o g:Nat}(ho:o∈F):V'.get o g=V.get o g:=by
 simp only[AO.get,(h o ho).1]
theorem JN {F:List Nat}{V V':AO}(h:C2 F V V') {x:AV}(hx:∀o,o∈x.sites->o∈F):x.asList V'=x.asList V:=by
 cases x with
 |own o g=>simp only[AV.asList,h.get (hx o (by simp[AV.sites]))]
 |mref k o g=>cases k<;>first|rfl|simp only[AV.asList,h.get (hx o (by simp[AV.sites]))]
 |d x=>cases x<;>rfl
 |_=>rfl
theorem Xv {F:List Nat}{V V':AO}(h:C2 F V V') {x:AV}(hx:∀o,o∈x.sites->o∈F):x.lenL V'=x.lenL V:=by
 unfold AV.lenL;split
 ·rfl
 ·rename_i o g;rw[h.get (hx o (by simp[AV.sites]))]
 ·rw[JN h hx]
theorem N3 {F:List Nat}{V V':AO}(h:C2 F V V') {z:Option D}{x:AV}(hx:∀o,o∈x.sites->o∈F):DN V' z x=DN V z x:=by
 cases z with
 |none=>simp only[DN];split<;>simp_all[JN h hx]
 |some z=>rfl
theorem HT {F:List Nat}{V V':AO}(h:C2 F V V') {x:AV}(hx:∀o,o∈x.sites->o∈F):x.snap0 V'=x.snap0 V:=by
 cases x with
 |own o g=>simp only[AV.snap0,h.get (hx o (by simp[AV.sites]))]
 |ptr o g off =>
  have:=h.get (g:=g) (hx o (by simp[AV.sites]))
  cases off with
  |zero=>simp only[AV.snap0,this]
  |succ n=>rfl
 |mref k o g=>cases k<;>first|rfl|simp only[AV.snap0,h.get (hx o (by simp[AV.sites]))]
 |map o g=>simp only[AV.snap0,h.get (hx o (by simp[AV.sites]))]
 |_=>rfl
theorem FE {α γ:Type}{f g:α->Option γ}:∀{l:List α},(∀x,x∈l->f x=g x)->Aw f l=Aw g l
 |[],_=>rfl
 |x::l,h=>by simp only[Aw,h x (by simp),FE (l:=l) fun y hy=>h y (by simp[hy])]
theorem Qo {F:List Nat}{V V':AO}(h:C2 F V V') {x:AV}(hx:∀o,o∈x.sites->o∈F):x.snap V'=x.snap V:=by
 cases x with
 |agg cs=>simp only[AV.snap];rw[FE fun y hy=>HT h fun o ho=>hx o (by simp only[AV.sites];exact D4 hy ho)]
 |fn f cs=>simp only[AV.snap];rw[FE fun y hy=>HT h fun o ho=>hx o (by simp only[AV.sites];exact D4 hy ho)]
 |bnd f cs=>simp only[AV.snap];rw[FE fun y hy=>HT h fun o ho=>hx o (by simp only[AV.sites];exact D4 hy ho)]
 |_=>exact HT h hx
theorem F2 (xs ys:List AV):AV.sites.sitesL (xs++ys)=AV.sites.sitesL xs++AV.sites.sitesL ys:=by
 induction xs with
 |nil=>rfl
 |cons x xs ih=>simp only[List.cons_append,AV.sites.sitesL,ih,List.append_assoc]
theorem VP (cs:List D):AV.sites.sitesL (cs.map .d)=[]:=by
 induction cs with
 |nil=>rfl
 |cons x xs ih=>simp only[List.map_cons,AV.sites.sitesL,AV.sites,ih,List.append_nil]
variable {E:CU}{dst:Option Nat}{V:AO}{K:AV->Bp->Prop}
def ml (W F:List Nat) (V:AO) (G:AO->(AV->Bp->Prop)->Prop) (K:AV->Bp->Prop):Prop :=
 ∃v ch,K v ch/\(∀o,o∈ch.site->o∈W)/\∀V' K',C2 F V V'->K' v ch->G V' K'
theorem UO {F:List Nat}{V V':AO}(h:C2 F V V') {o:Nat}(ho:o∈F):V'.osites o=V.osites o:=by
 simp only[AO.osites,(h o ho).1]
theorem OZ {V:AO}:∀{n:Nat}{l:List Nat}{o:Nat},o∈l->o∈V.reach n l
 |0,_,_,h=>h
 |n+1,_,_,h=>List.mem_append_left _ h
theorem PJ {V V':AO}:∀{n:Nat}{l:List Nat},C2 (V.reach n l) V V'->V'.reach n l=V.reach n l
 |0,_,_=>rfl
 |n+1,l,h=>by
  simp only[AO.reach] at h ⊢
  have e:l.flatMap V'.osites=l.flatMap V.osites:=by
   have:∀m:List Nat,(∀o,o∈m->o∈l)->m.flatMap V'.osites=m.flatMap V.osites:=by
    intro m
    induction m with
    |nil=>intro _;rfl
    |cons x m ih =>
     intro hm
     rw[List.flatMap_cons,List.flatMap_cons,ih fun o ho=>hm o (List.mem_cons_of_mem _ ho),UO h (List.mem_append_left _ (hm x (by simp)))]
   exact this l fun _ h=>h
  rw[e,PJ (V:=V) (V':=V') (n:=n) fun o ho=>h o (List.mem_append_right _ ho)]
theorem VN {F:List Nat}{V V':AO}(h:C2 F V V') {x:AV}(hx:∀o,o∈x.sites->o∈F):x.snapC V'=x.snapC V:=by
 cases x with
 |own o g=>simp only[AV.snapC,h.get (hx o (by simp[AV.sites]))]
 |map o g=>simp only[AV.snapC,h.get (hx o (by simp[AV.sites]))]
 |_=>rfl
theorem VM {F:List Nat}{V V':AO}(h:C2 F V V') {x:AV}(hx:∀o,o∈V.reach 1 x.sites->o∈F):x.snapN V'=x.snapN V:=by
 have hs:∀o,o∈x.sites->o∈F:=fun o ho=>hx o (OZ ho)
 cases x with
 |ptr o g off =>
  cases off with
  |zero =>
   have:=h.get (g:=g) (hs o (by simp[AV.sites]))
   simp only[AV.snapN,this]
   cases hv:V.get o g with
   |none=>rfl
   |some y =>
    cases y with
    |cells xs =>
     simp only
     rw[FE fun z hz=>VN h fun q hq=>hx q ?_]
     have hob:=AO.get_some hv
     simp only[AO.reach,AV.sites,List.mem_append,List.flatMap_cons,List.flatMap_nil,List.append_nil]
     refine .inr ?_
     simp only[AO.osites,hob]
     exact D4 hz hq
    |_=>rfl
  |succ n=>exact Qo h hs
 |_=>exact Qo h hs
theorem KH {V:AO}:∀{n:Nat}{l:List Nat}{o:Nat},o∈V.reach n l->o∈V.reach (n+1) l
 |0,_,_,h=>OZ h
 |n+1,l,o,h=>by
  rw[AO.reach,List.mem_append] at h ⊢
  exact h.imp id KH
theorem MS {V:AO}:∀{n:Nat}{l m:List Nat},(∀o,o∈l->o∈m)->∀o,o∈V.reach n l->o∈V.reach n m
 |0,_,_,h,o,ho=>h o ho
 |n+1,l,m,h,o,ho=>by
  simp only[AO.reach,List.mem_append] at ho ⊢
  rcases ho with ho|ho
  ·exact .inl (h o ho)
  ·refine .inr (MS (V:=V) (fun q hq=>?_) o ho)
   rw[List.mem_flatMap] at hq ⊢
   obtain⟨z,hz,hq⟩:=hq
   exact⟨z,h z hz,hq⟩
theorem PY {dst:Option Nat}{V V':AO}{xs:List AV}(h:C2 (CZ dst V xs) V V'):CZ dst V' xs=CZ dst V xs:=by
 simp only[CZ] at h ⊢
 rw[PJ (V:=V) (V':=V') fun o ho=>h o (List.mem_append_right _ ho)]
theorem bW {t:Nat}{V:AO}{xs:List AV}:t∈CZ (some t) V xs:=by simp[CZ,Fd]
theorem Tg {t u:Nat}{V:AO}{xs:List AV}(h:u∈Fd t):u∈CZ (some t) V xs:=by simp only[CZ];exact List.mem_append_left _ h
theorem PX {dst:Option Nat}{V:AO}{xs:List AV}{o:Nat}(h:o∈AV.sites.sitesL xs):o∈CZ dst V xs:=by simp only[CZ];exact List.mem_append_right _ (OZ h)
theorem Pc {F:List Nat}{V V':AO}(h:C2 F V V') {xs:List AV}(hx:∀o,o∈CZ dst V xs->o∈F):Ro V' xs=Ro V xs :=
 FE fun y hy=>VM h fun o ho=>hx o (by
  simp only[CZ]
  exact List.mem_append_right _ (KH (KH (MS (fun q hq=>D4 hy hq) o ho))))
theorem JK {dst:Option Nat}{V:AO}{xs ys:List AV}(h:∀o,o∈AV.sites.sitesL xs->o∈AV.sites.sitesL ys):∀o,o∈CZ dst V xs->o∈CZ dst V ys:=by
 intro o ho
 simp only[CZ,List.mem_append] at ho ⊢
 exact ho.imp id (MS h o)
theorem Nd {V V':AO}{F F':List Nat}{ρ:EQ}(hF:∀o,o∈F->o∈F') (h:∀o,o∈F->V'.ob o=V.ob o):∀{V0:List (Nat×Nat×Ae)},D7 V F ρ V0->D7 V' F' ρ V0
 |[],_=>trivial
 |(o,g,x)::l,hh=>by
  simp only[D7] at hh ⊢
  refine⟨?_,Nd hF h hh.2⟩
  have h1:=hh.1
  split at h1
  ·rename_i q y hq hy
   have hin:q.1∈F:=by simpa using h1.2
   exact⟨by simp only[AO.get,h q.1 hin];exact h1.1,by simpa using hF q.1 hin⟩
  ·exact h1.elim
theorem SA {cn cn':Nat->Nat}{dst:Option Nat}{V0 V1:List (Nat×Nat×Ae)}{ρ ρ2:EQ}(h:∀t,dst=some t->∀o,o∈Fd t->cn' o=cn o) (hg:∀o g q,ρ.get o g=some q->cn' q.1=cn q.1) (hn:Db cn dst V0 V1 ρ ρ2=true):Db cn' dst V0 V1 ρ ρ2=true:=by
 simp only[Db,Bool.and_eq_true,List.all_eq_true] at hn ⊢
 refine⟨⟨⟨⟨hn.1.1.1.1,fun e he=>?_⟩,hn.1.1.2⟩,hn.1.2⟩,hn.2⟩
 have:=hn.1.1.1.2 e he
 refine⟨this.1,?_⟩
 have h2:=this.2
 cases hρ:ρ.get e.1.1 e.1.2 with
 |some q=>rfl
 |none =>
  simp only[hρ,Bool.and_eq_true,Bool.or_eq_true] at h2 ⊢
  refine⟨⟨h2.1.1,?_⟩,h2.2⟩
  have e1:cn' e.2.1=cn e.2.1:=by
   rcases h2.2 with h3|h3
   ·cases dst with
    |none=>simp at h3
    |some t=>exact h t rfl _ (by simpa using h3)
   ·obtain⟨o0,g0,q0,h4,h5⟩:=Nf h3
    rw[←h5];exact hg _ _ _ h4
  rw[e1];exact h2.1.2
theorem Rk {ρ ρ2:EQ}:∀{V1:List (Nat×Nat×Ae)}{ch:Bp},FG ρ ρ2 V1=some ch->∀o',o'∈ch.site->∃o g x q,(o,g,x)∈V1/\ρ2.get o g=some q/\q.1=o'
 |[],ch,h,o',ho'=>by simp[FG] at h;subst h;simp[Bp.site] at ho'
 |(o,g,x)::l,ch,h,o',ho'=>by
  simp only[FG] at h
  split at h
  ·rename_i q y cl hq hy hcl
   simp at h;subst h
   simp only[Bp.site,List.mem_append] at ho'
   rcases ho' with ho'|ho'
   ·refine⟨o,g,x,q,by simp,hq,?_⟩
    split at ho'<;>simp[Bp.site] at ho'<;>exact ho'.symm
   ·obtain⟨o1,g1,x1,q1,h1,h2,h3⟩:=Rk hcl o' ho'
    exact⟨o1,g1,x1,q1,List.mem_cons_of_mem _ h1,h2,h3⟩
  ·cases h
theorem HF {f:FuncId}{xs:List AV}{F:List Nat}(hF:∀o,o∈CZ dst V xs->o∈F) (h:DM E dst V f xs K):ml F F V (fun V' K'=>DM E dst V' f xs K') K:=by
 have hd:∀t,dst=some t->t∈F:=fun t ht=>hF t (by subst ht;exact bW)
 have hx:∀o,o∈AV.sites.sitesL xs->o∈F:=fun o ho=>hF o (PX ho)
 rcases h with⟨ds,r,h1,h2,hK⟩|⟨ds,r,h1,h2,h3,hK⟩|⟨ds,t,ety,es,nl,l,h1,hl,h2,h3,hK⟩|⟨V0,cxs,V1,r,r',ch,ρ,ρ2,hren,hcall,hhand,hnm,hr,hback,hK⟩|⟨o,g,ety,es,nl,l,ds,r,hget,hlim,hcf,hd',hret,hK⟩
 ·exact⟨_,_,hK,by simp[Bp.site],fun V' K' _ hk=>.inl ⟨ds,r,h1,h2,hk⟩⟩
 ·exact⟨_,_,hK,by simp[Bp.site],fun V' K' ha hk=>.inr (.inl ⟨ds,r,by rw[Pc ha hF];exact h1,h2,h3,hk⟩)⟩
 ·refine⟨_,_,hK,fun o ho=>by simp[Bp.site] at ho;subst ho;exact hd _ h1,fun V' K' ha hk=>.inr (.inr (.inl ⟨ds,t,ety,es,nl,l,h1,hl,?_,h3,?_⟩))⟩
  ·rw[Pc ha hF];exact h2
  ·rw[(ha t (hd _ h1)).2];exact hk
 ·have N:=Vl hnm
  have hin:∀o g q,ρ.get o g=some q->q.1∈CZ dst V xs:=fun o g q hro=>by
   obtain⟨x0,hm0⟩:=(N.n1 _ _ _ hro).2.1
   obtain⟨q2,y2,k1,_,_,k4⟩:=Kk hhand o g x0 hm0
   rw[hro] at k1;simp at k1;subst k1
   exact k4
  refine⟨_,_,hK,fun o' ho'=>?_,fun V' K' ha hk=>.inr (.inr (.inr (.inl ⟨V0,cxs,V1,r,r',ch,ρ,ρ2,hren,hcall,?_,?_,hr,hback,hk⟩)))⟩
  ·obtain⟨o,g,x,q,hm,hq,he⟩:=Rk hback o' ho'
   subst he
   cases hro:ρ.get o g with
   |some q' =>
    obtain⟨_,rfl⟩:=N.both hro hq
    exact hF _ (hin _ _ _ hro)
   |none =>
    rcases ((N.n2 _ _ _ hq).2 hro).2.2 with⟨t,ht,k1⟩|⟨o0,g0,q0,k1,k2⟩
    ·subst ht
     exact hF _ (Tg k1)
    ·rw[←k2];exact hF _ (hin _ _ _ k1)
  ·have hag:C2 (CZ dst V xs) V V':=fun o ho=>ha o (hF o ho)
   exact Nd (fun o ho=>by rw[PY hag];exact ho) (fun o ho=>(hag o ho).1) hhand
  ·exact SA (fun t ht o ho=>by subst ht;exact(ha o (hF o (Tg ho))).2) (fun o g q hq=>(ha q.1 (hF _ (hin _ _ _ hq))).2) hnm
 ·have hoF:o∈CZ dst V xs:=by simpa using hcf
  refine⟨_,_,hK,fun o' ho'=>by simp[Bp.site] at ho';subst ho';exact hF _ hoF,fun V' K' ha hk=>.inr (.inr (.inr (.inr ⟨o,g,ety,es,nl,l,ds,r,?_,hlim,?_,hd',hret,hk⟩)))⟩
  ·unfold AO.get at hget ⊢;rw[(ha o (hF o hoF)).1];exact hget
  ·have hag:C2 (CZ dst V xs) V V':=fun o ho=>ha o (hF o ho)
   rw[PY hag];exact hcf
theorem Dq {α:Type}{ag:Bool}{n off:Nat}{cs:List α}{mk:List α->AV}{one:α->AV}(h:CP ag n cs off mk one (K · .none)) :
  ∃v,K v .none/\∀K':AV->Bp->Prop,K' v .none->CP ag n cs off mk one (K' · .none):=by
 cases ag with
 |true =>
  simp only[CP,if_true] at *
  exact⟨_,h.2,fun K' hk=>⟨h.1,hk⟩⟩
 |false =>
  simp only[CP,Bool.false_eq_true,if_false] at *
  cases hc:cs[off]? with
  |none=>simp[hc] at h
  |some v=>simp only[hc] at h ⊢;exact⟨_,h,fun K' hk=>hk⟩
theorem ij {op:BinOp}{k k':IntKind}{a b:Int}(h:Du op k k' a b (K · .none)):∃v,K v .none/\∀K':AV->Bp->Prop,K' v .none->Du op k k' a b (K' · .none):=by
 cases op<;>simp only[Du] at h ⊢<;>first
  |exact⟨_,h.2.2,fun K' hk=>⟨h.1,h.2.1,hk⟩⟩
  |exact⟨_,h.2,fun K' hk=>⟨h.1,hk⟩⟩
theorem UJ {lo hi:Bool}{len:Nat}{rest:List AV}{C:Nat->Nat->Prop}(h:Px lo hi len rest C):∃a b,C a b/\∀C':Nat->Nat->Prop,C' a b->Px lo hi len rest C':=by
 cases lo<;>cases hi<;>simp only[Px,if_true,if_false,Bool.false_eq_true] at h ⊢
 ·split at h
  ·exact⟨_,_,h,fun C' hc=>hc⟩
  ·exact h.elim
 ·split at h
  ·exact⟨_,_,h.2.2,fun C' hc=>⟨h.1,h.2.1,hc⟩⟩
  ·exact h.elim
 ·split at h
  ·exact⟨_,_,h.2.2,fun C' hc=>⟨h.1,h.2.1,hc⟩⟩
  ·exact h.elim
 ·split at h
  ·exact⟨_,_,h.2.2.2,fun C' hc=>⟨h.1,h.2.1,h.2.2.1,hc⟩⟩
  ·exact h.elim
theorem Au {W F:List Nat}{G:AO->(AV->Bp->Prop)->Prop}(h:∃v,K v .none/\∀V' K',K' v .none->G V' K'):ml W F V G K:=by
 obtain⟨v,h1,h2⟩:=h
 exact⟨v,.none,h1,by simp[Bp.site],fun V' K' _ hk=>h2 V' K' hk⟩
theorem ek {op:BV}{xs:List AV}(h:ev E dst V op xs K):ml (J5 V dst op xs) (fp V dst op xs) V (fun V' K'=>ev E dst V' op xs K') K:=by
 have sin:∀{x:AV}{o:Nat}{ys:List AV},o∈x.sites->o∈AV.sites.sitesL (x::ys):=fun {x o ys} h=>by simp only[AV.sites.sitesL,List.mem_append];exact .inl h
 cases op with
 |mov =>
  unfold ev at h;simp only at h;split at h
  ·exact Au ⟨_,h,fun V' K' hk=>by unfold ev;exact hk⟩
  ·exact h.elim
 |pick =>
  unfold ev at h;simp only at h;split at h
  ·rename_i c a b
   cases c
   ·simp at h;exact Au ⟨_,h,fun V' K' hk=>by unfold ev;simpa using hk⟩
   ·simp at h;exact Au ⟨_,h,fun V' K' hk=>by unfold ev;simpa using hk⟩
  ·exact h.elim
 |bin b =>
  unfold ev at h;simp only at h;split at h
  ·obtain⟨v,h1,h2⟩:=ij h
   exact Au ⟨v,h1,fun V' K' hk=>by unfold ev;exact h2 K' hk⟩
  ·exact h.elim
 |beq neg =>
  unfold ev at h;simp only at h;split at h
  ·exact Au ⟨_,h,fun V' K' hk=>by unfold ev;exact hk⟩
  ·exact h.elim
 |eqv neg tys =>
  unfold ev at h;simp only at h;split at h
  ·rename_i x y
   split at h
   ·rename_i a b ha hb
    exact Au ⟨_,h.2.2,fun V' K' hk=>by unfold ev;simp only[ha,hb];exact⟨h.1,h.2.1,hk⟩⟩
   ·exact h.elim
  ·exact h.elim
 |eqnil neg =>
  unfold ev at h;simp only at h;split at h
  ·rename_i x
   split at h
   ·rename_i nl l hl
    refine⟨_,_,h,by simp[Bp.site],fun V' K' ha hk=>?_⟩
    unfold ev;simp only
    rw[JN ha fun o ho=>by simp only[fp,BV.foot,BV.isCall];exact sin ho,hl];exact hk
   ·exact h.elim
  ·exact h.elim
 |un u =>
  unfold ev at h;simp only at h;split at h
  ·exact Au ⟨_,h,fun V' K' hk=>by unfold ev;exact hk⟩
  ·exact Au ⟨_,h,fun V' K' hk=>by unfold ev;exact hk⟩
  ·exact Au ⟨_,h,fun V' K' hk=>by unfold ev;exact hk⟩
  ·exact h.elim
 |conv k =>
  unfold ev at h;simp only at h;split at h
  ·exact Au ⟨_,h,fun V' K' hk=>by unfold ev;exact hk⟩
  ·exact h.elim
 |load ag n =>
  unfold ev at h;simp only at h;split at h
  ·rename_i o g off
   split at h
   ·rename_i cs hg
    obtain⟨v,h1,h2⟩:=Dq h
    refine⟨v,.none,h1,by simp[Bp.site],fun V' K' ha hk=>?_⟩
    unfold ev;simp only
    rw[ha.get (by simp[fp,BV.foot,BV.isCall,AV.sites.sitesL,AV.sites]),hg];exact h2 K' hk
   ·exact h.elim
  ·rename_i o g es i off
   split at h
   ·rename_i ety es' nl l hg
    obtain⟨he,h⟩:=h
    split at h
    ·rename_i x hx
     obtain⟨v,h1,h2⟩:=Dq h
     refine⟨v,.none,h1,by simp[Bp.site],fun V' K' ha hk=>?_⟩
     unfold ev;simp only
     rw[ha.get (by simp[fp,BV.foot,BV.isCall,AV.sites.sitesL,AV.sites]),hg]
     simp only[hx]
     exact⟨he,h2 K' hk⟩
    ·exact h.elim
   ·rename_i ety l k q p hg
    obtain⟨he,hA,hB⟩:=h
    have hsb:o∈fp V dst (.load ag n) [.rptr o g es i off]:=by simp[fp,BV.foot,BV.isCall,AV.sites.sitesL,AV.sites]
    by_cases hik:i=k
    ·obtain⟨v,h1,h2⟩:=Dq (hA hik)
     refine⟨v,.none,h1,by simp[Bp.site],fun V' K' ha hk=>?_⟩
     unfold ev;simp only
     rw[ha.get hsb,hg]
     exact⟨he,fun _=>h2 K' hk,fun hn=>absurd hik hn⟩
    ·have hB:=hB hik
     split at hB
     ·rename_i x hx
      obtain⟨v,h1,h2⟩:=Dq hB
      refine⟨v,.none,h1,by simp[Bp.site],fun V' K' ha hk=>?_⟩
      unfold ev;simp only
      rw[ha.get hsb,hg]
      simp only[hx]
      exact⟨he,fun hn=>absurd hn hik,fun _=>h2 K' hk⟩
     ·exact hB.elim
   ·exact h.elim
  ·obtain⟨v,h1,h2⟩:=Dq h
   exact Au ⟨v,h1,fun V' K' hk=>by unfold ev;exact h2 K' hk⟩
  ·obtain⟨v,h1,h2⟩:=Dq h
   exact Au ⟨v,h1,fun V' K' hk=>by unfold ev;exact h2 K' hk⟩
  ·rename_i i o g
   have hsb:o∈fp V dst (.load ag n) [.mref (.xp i) o g]:=by simp[fp,BV.foot,BV.isCall,AV.sites.sitesL,AV.sites]
   split at h
   ·rename_i e1 e2 nl ix rows hg
    split at h
    ·rename_i j hj
     obtain⟨v,h1,h2⟩:=Dq h
     refine⟨v,.none,h1,by simp[Bp.site],fun V' K' ha hk=>?_⟩
     unfold ev;simp only
     rw[ha.get hsb,hg]
     simp only[hj]
     exact h2 K' hk
    ·exact h.elim
   ·exact h.elim
  ·rename_i j k o g
   have hsb:o∈fp V dst (.load ag n) [.mref (.mp j k) o g]:=by simp[fp,BV.foot,BV.isCall,AV.sites.sitesL,AV.sites]
   split at h
   ·rename_i e1 e2 nl ix rows hg
    split at h
    ·rename_i x hx
     split at h
     ·rename_i y hy
      obtain⟨v,h1,h2⟩:=Dq h
      refine⟨v,.none,h1,by simp[Bp.site],fun V' K' ha hk=>?_⟩
      unfold ev;simp only
      rw[ha.get hsb,hg]
      simp only[hx,hy]
      exact h2 K' hk
     ·exact h.elim
    ·exact h.elim
   ·exact h.elim
  ·obtain⟨v,h1,h2⟩:=Dq h
   exact Au ⟨v,h1,fun V' K' hk=>by unfold ev;exact h2 K' hk⟩
  ·exact h.elim
 |store n =>
  unfold ev at h;simp only at h;split at h
  ·rename_i o g off v
   split at h
   ·rename_i cs vs hg hv
    refine⟨_,_,h.2.2,by simp[Bp.site,J5,BV.foot,BV.isCall,AV.sites.sitesL,AV.sites],fun V' K' ha hk=>?_⟩
    unfold ev;simp only
    rw[ha.get (by simp[fp,BV.foot,BV.isCall,AV.sites.sitesL,AV.sites]),hg]
    simp only[hv]
    exact⟨h.1,h.2.1,hk⟩
   ·exact h.elim
  ·rename_i o g es0 i off q p
   have hsb:o∈fp V dst (.store n) [.rptr o g es0 i off,.own q p]:=by simp[fp,BV.foot,BV.isCall,AV.sites.sitesL,AV.sites]
   split at h
   ·rename_i ety es nl l hg
    refine⟨_,_,h.2.2.2.2.2.2,by simp[Bp.site,J5,BV.foot,BV.isCall,AV.sites.sitesL,AV.sites],fun V' K' ha hk=>?_⟩
    unfold ev;simp only
    rw[ha.get hsb,hg]
    exact⟨h.1,h.2.1,h.2.2.1,h.2.2.2.1,h.2.2.2.2.1,h.2.2.2.2.2.1,hk⟩
   ·rename_i ety l k q1 p1 hg
    refine⟨_,_,h.2.2.2.2,by simp[Bp.site,J5,BV.foot,BV.isCall,AV.sites.sitesL,AV.sites],fun V' K' ha hk=>?_⟩
    unfold ev;simp only
    rw[ha.get hsb,hg]
    exact⟨h.1,h.2.1,h.2.2.1,h.2.2.2.1,hk⟩
   ·exact h.elim
  ·rename_i o g es0 i off v hno
   split at h
   ·rename_i ety es nl l y hg hv
    obtain⟨he,h⟩:=h
    split at h
    ·rename_i x hx
     refine⟨_,_,h.2.2.2,by simp[Bp.site,J5,BV.foot,BV.isCall,AV.sites.sitesL,AV.sites],fun V' K' ha hk=>?_⟩
     unfold ev;simp only
     rw[ha.get (by simp[fp,BV.foot,BV.isCall,AV.sites.sitesL,AV.sites]),hg]
     simp only[hv,hx]
     exact⟨he,h.1,h.2.1,h.2.2.1,hk⟩
    ·exact h.elim
   ·exact h.elim
  ·rename_i i o g j o' g'
   have hsb:o∈fp V dst (.store n) [.mref (.xp i) o g,.mref (.row j) o' g']:=by simp[fp,BV.foot,BV.isCall,AV.sites.sitesL,AV.sites]
   split at h
   ·rename_i e1 e2 nl ix rows hg
    refine⟨_,_,h.2.2.2.2.2,by simp[Bp.site,J5,BV.foot,BV.isCall,AV.sites.sitesL,AV.sites],fun V' K' ha hk=>?_⟩
    unfold ev;simp only
    rw[ha.get hsb,hg]
    exact⟨h.1,h.2.1,h.2.2.1,h.2.2.2.1,h.2.2.2.2.1,hk⟩
   ·exact h.elim
  ·rename_i i o g q p
   have hsb:o∈fp V dst (.store n) [.mref (.xp i) o g,.own q p]:=by simp[fp,BV.foot,BV.isCall,AV.sites.sitesL,AV.sites]
   have hsq:q∈fp V dst (.store n) [.mref (.xp i) o g,.own q p]:=by simp[fp,BV.foot,BV.isCall,AV.sites.sitesL,AV.sites]
   split at h
   ·rename_i e1 e2 nl ix rows e2' es2 nl2 l2 hg hg2
    refine⟨_,_,h.2.2.2.2.2.2.2,by simp[Bp.site,J5,BV.foot,BV.isCall,AV.sites.sitesL,AV.sites],fun V' K' ha hk=>?_⟩
    unfold ev;simp only
    rw[ha.get hsb,hg,ha.get hsq,hg2]
    exact⟨h.1,h.2.1,h.2.2.1,h.2.2.2.1,h.2.2.2.2.1,h.2.2.2.2.2.1,h.2.2.2.2.2.2.1,hk⟩
   ·exact h.elim
  ·rename_i j k o g v
   have hsb:o∈fp V dst (.store n) [.mref (.mp j k) o g,v]:=by simp[fp,BV.foot,BV.isCall,AV.sites.sitesL,AV.sites]
   split at h
   ·rename_i e1 e2 nl ix rows y hg hv
    split at h
    ·rename_i x hx
     refine⟨_,_,h.2.2.2,by simp[Bp.site,J5,BV.foot,BV.isCall,AV.sites.sitesL,AV.sites],fun V' K' ha hk=>?_⟩
     unfold ev;simp only
     rw[ha.get hsb,hg]
     simp only[hv,hx]
     exact⟨h.1,h.2.1,h.2.2.1,hk⟩
    ·exact h.elim
   ·exact h.elim
  ·exact h.elim
 |nilck =>
  unfold ev at h;simp only at h
  split at h
  ·exact Au ⟨_,h,fun V' K' hk=>by unfold ev;exact hk⟩
  ·exact Au ⟨_,h,fun V' K' hk=>by unfold ev;exact hk⟩
  ·exact Au ⟨_,h,fun V' K' hk=>by unfold ev;exact hk⟩
  ·exact Au ⟨_,h,fun V' K' hk=>by unfold ev;exact hk⟩
  ·exact Au ⟨_,h,fun V' K' hk=>by unfold ev;exact hk⟩
  ·exact Au ⟨_,h,fun V' K' hk=>by unfold ev;exact hk⟩
  ·exact Au ⟨_,h,fun V' K' hk=>by unfold ev;exact hk⟩
  ·exact h.elim
 |field ag off n =>
  unfold ev at h;simp only at h
  split at h
  ·obtain⟨v,h1,h2⟩:=Dq h
   exact Au ⟨v,h1,fun V' K' hk=>by unfold ev;exact h2 K' hk⟩
  ·obtain⟨v,h1,h2⟩:=Dq h
   exact Au ⟨v,h1,fun V' K' hk=>by unfold ev;exact h2 K' hk⟩
  ·exact h.elim
 |faddr off =>
  unfold ev at h;simp only at h
  split at h
  ·exact Au ⟨_,h,fun V' K' hk=>by unfold ev;exact hk⟩
  ·exact Au ⟨_,h,fun V' K' hk=>by unfold ev;exact hk⟩
  ·exact Au ⟨_,h,fun V' K' hk=>by unfold ev;exact hk⟩
  ·exact Au ⟨_,h,fun V' K' hk=>by unfold ev;exact hk⟩
  ·exact Au ⟨_,h,fun V' K' hk=>by unfold ev;exact hk⟩
  ·exact h.elim
 |iaddrS es =>
  unfold ev at h;simp only at h
  split at h
  ·rename_i o g k i
   split at h
   ·rename_i ety es' nl l hg
    refine⟨_,_,h.2.2.2,by simp[Bp.site],fun V' K' ha hk=>?_⟩
    unfold ev;simp only
    rw[ha.get (by simp[fp,BV.foot,BV.isCall,AV.sites.sitesL,AV.sites]),hg]
    exact⟨h.1,h.2.1,h.2.2.1,hk⟩
   ·refine⟨_,_,h.2.2.2,by simp[Bp.site],fun V' K' ha hk=>?_⟩
    rename_i hg
    unfold ev;simp only
    rw[ha.get (by simp[fp,BV.foot,BV.isCall,AV.sites.sitesL,AV.sites]),hg]
    exact⟨h.1,h.2.1,h.2.2.1,hk⟩
   ·exact h.elim
  ·obtain⟨h1,h2,h⟩:=h
   split at h
   ·rename_i x hx
    exact Au ⟨_,h.2,fun V' K' hk=>by unfold ev;simp only[hx];exact⟨h1,h2,h.1,hk⟩⟩
   ·exact h.elim
  ·obtain⟨h1,h2,h⟩:=h
   split at h
   ·rename_i x hx
    exact Au ⟨_,h.2,fun V' K' hk=>by unfold ev;simp only[hx];exact⟨h1,h2,h.1,hk⟩⟩
   ·exact h.elim
  ·rename_i o g k i
   split at h
   ·rename_i e1 e2 nl ix rows hg
    refine⟨_,_,h.2.2.2,by simp[Bp.site],fun V' K' ha hk=>?_⟩
    unfold ev;simp only
    rw[ha.get (by simp[fp,BV.foot,BV.isCall,AV.sites.sitesL,AV.sites]),hg]
    exact⟨h.1,h.2.1,h.2.2.1,hk⟩
   ·exact h.elim
  ·rename_i j o g k i
   split at h
   ·rename_i e1 e2 nl ix rows hg
    split at h
    ·rename_i x hx
     refine⟨_,_,h.2.2.2,by simp[Bp.site],fun V' K' ha hk=>?_⟩
     unfold ev;simp only
     rw[ha.get (by simp[fp,BV.foot,BV.isCall,AV.sites.sitesL,AV.sites]),hg]
     simp only[hx]
     exact⟨h.1,h.2.1,h.2.2.1,hk⟩
    ·exact h.elim
   ·exact h.elim
  ·exact Au ⟨_,h.2.2.2,fun V' K' hk=>by unfold ev;exact⟨h.1,h.2.1,h.2.2.1,hk⟩⟩
  ·exact h.elim
 |iaddrA len es =>
  unfold ev at h;simp only at h
  split at h
  ·exact Au ⟨_,h.2.2,fun V' K' hk=>by unfold ev;exact⟨h.1,h.2.1,hk⟩⟩
  ·exact Au ⟨_,h.2.2,fun V' K' hk=>by unfold ev;exact⟨h.1,h.2.1,hk⟩⟩
  ·exact Au ⟨_,h.2.2,fun V' K' hk=>by unfold ev;exact⟨h.1,h.2.1,hk⟩⟩
  ·exact Au ⟨_,h.2.2,fun V' K' hk=>by unfold ev;exact⟨h.1,h.2.1,hk⟩⟩
  ·exact h.elim
 |index len es ag =>
  unfold ev at h;simp only at h
  split at h
  ·obtain⟨v,h1,h2⟩:=Dq h.2.2
   exact Au ⟨v,h1,fun V' K' hk=>by unfold ev;exact⟨h.1,h.2.1,h2 K' hk⟩⟩
  ·obtain⟨v,h1,h2⟩:=Dq h.2.2
   exact Au ⟨v,h1,fun V' K' hk=>by unfold ev;exact⟨h.1,h.2.1,h2 K' hk⟩⟩
  ·exact h.elim
 |strx sb =>
  unfold ev at h;simp only at h
  split at h
  ·obtain⟨h0,h⟩:=h
   split at h
   ·rename_i b hb
    exact Au ⟨_,h,fun V' K' hk=>by unfold ev;simp only[hb];exact⟨h0,hk⟩⟩
   ·exact h.elim
  ·exact h.elim
 |build z pl =>
  unfold ev at h;simp only at h
  split at h
  ·rename_i cs hc
   exact Au ⟨_,h.2,fun V' K' hk=>by unfold ev;simp only[hc];exact⟨h.1,hk⟩⟩
  ·exact h.elim
 |mkrow es z len ix =>
  unfold ev at h;simp only at h
  split at h
  ·exact Au ⟨_,h.2.2.2,fun V' K' hk=>by unfold ev;exact⟨h.1,h.2.1,h.2.2.1,hk⟩⟩
  rename_i hno
  split at h
  ·rename_i cs hc
   exact Au ⟨_,h.2,fun V' K' hk=>by
    unfold ev;simp only
    rw[hc];exact⟨h.1,hk⟩⟩
  ·exact h.elim
 |mkrowO ety es z len ix =>
  unfold ev at h;simp only at h
  split at h
  ·rename_i t l hl
   refine⟨_,_,h.2.2,by simp[Bp.site,J5,BV.foot,BV.isCall],fun V' K' ha hk=>?_⟩
   unfold ev;simp only[hl]
   rw[(ha t (by simp[fp,BV.foot,BV.isCall])).2];exact⟨h.1,h.2.1,hk⟩
  ·exact h.elim
 |mkfn f=>exact Au ⟨_,h,fun V' K' hk=>hk⟩
 |mkbnd f=>exact Au ⟨_,h,fun V' K' hk=>hk⟩
 |yld=>exact h.elim
 |box =>
  unfold ev at h;simp only at h
  split at h
  ·rename_i t v
   split at h
   ·rename_i cs hc
    refine⟨_,_,h.2,by simp[Bp.site,J5,BV.foot,BV.isCall],fun V' K' ha hk=>?_⟩
    unfold ev;simp only[hc]
    rw[(ha t (by simp[fp,BV.foot,BV.isCall])).2];exact⟨h.1,hk⟩
   ·exact h.elim
  ·exact h.elim
 |zero cs =>
  unfold ev at h;simp only at h
  split at h
  ·rename_i t
   refine⟨_,_,h.2,by simp[Bp.site,J5,BV.foot,BV.isCall],fun V' K' ha hk=>?_⟩
   unfold ev;simp only
   rw[(ha t (by simp[fp,BV.foot,BV.isCall])).2];exact⟨h.1,hk⟩
  ·exact h.elim
 |mkmap tys =>
  unfold ev at h;simp only at h
  split at h
  ·rename_i t
   refine⟨_,_,h.2,by simp[Bp.site,J5,BV.foot,BV.isCall],fun V' K' ha hk=>?_⟩
   unfold ev;simp only
   rw[(ha t (by simp[fp,BV.foot,BV.isCall])).2];exact⟨h.1,hk⟩
  ·exact h.elim
 |mksl ety es z own =>
  unfold ev at h;simp only at h
  split at h
  ·rename_i t n m
   obtain⟨h1,h2,h3,h⟩:=h
   cases own with
   |true =>
    simp only[if_true] at h
    refine⟨_,_,h.2,by simp[Bp.site,J5,BV.foot,BV.isCall],fun V' K' ha hk=>?_⟩
    unfold ev;simp only[if_true]
    rw[(ha t (by simp[fp,BV.foot,BV.isCall])).2];exact⟨h1,h2,h3,h.1,hk⟩
   |false =>
    simp only[Bool.false_eq_true,if_false] at h
    exact Au ⟨_,h,fun V' K' hk=>by unfold ev;simp only[Bool.false_eq_true,if_false];exact⟨h1,h2,h3,hk⟩⟩
  ·exact h.elim
 |slice es lo hi mx =>
  unfold ev at h;simp only at h
  cases mx with
  |true =>
   simp only[if_true] at h
   split at h
   ·exact Au ⟨_,h.2.2.2.2,fun V' K' hk=>by unfold ev;simp only[if_true];exact⟨h.1,h.2.1,h.2.2.1,h.2.2.2.1,hk⟩⟩
   ·exact Au ⟨_,h.2.2,fun V' K' hk=>by unfold ev;simp only[if_true];exact⟨h.1,h.2.1,hk⟩⟩
   ·exact Au ⟨_,h.2.2,fun V' K' hk=>by unfold ev;simp only[if_true];exact⟨h.1,h.2.1,hk⟩⟩
   ·exact Au ⟨_,h.2.2.2,fun V' K' hk=>by unfold ev;simp only[if_true];exact⟨h.1,h.2.1,h.2.2.1,hk⟩⟩
   ·exact Au ⟨_,h.2.2.2,fun V' K' hk=>by unfold ev;simp only[if_true];exact⟨h.1,h.2.1,h.2.2.1,hk⟩⟩
   ·exact Au ⟨_,h.2.2.2.2.2,fun V' K' hk=>by unfold ev;simp only[if_true];exact⟨h.1,h.2.1,h.2.2.1,h.2.2.2.1,h.2.2.2.2.1,hk⟩⟩
   ·exact h.elim
  |false =>
   simp only[Bool.false_eq_true,if_false] at h
   split at h
   ·obtain⟨hu,h⟩:=h
    obtain⟨a,b,h1,h2⟩:=UJ h
    exact Au ⟨_,h1,fun V' K' hk=>by unfold ev;simp only[Bool.false_eq_true,if_false];exact⟨hu,h2 _ hk⟩⟩
   ·obtain⟨hu,h⟩:=h
    obtain⟨a,b,h1,h2⟩:=UJ h
    exact Au ⟨_,h1,fun V' K' hk=>by unfold ev;simp only[Bool.false_eq_true,if_false];exact⟨hu,h2 _ hk⟩⟩
   ·rename_i o g rest
    split at h
    ·rename_i ety es' nl l hg
     obtain⟨hol,he,h⟩:=h
     obtain⟨a,b,h1,h2⟩:=UJ h
     refine⟨_,_,h1,by simp[Bp.site,J5,BV.foot,BV.isCall,AV.sites.sitesL,AV.sites],fun V' K' ha hk=>?_⟩
     unfold ev;simp only[Bool.false_eq_true,if_false]
     have ho:o∈fp V dst (.slice es lo hi false) (.own o g::rest):=by simp[fp,BV.foot,BV.isCall,AV.sites.sitesL,AV.sites]
     rw[ha.get ho,hg,(ha o ho).2]
     exact⟨hol,he,h2 (fun a b=>K' (.own o (V.cn o)) (.fresh o (.row ety es nl (if hi then (l.drop a).take (b-a) else l.drop a)))) hk⟩
    ·exact h.elim
   ·exact h.elim
 |sub es =>
  unfold ev at h;simp only at h
  split at h
  ·rename_i o g k i
   split at h
   ·rename_i ety es' nl l hg
    refine⟨_,_,h.2.2.2.2,by simp[Bp.site],fun V' K' ha hk=>?_⟩
    unfold ev;simp only
    rw[ha.get (by simp[fp,BV.foot,BV.isCall,AV.sites.sitesL,AV.sites]),hg]
    exact⟨h.1,h.2.1,h.2.2.1,h.2.2.2.1,hk⟩
   ·exact h.elim
  ·exact h.elim
 |pre =>
  unfold ev at h;simp only at h
  split at h
  ·rename_i o g k i
   split at h
   ·rename_i ety es' nl l hg
    refine⟨_,_,h.2.2.2,by simp[Bp.site],fun V' K' ha hk=>?_⟩
    unfold ev;simp only
    rw[ha.get (by simp[fp,BV.foot,BV.isCall,AV.sites.sitesL,AV.sites]),hg]
    exact⟨h.1,h.2.1,h.2.2.1,hk⟩
   ·exact h.elim
  ·exact h.elim
 |cpy =>
  unfold ev at h;simp only at h
  split at h
  ·rename_i o g y
   split at h
   ·rename_i ety es nl l nl' ys hg hd
    refine⟨_,_,h.2.2.2,by simp[Bp.site,J5,BV.foot,BV.isCall,AV.sites.sitesL,AV.sites],fun V' K' ha hk=>?_⟩
    unfold ev;simp only
    rw[ha.get (by simp[fp,BV.foot,BV.isCall,AV.sites.sitesL,AV.sites]),hg,hd]
    exact⟨h.1,h.2.1,h.2.2.1,hk⟩
   ·exact h.elim
  ·rename_i a es o g n o' g'
   split at h
   ·rename_i ety es' nl l hg
    refine⟨_,_,h.2.2.2.2.2.2.2,by simp[Bp.site,J5,BV.foot,BV.isCall,AV.sites.sitesL,AV.sites],fun V' K' ha hk=>?_⟩
    unfold ev;simp only
    rw[ha.get (by simp[fp,BV.foot,BV.isCall,AV.sites.sitesL,AV.sites]),hg]
    exact⟨h.1,h.2.1,h.2.2.1,h.2.2.2.1,h.2.2.2.2.1,h.2.2.2.2.2.1,h.2.2.2.2.2.2.1,hk⟩
   ·exact h.elim
  ·exact h.elim
 |clr zs =>
  unfold ev at h;simp only at h
  split at h
  ·rename_i a es o g
   split at h
   ·rename_i ety es' nl l hg
    refine⟨_,_,h.2.2.2,by simp[Bp.site,J5,BV.foot,BV.isCall,AV.sites.sitesL,AV.sites],fun V' K' ha hk=>?_⟩
    unfold ev;simp only
    rw[ha.get (by simp[fp,BV.foot,BV.isCall,AV.sites.sitesL,AV.sites]),hg]
    exact⟨h.1,h.2.1,h.2.2.1,hk⟩
   ·exact h.elim
  ·exact h.elim
 |len m =>
  unfold ev at h;simp only at h
  split at h
  ·rename_i x
   cases m with
   |true =>
    simp only[if_true] at h
    split at h
    ·rename_i o g
     split at h
     ·rename_i tys kvs hg
      refine⟨_,_,h.2,by simp[Bp.site],fun V' K' ha hk=>?_⟩
      unfold ev;simp only[if_true]
      rw[ha.get (by simp[fp,BV.foot,BV.isCall,AV.sites.sitesL,AV.sites]),hg];exact⟨h.1,hk⟩
     ·rename_i tys es0 cl hg
      refine⟨_,_,h.2,by simp[Bp.site],fun V' K' ha hk=>?_⟩
      unfold ev;simp only[if_true]
      rw[ha.get (by simp[fp,BV.foot,BV.isCall,AV.sites.sitesL,AV.sites]),hg];exact⟨h.1,hk⟩
     ·exact h.elim
    ·exact Au ⟨_,h.2,fun V' K' hk=>by unfold ev;simp only[if_true];exact⟨h.1,hk⟩⟩
    ·exact h.elim
   |false =>
    simp only[Bool.false_eq_true,if_false] at h
    split at h
    ·rename_i nl hl
     refine⟨_,_,h,by simp[Bp.site],fun V' K' ha hk=>?_⟩
     unfold ev;simp only[Bool.false_eq_true,if_false]
     rw[Xv ha fun o ho=>by simp only[fp,BV.foot,BV.isCall];exact sin ho,hl];exact hk
    ·exact h.elim
  ·exact h.elim
 |cap =>
  unfold ev at h;simp only at h
  split at h
  ·exact Au ⟨_,h,fun V' K' hk=>by unfold ev;exact hk⟩
  ·exact h.elim
 |minmax m =>
  unfold ev at h;simp only at h
  split at h
  ·split at h
   ·rename_i r hr
    exact Au ⟨_,h,fun V' K' hk=>by unfold ev;simp only[hr];exact hk⟩
   ·exact h.elim
  ·exact h.elim
 |extract i =>
  unfold ev at h;simp only at h
  split at h
  ·split at h
   ·rename_i r hr
    exact Au ⟨_,h,fun V' K' hk=>by unfold ev;simp only[hr];exact hk⟩
   ·exact h.elim
  ·exact h.elim
 |lookup ok tys z =>
  unfold ev at h;simp only at h
  split at h
  ·rename_i o g key
   split at h
   ·rename_i tys' kvs k hg hk'
    obtain⟨h1,h2,h⟩:=h
    split at h
    ·rename_i v hv
     refine⟨_,_,h,by simp[Bp.site],fun V' K' ha hk=>?_⟩
     unfold ev;simp only
     rw[ha.get (by simp[fp,BV.foot,BV.isCall,AV.sites.sitesL,AV.sites]),hg]
     simp only[hk',hv];exact⟨h1,h2,hk⟩
    ·rename_i hv
     refine⟨_,_,h,by simp[Bp.site],fun V' K' ha hk=>?_⟩
     unfold ev;simp only
     rw[ha.get (by simp[fp,BV.foot,BV.isCall,AV.sites.sitesL,AV.sites]),hg]
     simp only[hk',hv];exact⟨h1,h2,hk⟩
   ·rename_i tys' es0 cl k hg hk'
    obtain⟨h1,h2,h⟩:=h
    split at h
    ·rename_i v hv
     refine⟨_,_,h,by simp[Bp.site],fun V' K' ha hk=>?_⟩
     unfold ev;simp only
     rw[ha.get (by simp[fp,BV.foot,BV.isCall,AV.sites.sitesL,AV.sites]),hg]
     simp only[hk',hv];exact⟨h1,h2,hk⟩
    ·rename_i hv
     refine⟨_,_,h,by simp[Bp.site],fun V' K' ha hk=>?_⟩
     unfold ev;simp only
     rw[ha.get (by simp[fp,BV.foot,BV.isCall,AV.sites.sitesL,AV.sites]),hg]
     simp only[hk',hv];exact⟨h1,h2,hk⟩
   ·exact h.elim
  ·split at h
   ·rename_i k hk'
    obtain⟨h1,h2,h⟩:=h
    split at h
    ·rename_i v hv
     exact Au ⟨_,h,fun V' K' hk=>by unfold ev;simp only[hk',hv];exact⟨h1,h2,hk⟩⟩
    ·rename_i hv
     exact Au ⟨_,h,fun V' K' hk=>by unfold ev;simp only[hk',hv];exact⟨h1,h2,hk⟩⟩
   ·exact h.elim
  ·split at h
   ·rename_i k hk'
    exact Au ⟨_,h.2,fun V' K' hk=>by unfold ev;simp only[hk'];exact⟨h.1,hk⟩⟩
   ·exact h.elim
  ·exact h.elim
 |mapupd tys =>
  unfold ev at h;simp only at h
  split at h
  ·rename_i o g key val
   split at h
   ·rename_i tys' kvs k v hg hk' hv'
    refine⟨_,_,h.2.2.2,by simp[Bp.site,J5,BV.foot,BV.isCall,AV.sites.sitesL,AV.sites],fun V' K' ha hk=>?_⟩
    unfold ev;simp only
    rw[ha.get (by simp[fp,BV.foot,BV.isCall,AV.sites.sitesL,AV.sites]),hg]
    simp only[hk',hv'];exact⟨h.1,h.2.1,h.2.2.1,hk⟩
   ·rename_i tys' es0 cl k v hg hk' hv'
    refine⟨_,_,h.2.2.2,by simp[Bp.site,J5,BV.foot,BV.isCall,AV.sites.sitesL,AV.sites],fun V' K' ha hk=>?_⟩
    unfold ev;simp only
    rw[ha.get (by simp[fp,BV.foot,BV.isCall,AV.sites.sitesL,AV.sites]),hg]
    simp only[hk',hv'];exact⟨h.1,h.2.1,h.2.2.1,hk⟩
   ·exact h.elim
  ·exact h.elim
 |delete tys =>
  unfold ev at h;simp only at h
  split at h
  ·rename_i o g key
   split at h
   ·rename_i tys' es0 cl k hg hk'
    refine⟨_,_,h.2.2,by simp[Bp.site,J5,BV.foot,BV.isCall,AV.sites.sitesL,AV.sites],fun V' K' ha hk=>?_⟩
    unfold ev;simp only
    rw[ha.get (by simp[fp,BV.foot,BV.isCall,AV.sites.sitesL,AV.sites]),hg]
    simp only[hk'];exact⟨h.1,h.2.1,hk⟩
   ·exact h.elim
  ·exact h.elim
 |mkmapB tys =>
  unfold ev at h;simp only at h
  split at h
  ·rename_i t
   refine⟨_,_,h.2,by simp[Bp.site,J5,BV.foot,BV.isCall],fun V' K' ha hk=>?_⟩
   unfold ev;simp only
   rw[(ha t (by simp[fp,BV.foot,BV.isCall])).2];exact⟨h.1,hk⟩
  ·exact h.elim
 |mrange =>
  unfold ev at h;simp only at h
  split at h
  ·rename_i t o g
   split at h
   ·rename_i ob hg
    split at h
    ·rename_i es0 cl hob
     refine⟨_,_,h.2,by simp[Bp.site,J5,BV.foot,BV.isCall],fun V' K' ha hk=>?_⟩
     unfold ev;simp only
     rw[ha.get (by simp[fp,BV.foot,BV.isCall,AV.sites.sitesL,AV.sites]),hg]
     simp only[hob]
     rw[(ha t (by simp[fp,BV.foot,BV.isCall])).2];exact⟨h.1,hk⟩
    ·exact h.elim
   ·exact h.elim
  ·rename_i t tys kvs
   refine⟨_,_,h.2,by simp[Bp.site,J5,BV.foot,BV.isCall],fun V' K' ha hk=>?_⟩
   unfold ev;simp only
   rw[(ha t (by simp[fp,BV.foot,BV.isCall])).2];exact⟨h.1,hk⟩
  ·exact h.elim
 |mentry =>
  unfold ev at h;simp only at h
  split at h
  ·rename_i o g
   have hoF:o∈fp V dst .mentry [.ptr o g 0]:=by
    simp only[fp,BV.foot,BV.isCall,if_true]
    exact PX (by simp[AV.sites.sitesL,AV.sites])
   split at h
   ·rename_i mo mg n seen hg
    have hmF:mo∈fp V dst .mentry [.ptr o g 0]:=by
     simp only[fp,BV.foot,BV.isCall,if_true,CZ]
     refine List.mem_append_right _ (KH (KH ?_))
     simp only[AO.reach,AV.sites.sitesL,AV.sites,List.append_nil,List.mem_append,List.flatMap_cons,List.flatMap_nil]
     refine .inr ?_
     simp only[AO.osites,AO.get_some hg,List.mem_singleton]
    split at h
    ·rename_i ob hmg
     split at h
     ·rename_i es0 cl hob
      obtain⟨h1,h⟩:=h
      split at h
      ·rename_i b hb
       split at h
       ·rename_i e he
        refine⟨_,_,h,by simp[Bp.site],fun V' K' ha hk=>?_⟩
        unfold ev;simp only
        rw[ha.get hoF,hg];simp only
        rw[ha.get hmF,hmg];simp only[hob,hb,he]
        exact⟨h1,hk⟩
       ·exact h.elim
      ·exact h.elim
     ·exact h.elim
    ·exact h.elim
   ·rename_i tys kvs seen hg
    split at h
    ·rename_i i hi
     split at h
     ·rename_i kv hkv
      refine⟨_,_,h,by simp[Bp.site],fun V' K' ha hk=>?_⟩
      unfold ev;simp only
      rw[ha.get hoF,hg];simp only[hi,hkv];exact hk
     ·exact h.elim
    ·exact h.elim
   ·exact h.elim
  ·exact h.elim
 |mapent tys z =>
  unfold ev at h;simp only at h
  split at h
  ·rename_i o g key
   split at h
   ·rename_i tys' kvs k hg hk'
    obtain⟨h1,h2,h3,h⟩:=h
    split at h
    ·rename_i v hv
     refine⟨_,_,h,by simp[Bp.site],fun V' K' ha hk=>?_⟩
     unfold ev;simp only
     rw[ha.get (by simp[fp,BV.foot,BV.isCall,AV.sites.sitesL,AV.sites]),hg]
     simp only[hk',hv];exact⟨h1,h2,h3,hk⟩
    ·rename_i hv
     refine⟨_,_,h,by simp[Bp.site,J5,BV.foot,BV.isCall,AV.sites.sitesL,AV.sites],fun V' K' ha hk=>?_⟩
     unfold ev;simp only
     rw[ha.get (by simp[fp,BV.foot,BV.isCall,AV.sites.sitesL,AV.sites]),hg]
     simp only[hk',hv];exact⟨h1,h2,h3,hk⟩
   ·exact h.elim
  ·exact h.elim
 |entst =>
  unfold ev at h;simp only at h
  split at h
  ·rename_i o g k i val
   split at h
   ·rename_i tys kvs v hg hv'
    obtain⟨h1,h2,h⟩:=h
    split at h
    ·rename_i e hev
     refine⟨_,_,h,by simp[Bp.site,J5,BV.foot,BV.isCall,AV.sites.sitesL,AV.sites],fun V' K' ha hk=>?_⟩
     unfold ev;simp only
     rw[ha.get (by simp[fp,BV.foot,BV.isCall,AV.sites.sitesL,AV.sites]),hg]
     simp only[hv',hev];exact⟨h1,h2,hk⟩
    ·exact h.elim
   ·exact h.elim
  ·exact h.elim
 |app ety es z own =>
  unfold ev at h;simp only at h
  split at h
  ·rename_i k o g y
   have hsb:o∈fp V dst (.app ety es z own) [.mref k o g,y]:=by simp[fp,BV.foot,BV.isCall,AV.sites.sitesL,AV.sites]
   split at h
   ·rename_i e1 e2 nl ix rows q p hg
    have hsq:q∈fp V dst (.app ety es z own) [.mref .out o g,.ablk true [.own q p] 0]:=by simp[fp,BV.foot,BV.isCall,AV.sites.sitesL,AV.sites]
    split at h
    ·rename_i e2' es2 nl2 l2 hg2
     obtain⟨h0,h1,h2,h3,h4,h5,h6,h7,h8,h⟩:=h
     refine⟨_,_,h,by simp[Bp.site,J5,BV.foot,BV.isCall,AV.sites.sitesL,AV.sites],fun V' K' ha hk=>?_⟩
     unfold ev;simp only
     rw[ha.get hsb,hg]
     simp only
     rw[ha.get hsq,hg2,(ha o hsb).2]
     exact⟨h0,h1,h2,h3,h4,h5,h6,h7,h8,hk⟩
    ·exact h.elim
   ·rename_i j e1 e2 nl ix rows hg
    split at h
    ·rename_i x ys hrow hys
     obtain⟨h0,h1,h2,h3,h4,h5,h6,h⟩:=h
     refine⟨_,_,h,by simp[Bp.site,J5,BV.foot,BV.isCall,AV.sites.sitesL,AV.sites],fun V' K' ha hk=>?_⟩
     unfold ev;simp only
     rw[ha.get hsb,hg]
     simp only
     rw[N3 ha fun o ho=>by simp[fp,BV.foot,BV.isCall,AV.sites.sitesL];exact .inr (.inr ho),hys,hrow]
     exact⟨h0,h1,h2,h3,h4,h5,h6,hk⟩
    ·exact h.elim
   ·exact h.elim
  ·rename_i x y hno
   split at h
   ·exact h.elim
   ·rename_i ys hys
    have hsrc:∀{V':AO},C2 (fp V dst (.app ety es z own) [x,y]) V V'->DN V' z y=some ys:=fun {V'} ha=>by
     rw[N3 ha fun o ho=>by simp[fp,BV.foot,BV.isCall,AV.sites.sitesL];exact .inr (.inr ho),hys]
    split at h
    ·rename_i o g
     split at h
     ·rename_i ety' es' nl l hg
      obtain⟨h0,h1,h2,h3,h4,h⟩:=h
      refine⟨_,_,h,by simp[Bp.site,J5,BV.foot,BV.isCall,AV.sites.sitesL,AV.sites],fun V' K' ha hk=>?_⟩
      have ho:o∈fp V dst (.app ety es z own) [.own o g,y]:=by simp[fp,BV.foot,BV.isCall,AV.sites.sitesL,AV.sites]
      unfold ev;simp only[hsrc ha]
      rw[ha.get ho,hg,(ha o ho).2]
      exact⟨h0,h1,h2,h3,h4,hk⟩
     ·exact h.elim
    ·obtain⟨h1,h2,h⟩:=h
     cases own with
     |true =>
      simp only[if_true] at h
      split at h
      ·rename_i t
       refine⟨_,_,h.2,by simp[Bp.site,J5,BV.foot,BV.isCall],fun V' K' ha hk=>?_⟩
       unfold ev;simp only[hsrc ha,if_true]
       rw[(ha t (by simp[fp,BV.foot,BV.isCall])).2];exact⟨h1,h2,h.1,hk⟩
      ·exact h.elim
     |false =>
      simp only[Bool.false_eq_true,if_false] at h
      refine⟨_,_,h,by simp[Bp.site],fun V' K' ha hk=>?_⟩
      unfold ev;simp only[hsrc ha,Bool.false_eq_true,if_false];exact⟨h1,h2,hk⟩
    ·obtain⟨h1,h2,h⟩:=h
     cases own with
     |true =>
      simp only[if_true] at h
      split at h
      ·rename_i t
       split at h
       ·refine⟨_,_,h,by simp[Bp.site,J5,BV.foot,BV.isCall],fun V' K' ha hk=>?_⟩
        unfold ev;simp only[hsrc ha,if_true]
        exact⟨h1,h2,hk⟩
       ·refine⟨_,_,h.2,by simp[Bp.site,J5,BV.foot,BV.isCall],fun V' K' ha hk=>?_⟩
        unfold ev;simp only[hsrc ha,if_true]
        rw[(ha t (by simp[fp,BV.foot,BV.isCall])).2];exact⟨h1,h2,h.1,hk⟩
      ·exact h.elim
     |false =>
      simp only[Bool.false_eq_true,if_false] at h
      refine⟨_,_,h,by simp[Bp.site],fun V' K' ha hk=>?_⟩
      unfold ev;simp only[hsrc ha,Bool.false_eq_true,if_false];exact⟨h1,h2,hk⟩
    ·exact h.elim
  ·exact h.elim
 |call f=>exact HF (F:=fp V dst (.call f) xs) (fun o ho=>by simpa[fp,BV.foot,BV.isCall] using ho) h
 |callv =>
  unfold ev at h;simp only at h
  split at h
  ·rename_i f cs args
   obtain⟨hb,h⟩:=h
   obtain⟨v,ch,h1,h2,h3⟩:=HF (F:=fp V dst .callv (.fn f cs::args)) (fun o ho=>by
    have:o∈CZ dst V (.fn f cs::args):=JK (fun o ho=>by
     rw[F2] at ho
     simp only[AV.sites.sitesL,AV.sites,List.mem_append] at ho ⊢
     exact ho.symm) o ho
    simpa[fp,BV.foot,BV.isCall] using this) h
   exact⟨v,ch,h1,h2,fun V' K' ha hk=>by unfold ev;exact⟨hb,h3 V' K' ha hk⟩⟩
  ·rename_i f cs args
   obtain⟨hb,h⟩:=h
   obtain⟨v,ch,h1,h2,h3⟩:=HF (F:=fp V dst .callv (.d (.fn f cs)::args)) (fun o ho=>by
    have:o∈CZ dst V (.d (.fn f cs)::args):=JK (fun o ho=>by
     rw[F2,VP] at ho
     simp only[AV.sites.sitesL,AV.sites,List.mem_append,List.append_nil,List.nil_append] at ho ⊢
     exact ho) o ho
    simpa[fp,BV.foot,BV.isCall] using this) h
   exact⟨v,ch,h1,h2,fun V' K' ha hk=>by unfold ev;exact⟨hb,h3 V' K' ha hk⟩⟩
  ·rename_i f cs args
   obtain⟨hb,h⟩:=h
   obtain⟨v,ch,h1,h2,h3⟩:=HF (F:=fp V dst .callv (.bnd f cs::args)) (fun o ho=>by
    have:o∈CZ dst V (.bnd f cs::args):=JK (fun o ho=>by
     rw[F2] at ho
     simp only[AV.sites.sitesL,AV.sites,List.mem_append] at ho ⊢
     exact ho) o ho
    simpa[fp,BV.foot,BV.isCall] using this) h
   exact⟨v,ch,h1,h2,fun V' K' ha hk=>by unfold ev;exact⟨hb,h3 V' K' ha hk⟩⟩
  ·rename_i f cs args
   obtain⟨hb,h⟩:=h
   obtain⟨v,ch,h1,h2,h3⟩:=HF (F:=fp V dst .callv (.d (.bnd f cs)::args)) (fun o ho=>by
    have:o∈CZ dst V (.d (.bnd f cs)::args):=JK (fun o ho=>by
     rw[F2,VP] at ho
     simp only[AV.sites.sitesL,AV.sites,List.mem_append,List.append_nil,List.nil_append] at ho ⊢
     exact ho) o ho
    simpa[fp,BV.foot,BV.isCall] using this) h
   exact⟨v,ch,h1,h2,fun V' K' ha hk=>by unfold ev;exact⟨hb,h3 V' K' ha hk⟩⟩
  ·exact h.elim
end Go.Pw
end
section
namespace Go.Pw
def Fc (E:CU):List D6->A3->(A3->Prop)->Prop
 |[],s,K=>K s
 |I::l,s,K=>D9 E I s fun v ch=>Fc E l (put s I.dst v ch) K
abbrev Ry:=List Nat×List Nat
def C3 (I:D6) (s:A3):List Nat:=fp s.V I.dst I.op (I.xs.map (Gh.val s.sl))
def JP (a b:Ry):Bool :=
 (a.1.all fun o=>!b.2.contains o) && (b.1.all fun o=>!a.2.contains o)
def My (E:CU):List (D6×List Nat)->List Ry->A3->(A3->Prop)->Prop
 |[],_,s,K=>K s
 |(I,dy)::l,rec,s,K=>D9 E I s fun v ch =>
  (dy.all fun j=>match rec[j]? with|some r=>JP r (ch.site,C3 I s)|none=>false)=true /\
  My E l (rec++[(ch.site,C3 I s)]) (put s I.dst v ch) K
def Gh.slot:Gh->List Nat
 |.t n=>[n]
 |.k _=>[]
def D6.reads (I:D6):List Nat:=I.xs.flatMap Gh.slot++(match I.g with|some (t,_)=>[t]|none=>[])
theorem Wx {xs:List Gh}{s s':A3}(h:∀t,t∈xs.flatMap Gh.slot->s'.sl t=s.sl t):xs.map (Gh.val s'.sl)=xs.map (Gh.val s.sl):=by
 apply List.map_congr_left
 intro x hx
 cases x with
 |t n=>exact h n (List.mem_flatMap.2 ⟨_,hx,by simp[Gh.slot]⟩)
 |k v=>rfl
def bn (I:D6) (s:A3):List Nat:=J5 s.V I.dst I.op (I.xs.map (Gh.val s.sl))
variable {E:CU}
theorem Su {I:D6}{s:A3}{K:AV->Bp->Prop}(h:D9 E I s K) :
  ∃v ch,K v ch/\(∀o,o∈ch.site->o∈bn I s)/\∀s' K',(∀t,t∈I.reads->s'.sl t=s.sl t)->C2 (C3 I s) s.V s'.V->K' v ch->D9 E I s' K':=by
 have hval:∀s':A3,(∀t,t∈I.reads->s'.sl t=s.sl t)->I.xs.map (Gh.val s'.sl)=I.xs.map (Gh.val s.sl):=fun s' hs=>Wx fun t ht=>hs t (by simp[D6.reads];exact .inl (by simpa using ht))
 unfold D9 at h
 split at h
 ·rename_i hg
  obtain⟨v,ch,h1,h2,h3⟩:=ek h
  refine⟨v,ch,h1,h2,fun s' K' hs hV hk=>?_⟩
  unfold D9;simp only[hg]
  rw[hval s' hs];exact h3 s'.V K' hV hk
 ·rename_i t b hg
  have ht:∀s':A3,(∀t,t∈I.reads->s'.sl t=s.sl t)->s'.sl t=s.sl t:=fun s' hs=>hs t (by simp[D6.reads,hg])
  split at h
  ·rename_i b' hb
   by_cases hbb:(b == b')=true
   ·rw[hbb] at h;simp only[Mh] at h
    obtain⟨v,ch,h1,h2,h3⟩:=ek h
    refine⟨v,ch,h1,h2,fun s' K' hs hV hk=>?_⟩
    unfold D9;simp only[hg]
    rw[ht s' hs,hb];simp only[hbb,Mh]
    rw[hval s' hs];exact h3 s'.V K' hV hk
   ·have hbb':(b == b')=false:=by simpa using hbb
    rw[hbb'] at h;simp only[Ks] at h
    refine⟨_,_,h,by simp[Bp.site],fun s' K' hs hV hk=>?_⟩
    unfold D9;simp only[hg]
    rw[ht s' hs,hb];simp only[hbb',Ks];exact hk
  ·rename_i hb
   refine⟨_,_,h,by simp[Bp.site],fun s' K' hs hV hk=>?_⟩
   unfold D9;simp only[hg]
   rw[ht s' hs,hb];exact hk
  ·exact h.elim
def Ya (R F:List Nat) (s s':A3):Prop:=(∀t,t∈R->s'.sl t=s.sl t)/\C2 F s.V s'.V
theorem Ya.refl (R F:List Nat) (s:A3):Ya R F s s:=⟨fun _ _=>rfl,fun _ _=>⟨rfl,rfl⟩⟩
theorem C2.app {F:List Nat}:∀{ch:Bp}{V V':AO},C2 F V V'->C2 F (V.app ch) (V'.app ch)
 |.none,_,_,h=>h
 |.keep o' g x,V,V',h=>fun o ho=>by
  obtain⟨h1,h2⟩:=h o ho
  refine⟨?_,h2⟩
  simp only[AO.app,CN];split
  ·rfl
  ·exact h1
 |.fresh o' x,V,V',h=>fun o ho=>by
  obtain⟨h1,h2⟩:=h o ho
  refine⟨?_,?_⟩
  ·simp only[AO.app,CN]
   split
   ·rename_i e;subst e;rw[h2]
   ·exact h1
  ·simp only[AO.app,CN]
   split
   ·rename_i e;subst e;rw[h2]
   ·exact h2
 |.seq a b,V,V',h=>C2.app (ch:=b) (C2.app (ch:=a) h)
theorem Ya.both {R F:List Nat}{s s':A3}(h:Ya R F s s') (dst:Option Nat) (v:AV) (ch:Bp):Ya R F (put s dst v ch) (put s' dst v ch):=by
 refine⟨fun t ht=>?_,h.2.app⟩
 cases dst with
 |none=>exact h.1 t ht
 |some d =>
  simp only[put,CN];split
  ·rfl
  ·exact h.1 t ht
theorem LW:∀{ch:Bp}{V:AO}{o:Nat},o∉ch.site->(V.app ch).ob o=V.ob o/\(V.app ch).cn o=V.cn o
 |.none,_,_,_=>⟨rfl,rfl⟩
 |.keep o' g x,V,o,h=>by
  have:o≠o':=fun e=>h (by simp[Bp.site,e])
  simp[AO.app,CN,this]
 |.fresh o' x,V,o,h=>by
  have:o≠o':=fun e=>h (by simp[Bp.site,e])
  simp[AO.app,CN,this]
 |.seq a b,V,o,h=>by
  simp only[Bp.site,List.mem_append,not_or] at h
  obtain⟨h1,h2⟩:=LW (ch:=b) (V:=V.app a) h.2
  obtain⟨h3,h4⟩:=LW (ch:=a) (V:=V) h.1
  exact⟨h1.trans h3,h2.trans h4⟩
theorem Ya.left {R F:List Nat}{s s':A3}(h:Ya R F s s') {dst:Option Nat}{v:AV}{ch:Bp}(hd:∀t,dst=some t->t∉R) (hc:∀o,o∈ch.site->o∉F):Ya R F (put s dst v ch) s':=by
 refine⟨fun t ht=>?_,fun o ho=>?_⟩
 ·cases dst with
  |none=>exact h.1 t ht
  |some d =>
   have:t≠d:=fun e=>hd d rfl (e ▸ ht)
   simp only[put,CN,this,if_false];exact h.1 t ht
 ·obtain⟨h1,h2⟩:=LW (V:=s.V) (ch:=ch) (o:=o) fun e=>hc o e ho
  show s'.V.ob o=(s.V.app ch).ob o/\s'.V.cn o=(s.V.app ch).cn o
  rw[h1,h2];exact h.2 o ho
theorem Ya.right {R F:List Nat}{s s':A3}(h:Ya R F s s') {dst:Option Nat}{v:AV}{ch:Bp}(hd:∀t,dst=some t->t∉R) (hc:∀o,o∈ch.site->o∉F):Ya R F s (put s' dst v ch):=by
 refine⟨fun t ht=>?_,fun o ho=>?_⟩
 ·cases dst with
  |none=>exact h.1 t ht
  |some d =>
   have:t≠d:=fun e=>hd d rfl (e ▸ ht)
   simp only[put,CN,this,if_false];exact h.1 t ht
 ·obtain⟨h1,h2⟩:=LW (V:=s'.V) (ch:=ch) (o:=o) fun e=>hc o e ho
  show (s'.V.app ch).ob o=s.V.ob o/\(s'.V.app ch).cn o=s.V.cn o
  rw[h1,h2];exact h.2 o ho
theorem Ic {b:Bp}{a:Bp}(ha:∀x y,a≠.seq x y):∀{b:Bp}{V:AO},(∀o,o∈a.site->o∉b.site)->(V.app a).app b=(V.app b).app a
 |.seq b1 b2,V,h=>by
  have h1:∀o,o∈a.site->o∉b1.site:=fun o ho hb=>h o ho (by simp[Bp.site,hb])
  have h2:∀o,o∈a.site->o∉b2.site:=fun o ho hb=>h o ho (by simp[Bp.site,hb])
  show ((V.app a).app b1).app b2=((V.app b1).app b2).app a
  rw[Ic (b:=b) ha h1,Ic (b:=b) ha h2]
 |.none,V,h=>rfl
 |.keep o' g' x',V,h=>by
  cases a with
  |seq x y=>exact absurd rfl (ha x y)
  |none=>rfl
  |keep o g x =>
   have hne:o'≠o:=fun e=>h o (by simp[Bp.site]) (by simp[Bp.site,e])
   simp only[AO.app]
   congr 1;funext i;simp only[CN];split<;>split<;>simp_all
  |fresh o x =>
   have hne:o'≠o:=fun e=>h o (by simp[Bp.site]) (by simp[Bp.site,e])
   simp only[AO.app]
   congr 1;funext i;simp only[CN];split<;>split<;>simp_all
 |.fresh o' x',V,h=>by
  cases a with
  |seq x y=>exact absurd rfl (ha x y)
  |none=>rfl
  |keep o g x =>
   have hne:o'≠o:=fun e=>h o (by simp[Bp.site]) (by simp[Bp.site,e])
   simp only[AO.app]
   congr 1;funext i;simp only[CN];split<;>split<;>simp_all
  |fresh o x =>
   have hne:o'≠o:=fun e=>h o (by simp[Bp.site]) (by simp[Bp.site,e])
   have hne':o≠o':=fun e=>hne e.symm
   simp only[AO.app]
   congr 1
   ·funext i;simp only[CN,hne,hne',if_false];split<;>split<;>simp_all
   ·funext i;simp only[CN,hne,hne',if_false];split<;>split<;>simp_all
theorem Rp {b:Bp}:∀{a:Bp}{V:AO},(∀o,o∈a.site->o∉b.site)->(V.app a).app b=(V.app b).app a
 |.seq a1 a2,V,h=>by
  have h1:∀o,o∈a1.site->o∉b.site:=fun o ho=>h o (by simp[Bp.site,ho])
  have h2:∀o,o∈a2.site->o∉b.site:=fun o ho=>h o (by simp[Bp.site,ho])
  show ((V.app a1).app a2).app b=((V.app b).app a1).app a2
  rw[Rp (a:=a2) h2,Rp (a:=a1) h1]
 |.none,V,h=>Ic (b:=b) (fun _ _=>by simp) h
 |.keep _ _ _,V,h=>Ic (b:=b) (fun _ _=>by simp) h
 |.fresh _ _,V,h=>Ic (b:=b) (fun _ _=>by simp) h
theorem dH {s:A3}{d d':Option Nat}{v v':AV}{a b:Bp}(hd:∀t,d=some t->d'≠some t) (h:∀o,o∈a.site->o∉b.site) :
  put (put s d v a) d' v' b=put (put s d' v' b) d v a:=by
 unfold put
 congr 1
 ·cases d<;>cases d'<;>try rfl
  rename_i t t'
  have hne:t'≠t:=fun e=>hd t rfl (by rw[e])
  funext i;simp only[CN];split<;>split<;>simp_all
 ·exact Rp h
def after (I:Nat->D6) (v:Nat->AV) (ch:Nat->Bp) (s0:A3) (L:Nat->Bool):Nat->A3
 |0=>s0
 |k+1=>if L k then put (after I v ch s0 L k) (I k).dst (v k) (ch k) else after I v ch s0 L k
section
variable {I:Nat->D6}{v:Nat->AV}{ch:Nat->Bp}{s0:A3}{F:Nat->List Nat}
structure QM (I:Nat->D6) (ch:Nat->Bp) (F:Nat->List Nat) (i k:Nat):Prop where
 d1:∀t,(I i).dst=some t->t∉(I k).reads
 d2:∀t,(I k).dst=some t->t∉(I i).reads
 d3:∀t,(I i).dst=some t->(I k).dst≠some t
 s1:∀o,o∈(ch i).site->o∉F k
 s2:∀o,o∈(ch k).site->o∉F i
theorem QM.symm {i k:Nat}(h:QM I ch F i k):QM I ch F k i:=⟨h.d2,h.d1,fun t ht hi=>h.d3 t hi ht,h.s2,h.s1⟩
theorem Pg {L:Nat->Bool}{k n:Nat}(hk:k<=n) (hL:L k=false) (h1:∀i,i<k->L i=false->QM I ch F i k) (h2:∀i,k<i->i<n->L i=true->QM I ch F i k) :
  Ya (I k).reads (F k) (after I v ch s0 (fun _=>true) k) (after I v ch s0 L n):=by
 have a:∀m,m<=k->Ya (I k).reads (F k) (after I v ch s0 (fun _=>true) m) (after I v ch s0 L m):=by
  intro m
  induction m with
  |zero=>intro _;exact Ya.refl _ _ _
  |succ m ih =>
   intro hm
   have:=ih (by omega)
   simp only[after,if_true]
   cases hLm:L m with
   |true=>simp only[if_true];exact this.both _ _ _
   |false =>
    simp only[Bool.false_eq_true,if_false]
    have hf:=h1 m (by omega) hLm
    exact this.left hf.d1 hf.s1
 have b:∀m,k<=m->m<=n->Ya (I k).reads (F k) (after I v ch s0 (fun _=>true) k) (after I v ch s0 L m):=by
  intro m hm
  induction m with
  |zero =>
      intro _;have:k=0:=by omega
      subst this;exact a 0 (Nat.le_refl _)
  |succ m ih =>
   intro hmn
   by_cases hkm:k=m+1
   ·subst hkm;exact a _ (Nat.le_refl _)
   ·have:=ih (by omega) (by omega)
    simp only[after]
    cases hLm:L m with
    |false=>simp only[Bool.false_eq_true,if_false];exact this
    |true =>
     simp only[if_true]
     have hne:m≠k:=fun e=>by rw[e,hL] at hLm;cases hLm
     have hf:=h2 m (by omega) (by omega) hLm
     exact this.right hf.d1 hf.s1
 exact b n hk (Nat.le_refl _)
theorem N5 {L L':Nat->Bool}{k n:Nat}(hk:k<n) (hL:L k=false) (hL':∀i,L' i=if i=k then true else L i) (h2:∀i,k<i->i<n->L i=true->QM I ch F i k) (hF:∀i o,i<n->o∈(ch i).site->o∈F i) :
  after I v ch s0 L' n=put (after I v ch s0 L n) (I k).dst (v k) (ch k):=by
 have a:∀m,m<=k->after I v ch s0 L' m=after I v ch s0 L m:=by
  intro m
  induction m with
  |zero=>intro _;rfl
  |succ m ih =>
   intro hm
   simp only[after,ih (by omega),hL' m,show ¬m=k by omega,if_false]
 have b:∀m,k<m->m<=n->after I v ch s0 L' m=put (after I v ch s0 L m) (I k).dst (v k) (ch k):=by
  intro m hm
  induction m with
  |zero=>omega
  |succ m ih =>
   intro hmn
   by_cases hkm:m=k
   ·subst hkm
    simp only[after,a m (Nat.le_refl _),hL' m,if_true,hL,Bool.false_eq_true,if_false]
   ·simp only[after,ih (by omega) (by omega),hL' m,hkm,if_false]
    cases hLm:L m with
    |false=>simp only[Bool.false_eq_true,if_false]
    |true =>
     simp only[if_true]
     have hf:=h2 m (by omega) (by omega) hLm
     exact dH (fun t ht hm'=>hf.d3 t hm' ht) fun o ho hm'=>hf.s1 o hm' (hF k o hk ho)
 exact b n hk (Nat.le_refl _)
theorem Pf {L L':Nat->Bool}{n:Nat}(h:∀i,i<n->L i=L' i):∀m,m<=n->after I v ch s0 L m=after I v ch s0 L' m:=by
 intro m
 induction m with
 |zero=>intro _;rfl
 |succ m ih=>intro hm;simp only[after,ih (by omega),h m (by omega)]
end
end Go.Pw
end
section
namespace Go.Pw
def Qj:List (D6×List Nat)->List (AV×Bp)->A3->Nat->A3
 |(I,_)::l,r::tr,s,k+1=>Qj l tr (put s I.dst r.1 r.2) k
 |_,_,s,_=>s
def Zr:List (D6×List Nat)->List (AV×Bp)->A3->List Ry
 |(I,_)::l,r::tr,s=>(r.2.site,C3 I s)::Zr l tr (put s I.dst r.1 r.2)
 |_,_,_=>[]
variable {E:CU}
theorem Qt:∀{l:List (D6×List Nat)}{tr:List (AV×Bp)}{s:A3}{k:Nat}{I:D6}{dy:List Nat}{r:AV×Bp},l[k]?=some (I,dy)->tr[k]?=some r ->
  (Zr l tr s)[k]?=some (r.2.site,C3 I (Qj l tr s k))
 |[],_,_,_,_,_,_,h,_=>by simp at h
 |_::_,[],_,_,_,_,_,_,h=>by simp at h
 |(J,dj)::l,q::tr,s,0,I,dy,r,h1,h2=>by
  simp at h1 h2;obtain⟨rfl,rfl⟩:=h1;subst h2;simp[Zr,Qj]
 |(J,dj)::l,q::tr,s,k+1,I,dy,r,h1,h2=>by
  simp at h1 h2
  simp only[Zr,Qj,List.getElem?_cons_succ]
  exact Qt h1 h2
theorem Qi:∀{l:List (D6×List Nat)}{tr:List (AV×Bp)}{s:A3}{k:Nat}{I:D6}{dy:List Nat}{r:AV×Bp},l[k]?=some (I,dy)->tr[k]?=some r ->
  Qj l tr s (k+1)=put (Qj l tr s k) I.dst r.1 r.2
 |[],_,_,_,_,_,_,h,_=>by simp at h
 |_::_,[],_,_,_,_,_,_,h=>by simp at h
 |(J,dj)::l,q::tr,s,0,I,dy,r,h1,h2=>by
  simp at h1 h2;obtain⟨rfl,rfl⟩:=h1;subst h2
  simp only[Qj]
 |(J,dj)::l,q::tr,s,k+1,I,dy,r,h1,h2=>by
  simp at h1 h2
  simp only[Qj]
  exact Qi h1 h2
theorem cD:∀{l:List (D6×List Nat)}{rec:List Ry}{s:A3}{K:A3->Prop},My E l rec s K->∃tr:List (AV×Bp),tr.length=l.length/\K (Qj l tr s l.length) /\
  ∀(k:Nat) (I:D6) (dy:List Nat) (r:AV×Bp),l[k]?=some (I,dy)->tr[k]?=some r ->
   (∀o,o∈r.2.site->o∈bn I (Qj l tr s k)) /\
   (∀s' K',(∀t,t∈I.reads->s'.sl t=(Qj l tr s k).sl t)->C2 (C3 I (Qj l tr s k)) (Qj l tr s k).V s'.V->K' r.1 r.2->D9 E I s' K') /\
   (∀j,j∈dy->∃q,(rec++Zr l tr s)[j]?=some q/\JP q (r.2.site,C3 I (Qj l tr s k))=true)
 |[],rec,s,K,h=>⟨[],rfl,h,fun k I dy r hk=>by simp at hk⟩
 |(I,dy)::l,rec,s,K,h=>by
  simp only[My] at h
  obtain⟨v,ch,⟨hdy,hK⟩,hw,hloc⟩:=Su h
  obtain⟨tr,h1,h2,h3⟩:=cD hK
  refine⟨(v,ch)::tr,by simp[h1],by simpa[Qj] using h2,fun k J dj r hk hr=>?_⟩
  cases k with
  |zero =>
   simp at hk hr
   obtain⟨rfl,rfl⟩:=hk
   subst hr
   simp only[Qj]
   refine⟨hw,hloc,fun j hj=>?_⟩
   have:=List.all_eq_true.1 hdy j hj
   split at this
   ·rename_i q hq
    refine⟨q,?_,this⟩
    rw[List.getElem?_append_left (List.getElem?_eq_some_iff.1 hq).1];exact hq
   ·cases this
  |succ k =>
   simp at hk hr
   obtain⟨a1,a2,a3⟩:=h3 k J dj r hk hr
   simp only[Qj]
   refine⟨a1,a2,fun j hj=>?_⟩
   obtain⟨q,hq,hq2⟩:=a3 j hj
   refine⟨q,?_,hq2⟩
   simpa[Zr,List.append_assoc] using hq
def Uv (J I:D6):Bool :=
 (match J.dst with|some t=>!I.reads.contains t && I.dst != some t|none=>true) && (match I.dst with|some t=>!J.reads.contains t|none=>true)
def U3:k8->k8->Bool
 |.none,_=>true
 |_,.none=>true
 |.read,.read=>true
 |_,_=>false
def kE (ops:List Oper) (pre:List (List Nat)) (dis:List (D6×List Nat)):Bool :=
 (List.range ops.length).all fun k =>
  match ops[k]?,dis[k]?,pre[k]? with
  |some o,some (I,dy),some p =>
   (o.after.toList.all fun e=>!Region.binds .any e || decide (e.on<k)) &&
   (p.all fun j=>o.after.toList.any fun e=>Region.binds .any e && (e.on == j || (match pre[e.on]? with|some q=>q.contains j|none=>false))) &&
   ((List.range k).all fun j=>p.contains j || (match dis[j]? with|some (J,_)=>Uv J I && (dy.contains j || U3 J.op.foot I.op.foot)|none=>false))
  |_,_,_=>false
theorem I8 {ops:List Oper}{pre:List (List Nat)}{dis:List (D6×List Nat)}(h:kE ops pre dis=true) {k:Nat}(hk:k<ops.length):∃o I dy p,ops[k]?=some o/\dis[k]?=some (I,dy)/\pre[k]?=some p /\
  (∀e,e∈o.after.toList->Region.binds .any e=true->e.on<k)/\(∀j,j∈p->∃e,e∈o.after.toList/\Region.binds .any e=true/\(e.on=j\/∃q,pre[e.on]?=some q/\j∈q)) /\
  (∀j,j<k->j∉p->∃J dj,dis[j]?=some (J,dj)/\Uv J I=true/\(j∈dy\/U3 J.op.foot I.op.foot=true)):=by
 have:=List.all_eq_true.1 h k (by simpa using hk)
 split at this
 ·rename_i o I dy p h1 h2 h3
  simp only[Bool.and_eq_true] at this
  obtain⟨⟨a,b⟩,c⟩:=this
  refine⟨o,I,dy,p,h1,h2,h3,fun e he hb=>?_,fun j hj=>?_,fun j hj hjp=>?_⟩
  ·have:=List.all_eq_true.1 a e he
   simpa[hb] using this
  ·have:=List.all_eq_true.1 b j hj
   obtain⟨e,he,h4⟩:=List.any_eq_true.1 this
   simp only[Bool.and_eq_true,Bool.or_eq_true,beq_iff_eq] at h4
   refine⟨e,he,h4.1,h4.2.imp id fun h5=>?_⟩
   split at h5
   ·rename_i q hq;exact⟨q,hq,by simpa using h5⟩
   ·cases h5
  ·have:=List.all_eq_true.1 c j (by simpa using hj)
   have hnp:p.contains j=false:=by simpa using hjp
   rw[hnp,Bool.false_or] at this
   split at this
   ·rename_i J dj hJ
    simp only[Bool.and_eq_true,Bool.or_eq_true] at this
    exact⟨J,dj,hJ,this.1,this.2.imp (by simp) id⟩
   ·cases this
 ·cases this
theorem Pe {J I:D6}(h:Uv J I=true):(∀t,J.dst=some t->t∉I.reads)/\(∀t,I.dst=some t->t∉J.reads)/\(∀t,J.dst=some t->I.dst≠some t):=by
 unfold Uv at h
 simp only[Bool.and_eq_true] at h
 refine⟨fun t ht=>?_,fun t ht=>?_,fun t ht=>?_⟩
 ·rw[ht] at h;simp at h;exact h.1.1
 ·rw[ht] at h;simp at h;exact h.2
 ·rw[ht] at h;simp at h;exact h.1.2
theorem Sr {J I:D6}{s s':A3}{a b:Bp}(h:U3 J.op.foot I.op.foot=true) (ha:∀o,o∈a.site->o∈bn J s) (hb:∀o,o∈b.site->o∈bn I s') :
  (∀o,o∈a.site->o∉C3 I s')/\∀o,o∈b.site->o∉C3 J s:=by
 unfold bn J5 at ha hb
 unfold C3 fp
 cases hJ:J.op.foot<;>cases hI:I.op.foot<;>simp_all[U3]
section
variable {c:DT}{β:Nat->Nat->Value}{s:A3}{a:Act}{w:World}{K:A3->Prop}
theorem DH {listed:Array Bool}{i:Nat}(hi:i<listed.size) (k:Nat) (d:Bool):(listed.setIfInBounds i true).getD k d=if k=i then true else listed.getD k d:=by
 by_cases h:k=i
 ·subst h;simp[Array.getD_eq_getD_getElem?,hi]
 ·simp[Array.getD_eq_getD_getElem?,Array.getElem?_setIfInBounds_ne (Ne.symm h),h]
theorem WV {p q:Nat->Bool}{i:Nat}:∀{l:List Nat},l.Nodup->i∈l->p i=true->(∀k,q k=if k=i then false else p k)->(l.filter q).length+1=(l.filter p).length
 |[],_,h,_,_=>by cases h
 |x::l,hn,hi,hp,hq=>by
  rw[List.nodup_cons] at hn
  by_cases hx:x=i
  ·subst hx
   have hqx:q x=false:=by rw[hq];simp
   have hrest:l.filter q=l.filter p:=List.filter_congr fun y hy=>by
    rw[hq];have:y≠x:=fun e=>hn.1 (e ▸ hy)
    simp[this]
   simp[List.filter_cons,hqx,hp,hrest]
  ·have hil:i∈l:=by
    cases hi with
    |head=>exact absurd rfl hx
    |tail _ h=>exact h
   have ih:=WV hn.2 hil hp hq
   have hqx:q x=p x:=by rw[hq];simp[hx]
   cases hpx:p x<;>simp[List.filter_cons,hqx,hpx]<;>omega
theorem Tb {listed:Array Bool}{n i fuel:Nat}(hi:i<listed.size) (hin:i<n) (h:listed.getD i false=false) (hc:((List.range n).filter fun k=>!listed.getD k false).length=fuel+1) :
  ((List.range n).filter fun k=>!(listed.setIfInBounds i true).getD k false).length=fuel:=by
 have:=WV (p:=fun k=>!listed.getD k false) (q:=fun k=>!(listed.setIfInBounds i true).getD k false) (i:=i) (l:=List.range n) List.nodup_range (by simpa using hin) (by simp[h]) (fun k=>by
  rw[DH hi];split<;>simp)
 omega
theorem YM (r:Option Nat) (m:Nat) {fl:List Nat}{ns:Nat}{ops:List Oper}{dis:List (D6×List Nat)}{pre:List (List Nat)}{Q:Exit->Act->World->Prop}(hdec:∀(k:Nat) (o:Oper) (I:D6) (dy:List Nat),ops[k]?=some o->dis[k]?=some (I,dy)->HH E true fl ns ops o=some I) (hlen:dis.length=ops.length) (hok:kE ops pre dis=true)
  (h:BP E c β s a.tmps w) (hn:a.tmps.size=ns) (hs:My E dis [] s K) (hQ:∀s' β' tm' w',K s'->BP E c β' s' tm' w'->tm'.size=ns->Q .normal ⟨tm',a.defers⟩ w') :
  wpAnyIn (rF r) m E.P .any ops.toArray Q ops.length (Array.replicate ops.length false) a w:=by
 obtain⟨tr,htl,hK,htr⟩:=cD hs
 let I:Nat->D6:=fun k=>(dis.getD k default).1
 let v:Nat->AV:=fun k=>(tr.getD k (.undef,.none)).1
 let ch:Nat->Bp:=fun k=>(tr.getD k (.undef,.none)).2
 let F:Nat->List Nat:=fun k=>C3 (I k) (Qj dis tr s k)
 have hI:∀{k J dy},dis[k]?=some (J,dy)->I k=J:=fun {k J dy} h=>by simp[I,List.getD,h]
 have hr:∀{k q},tr[k]?=some q->v k=q.1/\ch k=q.2:=fun {k q} h=>by simp[v,ch,List.getD,h]
 have hst:∀k,k<=ops.length->after I v ch s (fun _=>true) k=Qj dis tr s k:=by
  intro k
  induction k with
  |zero=>intro _;cases dis<;>cases tr<;>rfl
  |succ k ih =>
   intro hk
   have h1:dis[k]?=some dis[k]:=List.getElem?_eq_getElem (by omega)
   have h2:tr[k]?=some tr[k]:=List.getElem?_eq_getElem (by omega)
   simp only[after,if_true,ih (by omega)]
   rw[Qi h1 h2,hI h1,(hr h2).1,(hr h2).2]
 have hsite:∀i o,i<ops.length->o∈(ch i).site->o∈F i:=by
  intro i o hi ho
  have h1:dis[i]?=some dis[i]:=List.getElem?_eq_getElem (by omega)
  have h2:tr[i]?=some tr[i]:=List.getElem?_eq_getElem (by omega)
  rw[(hr h2).2] at ho
  have:=(htr i _ _ _ h1 h2).1 o ho
  show o∈C3 (I i) _
  rw[hI h1];exact bm this
 have hfree:∀j k p,j<k->k<ops.length->pre[k]?=some p->j∉p->QM I ch F j k:=by
  intro j k p hjk hk hp hjp
  obtain⟨o,Ik,dy,p',h1,h2,h3,h4,h5,h6⟩:=I8 hok hk
  rw[hp] at h3;simp at h3;subst h3
  obtain⟨J,dj,h7,h8,h9⟩:=h6 j hjk hjp
  have g1:tr[k]?=some tr[k]:=List.getElem?_eq_getElem (by omega)
  have g2:tr[j]?=some tr[j]:=List.getElem?_eq_getElem (by omega)
  obtain⟨d1,d2,d3⟩:=Pe h8
  have key:(∀o,o∈(ch j).site->o∉F k)/\∀o,o∈(ch k).site->o∉F j:=by
   show (∀o,o∈(ch j).site->o∉C3 (I k) _)/\∀o,o∈(ch k).site->o∉C3 (I j) _
   rw[hI h2,hI h7,(hr g1).2,(hr g2).2]
   rcases h9 with h9|h9
   ·obtain⟨q,hq,hq2⟩:=(htr k _ _ _ h2 g1).2.2 j h9
    rw[List.nil_append,Qt h7 g2] at hq
    simp at hq;subst hq
    simp only[JP,Bool.and_eq_true] at hq2
    refine⟨fun o ho=>?_,fun o ho=>?_⟩
    ·have:=List.all_eq_true.1 hq2.1 o ho;simpa using this
    ·have:=List.all_eq_true.1 hq2.2 o ho;simpa using this
   ·exact Sr h9 (htr j _ _ _ h7 g2).1 (htr k _ _ _ h2 g1).1
  exact⟨by rw[hI h2,hI h7];exact d1,by rw[hI h2,hI h7];exact d2,by rw[hI h2,hI h7];exact d3,key.1,key.2⟩
 have hclosed:∀(L:Nat->Bool),(∀k o,ops[k]?=some o->L k=true->∀e,e∈o.after.toList->Region.binds .any e=true->L e.on=true)->∀k,k<ops.length->∀p,pre[k]?=some p ->
   (∀o,ops[k]?=some o->∀e,e∈o.after.toList->Region.binds .any e=true->L e.on=true)->∀j,j∈p->L j=true:=by
  intro L hL k
  induction k using Nat.strongRecOn with
  |_ k ih =>
   intro hk p hp hpre j hj
   obtain⟨o,Ik,dy,p',h1,h2,h3,h4,h5,h6⟩:=I8 hok hk
   rw[hp] at h3;simp at h3;subst h3
   obtain⟨e,he,hb,h7⟩:=h5 j hj
   have hlt:=h4 e he hb
   have hLe:=hpre o h1 e he hb
   rcases h7 with h7|⟨q,hq,hjq⟩
   ·rw[←h7];exact hLe
   ·refine ih e.on hlt (by omega) q hq (fun o' ho' e' he' hb'=>hL e.on o' ho' hLe e' he' hb') j hjq
 have main:∀(fuel:Nat) (listed:Array Bool) (tm:Array Value) (β:Nat->Nat->Value) (w:World),listed.size=ops.length->((List.range ops.length).filter fun k=>!listed.getD k false).length=fuel ->
   (∀k o,ops[k]?=some o->listed.getD k false=true->∀e,e∈o.after.toList->Region.binds .any e=true->listed.getD e.on false=true) ->
   BP E c β (after I v ch s (fun k=>listed.getD k false) ops.length) tm w->tm.size=ns->wpAnyIn (rF r) m E.P .any ops.toArray Q fuel listed ⟨tm,a.defers⟩ w:=by
  intro fuel
  induction fuel with
  |zero =>
   intro listed tm β w hsz hcount hcl hrel htm
   have hall:∀k,k<ops.length->listed.getD k false=true:=by
    intro k hk
    have hnil:=List.eq_nil_of_length_eq_zero hcount
    have:k∉(List.range ops.length).filter fun k=>!listed.getD k false:=by rw[hnil];simp
    simpa[hk] using this
   refine⟨?_,?_⟩
   ·cases hre:Region.ready .any ops.toArray listed with
    |nil=>rfl
    |cons i rest =>
     have hi:i∈Region.ready .any ops.toArray listed:=by rw[hre];simp
     simp only[Region.ready,List.mem_filter,List.mem_range,List.size_toArray,Bool.and_eq_true] at hi
     have:=hall i hi.1
     have hi2:=hi.2.1
     have hlt:i<listed.size:=by omega
     simp[Array.getD_eq_getD_getElem?,hlt] at this hi2
     rw[this] at hi2;cases hi2
   ·refine hQ _ β tm w ?_ hrel htm
    have:=Pf (I:=I) (v:=v) (ch:=ch) (s0:=s) (L:=fun k=>listed.getD k false) (L':=fun _=>true) (n:=ops.length) hall ops.length (Nat.le_refl _)
    rw[this,hst _ (Nat.le_refl _),←hlen];exact hK
  |succ fuel ih =>
   intro listed tm β w hsz hcount hcl hrel htm
   refine⟨fun hnil=>?_,fun i hi=>?_⟩
   ·
    exfalso
    have hex:∃k,k<ops.length/\listed.getD k false=false:=by
     cases hf:(List.range ops.length).filter fun k=>!listed.getD k false with
     |nil=>rw[hf] at hcount;cases hcount
     |cons k rest =>
      have:k∈(List.range ops.length).filter fun k=>!listed.getD k false:=by rw[hf];simp
      exact⟨k,by simpa using this⟩
    have hmin:∃k,k<ops.length/\listed.getD k false=false/\∀j,j<k->listed.getD j false=true:=by
     obtain⟨k,hk⟩:=hex
     induction k using Nat.strongRecOn with
     |_ k ihk =>
      by_cases hall:∀j,j<k->listed.getD j false=true
      ·exact⟨k,hk.1,hk.2,hall⟩
      ·simp only[Classical.not_forall] at hall
       obtain⟨j,hj,hjl⟩:=hall
       exact ihk j hj ⟨by omega,by simpa using hjl⟩
    obtain⟨k,hk,hkl,hbelow⟩:=hmin
    obtain⟨o,Ik,dy,p,h1,h2,h3,h4,h5,h6⟩:=I8 hok hk
    have:k∈Region.ready .any ops.toArray listed:=by
     simp only[Region.ready,List.mem_filter,List.mem_range,List.size_toArray,Bool.and_eq_true]
     refine⟨hk,?_,?_⟩
     ·have hlt:k<listed.size:=by omega
      simp[Array.getD_eq_getD_getElem?,hlt] at hkl ⊢;exact hkl
     ·simp only[List.getElem?_toArray,h1,Option.map_some,Option.getD_some,Array.all_eq_true',Bool.or_eq_true,Bool.not_eq_true']
      intro e he
      by_cases hb:Region.binds .any e=true
      ·exact .inr (hbelow _ (h4 e (by simpa using he) hb))
      ·exact .inl (by simpa using hb)
    rw[hnil] at this;cases this
   ·simp only[Region.ready,List.mem_filter,List.mem_range,List.size_toArray,Bool.and_eq_true] at hi
    obtain⟨hin,hil,hia⟩:=hi
    have hlt:i<listed.size:=by omega
    have hil':listed.getD i false=false:=by
     simp[Array.getD_eq_getD_getElem?,hlt] at hil ⊢;exact hil
    obtain⟨o,Ii,dy,p,h1,h2,h3,h4,h5,h6⟩:=I8 hok hin
    simp only[List.getElem?_toArray,h1,Option.map_some,Option.getD_some,Array.all_eq_true',Bool.or_eq_true,Bool.not_eq_true'] at hia
    have hpre:∀e,e∈o.after.toList->Region.binds .any e=true->listed.getD e.on false=true:=fun e he hb=>by
     rcases hia e (by simpa using he) with h|h
     ·rw[hb] at h;cases h
     ·exact h
    have g2:tr[i]?=some tr[i]:=List.getElem?_eq_getElem (by omega)
    have hun1:∀j,j<i->listed.getD j false=false->QM I ch F j i:=fun j hj hjl=>by
     refine hfree j i p hj hin h3 fun hjp=>?_
     have:=hclosed (fun k=>listed.getD k false) hcl i hin p h3 (fun o' ho' e he hb=>by rw[h1] at ho';simp at ho';subst ho';exact hpre e he hb) j hjp
     rw[hjl] at this;cases this
    have hun2:∀j,i<j->j<ops.length->listed.getD j false=true->QM I ch F i j:=fun j hj hjn hjl=>by
     obtain⟨oj,Ij,dyj,pj,k1,k2,k3,k4,k5,k6⟩:=I8 hok hjn
     refine hfree i j pj hj hjn k3 fun hip=>?_
     have:=hclosed (fun k=>listed.getD k false) hcl j hjn pj k3 (fun o' ho' e he hb=>hcl j o' ho' hjl e he hb) i hip
     rw[hil'] at this;cases this
    have hag:=Pg (I:=I) (v:=v) (ch:=ch) (s0:=s) (F:=F) (L:=fun k=>listed.getD k false) (k:=i) (n:=ops.length) (by omega) hil' hun1 fun j hj hjn hjl=>(hun2 j hj hjn hjl).symm
    have hins:=N5 (I:=I) (v:=v) (ch:=ch) (s0:=s) (F:=F) (L:=fun k=>listed.getD k false) (L':=fun k=>(listed.setIfInBounds i true).getD k false) (k:=i) (n:=ops.length) hin hil' (fun k=>DH hlt k false) (fun j hj hjn hjl=>(hun2 j hj hjn hjl).symm) hsite
    rw[hst i (by omega)] at hag
    have hstep:D9 E Ii (after I v ch s (fun k=>listed.getD k false) ops.length) (fun v' ch'=>v'=v i/\ch'=ch i):=by
     refine(htr i _ _ _ h2 g2).2.1 _ _ (fun t ht=>?_) ?_ ⟨(hr g2).1.symm,(hr g2).2.symm⟩
     ·have:=hag.1 t (by rw[hI h2];exact ht)
      exact this
     ·have:=hag.2
      show C2 (C3 Ii _) _ _
      have hF:F i=C3 Ii (Qj dis tr s i):=by show C3 (I i) _=_;rw[hI h2]
      rw[←hF];exact this
    unfold wpOpIn
    simp only[List.getElem?_toArray,h1]
    refine Gs r m (a:=⟨tm,a.defers⟩) hrel (hdec i o Ii dy h1 h2) htm hstep fun v' ch' β' tm' w' hvc hrel' htm'=>?_
    obtain⟨rfl,rfl⟩:=hvc
    refine ih (listed.setIfInBounds i true) tm' β' w' (by simpa using hsz) ?_ (fun k o' ho' hk e he hb=>?_) ?_ htm'
    ·exact Tb hlt hin hil' hcount
    ·rw[DH hlt] at hk ⊢
     split
     ·rfl
     ·split at hk
      ·rename_i hki;subst hki
       rw[h1] at ho';simp at ho';subst ho'
       exact hpre e he hb
      ·exact hcl k o' ho' hk e he hb
    ·rw[hins,hI h2];exact hrel'
 have h0:after I v ch s (fun k=>(Array.replicate ops.length false).getD k false) ops.length=s:=by
  have hf:∀k,(Array.replicate ops.length false).getD k false=false:=fun k=>by
   simp only[Array.getD_eq_getD_getElem?,Array.getElem?_replicate];split<;>rfl
  have:∀m,after I v ch s (fun k=>(Array.replicate ops.length false).getD k false) m=s:=by
   intro m
   induction m with
   |zero=>rfl
   |succ m ih =>
    simp only[after]
    rw[if_neg (by rw[hf];simp)];exact ih
  exact this _
 have hf:∀k,(Array.replicate ops.length false).getD k false=false:=fun k=>by
  simp only[Array.getD_eq_getD_getElem?,Array.getElem?_replicate];split<;>rfl
 refine main ops.length _ a.tmps β w (by simp) ?_ (fun k o ho hk=>by rw[hf] at hk;cases hk) (by rw[h0];exact h) hn
 have:((List.range ops.length).filter fun k=>!(Array.replicate ops.length false).getD k false)=List.range ops.length:=by
  rw[List.filter_eq_self];intro k _;rw[hf];rfl
 rw[this];simp
end
end Go.Pw
end
