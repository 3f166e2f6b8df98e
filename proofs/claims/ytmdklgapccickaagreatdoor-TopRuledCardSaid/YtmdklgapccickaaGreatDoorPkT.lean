/- A part of the proof. -/
import Derived.Test.YtmdklgapccickaaGreatDoorPkP
import Derived.TacticsIn
import Derived.OrdersIn
set_option linter.all false
section
namespace Go.Pw
open Go.RowKit
def put (s:Bg) (dst:Option Nat) (v:AV) (ch:B3):Bg :=
 ⟨match dst with|some t=>CO s.sl t v|none=>s.sl,s.V.app ch⟩
def El (E:CW) (I:Ew) (s:Bg) (K:AV->B3->Prop):Prop :=
 match I.g with
 |none=>ev E I.dst s.V I.op (I.xs.map (Hd.val s.sl)) K
 |some (t,b)=>match s.sl t with
  |.d (.bool b')=>HP (b == b') (ev E I.dst s.V I.op (I.xs.map (Hd.val s.sl)) K) (K (.tup []) .none)
  |.tup []=>K (.tup []) .none
  |_=>False
def rF (r:Option Nat):Fence:={ Fence.wide with round:=r }
theorem Ny (r:Option Nat):(rF r).round=r:=rfl
section
variable {E:CW}{c:D_}{β:Nat->Nat->Value}{s:Bg}{a:Act}{w:World}{K:AV->B3->Prop}
theorem Act.put_size (a:Act) (dst:Option Nat) (v:Value):(a.put dst v).tmps.size=a.tmps.size:=by
 cases dst<;>simp[Act.put]
theorem IK {tm:Array Value}{β':Nat->Nat->Value}{v:AV}{u:Value}{ch:B3}{dst:Option Nat}{w':World}(hr:Br E c β' ⟨s.sl,s.V.app ch⟩ a.tmps w') (hv:AM w' (c.bar β' (s.V.app ch)) β' (s.V.app ch).cn v u)
  (hd:∀t,dst=some t->t<a.tmps.size):Br E c β' (put s dst v ch) (a.put dst u).tmps w':=by
 cases dst with
 |none=>exact hr
 |some t=>exact hr.set (hd t rfl) hv
theorem dA {draw:Bool}{fl:List Nat}{n:Nat}{ops:List Oper}{o:Oper}{I:Ew}(h:Hz E draw fl n ops o=some I) :
  ∃sp draw' used' xs,P7 E sp draw' used' o.op=some (I.op,xs)/\Qa E xs=some I.xs/\I.dst=o.dst/\(∀t,o.dst=some t->t<n) /\
   ((o.guard=none/\I.g=none)\/∃j b t,o.guard=some (j,b)/\(ops[j]?).bind (·.dst)=some t/\t<n/\I.g=some (t,b)):=by
 unfold Hz at h
 split at h
 ·cases h
 ·rename_i op xs hop
  split at h
  ·cases h
  ·rename_i ys hys
   split at h
   ·rename_i g hdst hg
    simp at h;subst h
    refine⟨_,_,_,xs,hop,hys,rfl,fun t ht=>?_,?_⟩
    ·rw[ht] at hdst;simpa[lu] using hdst
    ·unfold dB at hg
     split at hg
     ·rename_i hgd;simp at hg;subst hg;exact .inl ⟨hgd,rfl⟩
     ·rename_i j b hgd
      split at hg
      ·rename_i t ht
       split at hg
       ·rename_i hlt;simp at hg;subst hg;exact .inr ⟨j,b,t,hgd,ht,hlt,rfl⟩
       ·cases hg
      ·cases hg
   ·cases h
theorem TN {fb β' cn}:AM w fb β' cn (.tup []) undef:=.tup [] #[] rfl (fun i c v hi=>by simp at hi)
theorem aL (h:Br E c β s a.tmps w) {t e:TypeId}{es:Nat}(ht:E.P.underlying t=some (.slice e)) (hsz:Ej E.P e=some es) (hes:0<es) {x y:AV}{u v:Value}{dst:Option Nat}
  (hx:AM w (c.bar β s.V) β s.V.cn x u) (hy:AM w (c.bar β s.V) β s.V.cn y v) (he:ev E dst s.V (.sub es) [x,y] K):GF E c s a.tmps K ((Instr.sliceAt t u (some v) none none).run E.P w):=by
 unfold ev at he
 simp only at he
 split at he
 ·rename_i o g k i heq
  simp only[List.cons.injEq,and_true] at heq;obtain⟨rfl,rfl⟩:=heq
  split at he
  ·rename_i ety es' nl l hg
   obtain⟨hnl,rfl,hi0,hil,hK⟩:=he
   subst hnl
   have hob:=AL.get_some hg
   obtain⟨hlt,ho⟩:=h.objs _ _ _ hob
   obtain⟨rfl,_⟩:=Bl hy
   obtain⟨q,hq⟩:∃q,β o g=q:=⟨_,rfl⟩
   have hux:u=q:=by cases hx with|own _ _ _ _=>exact hq
   rw[hq] at ho
   cases ho with|row _ _ _ _ _ ho =>
   rcases ho with⟨h1,_⟩|⟨_,b,off,cap,cur,h2,h3,h4,h5,h6,h7,h8,h10,h9⟩
   ·cases h1
   ·have hr:(Instr.sliceAt t u (some (.int k i)) none none).run E.P w=.ok (.slice (some (if cap=i.toNat then ⟨b,off,none⟩ else ⟨b,off+i.toNat * es,none⟩)) (l.length-i.toNat) (cap-i.toNat)) w:=by
     rw[hux,h2]
     have hle:i<=((l.length:Nat):Int):=hil
     have e1:i<=((l.length:Nat):Int)/\0<=i:=⟨hle,hi0⟩
     by_cases hc:cap=i.toNat
     ·simp[Instr.sliceAt,Instr.slice,run_underlying ht,Instr.sliceBounds,Instr.sliceBound,asIntOf,Bv hsz,hi0,hle,hc]
     ·simp[Instr.sliceAt,Instr.slice,run_underlying ht,Instr.sliceBounds,Instr.sliceBound,asIntOf,Bv hsz,hi0,hle,hc,Addr.add_lit]
    refine CF h hK hr (.mref _ _ _ _ hlt ?_ rfl)
    rw[hq,h2]
    simp only[EH]
    rw[if_pos (by omega)]
  ·exact he.elim
 ·exact he.elim
theorem aM (h:Br E c β s a.tmps w) {t e:TypeId}{es:Nat}(ht:E.P.underlying t=some (.slice e)) (hsz:Ej E.P e=some es) {x y:AV}{u v:Value}{dst:Option Nat}
  (hx:AM w (c.bar β s.V) β s.V.cn x u) (hy:AM w (c.bar β s.V) β s.V.cn y v) (he:ev E dst s.V .pre [x,y] K):GF E c s a.tmps K ((Instr.sliceAt t u none (some v) none).run E.P w):=by
 unfold ev at he
 simp only at he
 split at he
 ·rename_i o g k i heq
  simp only[List.cons.injEq,and_true] at heq;obtain⟨rfl,rfl⟩:=heq
  split at he
  ·rename_i ety es' nl l hg
   obtain⟨hnl,hi0,hil,hK⟩:=he
   subst hnl
   have hob:=AL.get_some hg
   obtain⟨hlt,ho⟩:=h.objs _ _ _ hob
   obtain⟨rfl,_⟩:=Bl hy
   obtain⟨q,hq⟩:∃q,β o g=q:=⟨_,rfl⟩
   have hux:u=q:=by cases hx with|own _ _ _ _=>exact hq
   rw[hq] at ho
   cases ho with|row _ _ _ _ _ ho =>
   rcases ho with⟨h1,_⟩|⟨_,b,off,cap,cur,h2,h3,h4,h5,h6,h7,h8,h10,h9⟩
   ·cases h1
   ·have hr:(Instr.sliceAt t u none (some (.int k i)) none).run E.P w=.ok (.slice (some ⟨b,off,none⟩) i.toNat cap) w:=by
     rw[hux,h2]
     have hle:i<=((cap:Nat):Int):=by omega
     by_cases hc:cap=0
     ·simp[Instr.sliceAt,Instr.slice,run_underlying ht,Instr.sliceBounds,Instr.sliceBound,asIntOf,Bv hsz,hi0,hle,hc,Addr.add_lit]
      omega
     ·simp[Instr.sliceAt,Instr.slice,run_underlying ht,Instr.sliceBounds,Instr.sliceBound,asIntOf,Bv hsz,hi0,hle,hc,Addr.add_lit]
    refine CF h hK hr (.mref _ _ _ _ hlt ?_ rfl)
    rw[hq,h2]
    simp only[EH]
    rw[if_pos (by omega)]
  ·exact he.elim
 ·exact he.elim
theorem bB (h:Br E c β s a.tmps w) {sp draw used:Bool}{o:Oper}{iop:Bw}{ops:List Operand}{xs:List AV}(hd:P7 E sp draw used o.op=some (iop,ops))
  (hxs:DL (AM w (c.bar β s.V) β s.V.cn) xs (ops.map a.eval)) (he:ev E o.dst s.V iop xs K):XN E c s a.tmps K ((execOp a.eval o).run E.P w):=by
 cases sp with
 |false=>exact fH h (by simpa[P7] using hd) hxs he
 |true =>
  simp only[P7,if_true] at hd
  obtain⟨dst,op,ty,pos,after,guard⟩:=o
  simp only at he hd
  unfold Y2 at hd
  split at hd<;>try (cases hd;done)
  ·rename_i t
   split at hd<;>try (cases hd;done)
   rename_i kt e hu
   cases hk:Ch E.P kt with
   |none=>simp[hk] at hd
   |some tys =>
    simp[hk] at hd;obtain⟨rfl,rfl⟩:=hd
    have:xs=[]:=List.eq_nil_of_length_eq_zero (by have:=hxs.1;simpa using this.symm)
    subst this
    cases dst with
    |none=>simp[ev] at he
    |some t=>exact CS (Ud h he)
  ·rename_i t x lo
   split at hd<;>try (cases hd;done)
   rename_i e hu
   split at hd<;>try (cases hd;done)
   rename_i es hsz
   split at hd<;>try (cases hd;done)
   rename_i hes
   simp at hd;obtain⟨rfl,rfl⟩:=hd
   cases xs with
   |nil=>exact absurd hxs.1 (by simp)
   |cons ax ys =>
    cases ys with
    |nil=>exact absurd hxs.1 (by simp)
    |cons ay zs =>
     cases zs with
     |cons _ _=>exact absurd hxs.1 (by simp)
     |nil =>
      obtain⟨u,v,hu',h1,h2⟩:=Ln hxs
      simp at hu';obtain⟨rfl,rfl⟩:=hu'
      exact CS (aL h hu hsz hes h1 h2 he)
  ·rename_i t x hi
   split at hd<;>try (cases hd;done)
   rename_i e hu
   split at hd<;>try (cases hd;done)
   rename_i es hsz
   simp at hd;obtain⟨rfl,rfl⟩:=hd
   cases xs with
   |nil=>exact absurd hxs.1 (by simp)
   |cons ax ys =>
    cases ys with
    |nil=>exact absurd hxs.1 (by simp)
    |cons ay zs =>
     cases zs with
     |cons _ _=>exact absurd hxs.1 (by simp)
     |nil =>
      obtain⟨u,v,hu',h1,h2⟩:=Ln hxs
      simp at hu';obtain⟨rfl,rfl⟩:=hu'
      exact CS (aM h hu hsz h1 h2 he)
theorem Hh (r:Option Nat) (m:Nat) (h:Br E c β s a.tmps w) {draw:Bool}{fl:List Nat}{n:Nat}{ops:List Oper}{o:Oper}{I:Ew}(hd:Hz E draw fl n ops o=some I) (hn:a.tmps.size=n) (he:El E I s K) {Kc:Act->World->Prop}{Q:Exit->Act->World->Prop}
  (hK:∀v ch β' tm' w',K v ch->Br E c β' (put s I.dst v ch) tm' w'->tm'.size=n->Kc ⟨tm',a.defers⟩ w') :
  if Region.wanted o (yielded ops.toArray a.tmps) then o.wpIn (rF r) m E.P a w Kc Q else (∀f,o.about E.P w a.eval=some f->(rF r).fn f)/\Kc (a.put o.dst undef) w:=by
 obtain⟨sp,draw',used',xs,hop,hos,hdst,hlt,hg⟩:=dA hd
 have hput:∀u,a.put o.dst u=⟨(a.put o.dst u).tmps,a.defers⟩:=fun u=>by cases o.dst<;>rfl
 have hlt':∀t,o.dst=some t->t<a.tmps.size:=fun t ht=>by rw[hn];exact hlt t ht
 have hnd:∀cc,o.op≠.defer cc:=fun cc hcc=>by rw[hcc] at hop;cases sp<;>simp[P7,Zu,Y2] at hop
 have run:ev E o.dst s.V I.op (I.xs.map (Hd.val s.sl)) K->o.wpIn (rF r) m E.P a w Kc Q:=by
  intro he
  refine⟨fun _ _=>trivial,?_⟩
  rw[Ny,Oper.semAt_eq r a.eval o hnd]
  have hgot:=bB (o:=o) h hop (P6 h hos) he
  rcases hgot with⟨u,w',v,ch,β',hr,hk,hrel,hv⟩|⟨f,args,w',hr,hc⟩
  ·rcases hr with hr|⟨hr,rfl⟩
   ·rw[hr,Oper.uponIn_value,hput]
    exact hK v ch β' _ w' hk (by rw[hdst];exact IK (tm:=a.tmps) hrel hv hlt') (by rw[Act.put_size];exact hn)
   ·rw[hr,Oper.uponIn_skip,hput]
    exact hK .undef ch β' _ w' hk (by rw[hdst];exact IK (tm:=a.tmps) hrel (.undef _) hlt') (by rw[Act.put_size];exact hn)
  ·rw[hr,Oper.uponIn_enter]
   refine⟨fun h=>by simp[rF,Fence.wide] at h,?_⟩
   show CallsIn Fence.wide (m-1) E.P f args w' _
   refine callsIn_wide.2 (hc.mono fun e w'' ⟨u,v,ch,β',he,hk,hrel,hv⟩=>?_)
   subst he
   simp only
   rw[hput]
   exact hK v ch β' _ w'' hk (by rw[hdst];exact IK (tm:=a.tmps) hrel hv hlt') (by rw[Act.put_size];exact hn)
 have skip:K (.tup []) .none->Kc (a.put o.dst undef) w:=by
  intro hk
  rw[hput]
  exact hK _ .none β _ w hk (by rw[hdst];exact IK (tm:=a.tmps) (ch:=.none) h TN hlt') (by rw[Act.put_size];exact hn)
 unfold El at he
 rcases hg with⟨hg,hI⟩|⟨j,b,t,hg,ht,htn,hI⟩
 ·rw[hI] at he
  simp only[hdst] at he
  have:Region.wanted o (yielded ops.toArray a.tmps)=true:=by simp[Region.wanted,hg]
  rw[if_pos this]
  exact run he
 ·rw[hI] at he
  simp only[hdst] at he
  have hs:=h.slots t
  have hget:a.tmps[t]?=some (a.tmps.getD t undef):=by
   have:t<a.tmps.size:=by rw[hn];exact htn
   simp[Array.getD_eq_getD_getElem?,this]
  have hy:yielded ops.toArray a.tmps j=match a.tmps.getD t undef with|.bool b=>some b|_=>none:=by
   unfold yielded
   simp only[List.getElem?_toArray,ht,Option.bind_some,hget]
   generalize a.tmps.getD t undef=x
   cases x<;>rfl
  have hw:Region.wanted o (yielded ops.toArray a.tmps)=(yielded ops.toArray a.tmps j == some b):=by simp[Region.wanted,hg]
  split at he
  ·rename_i b' hsl
   rw[hsl] at hs
   rw[hw,hy,Hj hs]
   cases b<;>cases b'<;>simp at he ⊢
   all_goals first|exact run he|exact⟨fun _ _=>trivial,skip he⟩
  ·rename_i hsl
   rw[hsl] at hs
   have hu:a.tmps.getD t undef=.tuple #[]:=by
    generalize a.tmps.getD t undef=x at hs
    cases hs with
    |tup _ vs hl _=>simp at hl;rw[hl]
   rw[hw,hy,hu]
   simp
   exact⟨fun _ _=>trivial,skip he⟩
  ·exact he.elim
end
end Go.Pw
end
section
namespace Go.Pw
inductive oa where
 |none|read|all
def Bw.foot:Bw->oa
 |.mov|.pick|.bin _|.beq _|.eqv ..|.un _|.conv _|.nilck|.field ..|.faddr _|.iaddrA ..|.index ..|.strx _|.build ..|.mkrow ..|.mkfn _|.mkbnd _|.minmax _|.extract _|.cap=>.none
 |.eqnil _|.load ..|.iaddrS _|.len _|.lookup ..|.sub _|.pre=>.read
 |_=>.all
def Bw.isCall:Bw->Bool
 |.call _|.callv|.mentry=>true
 |_=>false
def fp (V:AL) (dst:Option Nat) (op:Bw) (xs:List AV):List Nat :=
 match op.foot with
 |.none=>[]
 |.read=>AV.sites.sitesL xs
 |.all=>if op.isCall then Dd dst V xs else dst.toList++AV.sites.sitesL xs
def K6 (V:AL) (dst:Option Nat) (op:Bw) (xs:List AV):List Nat :=
 match op.foot with
 |.all=>if op.isCall then Dd dst V xs else dst.toList++AV.sites.sitesL xs
 |_=>[]
theorem dp {V:AL}{dst:Option Nat}{op:Bw}{xs:List AV}{o:Nat}(h:o∈K6 V dst op xs):o∈fp V dst op xs:=by
 unfold K6 at h;unfold fp
 split at h
 ·simp_all
 ·cases h
def B3.site:B3->List Nat
 |.none=>[]
 |.keep o _ _=>[o]
 |.fresh o _=>[o]
 |.seq a b=>a.site++b.site
def DU (F:List Nat) (V V':AL):Prop:=∀o,o∈F->V'.ob o=V.ob o/\V'.cn o=V.cn o
theorem DU.get {F:List Nat}{V V':AL}(h:DU F V V') {o g:Nat}(ho:o∈F):V'.get o g=V.get o g:=by
 simp only[AL.get,(h o ho).1]
theorem J9 {F:List Nat}{V V':AL}(h:DU F V V') {x:AV}(hx:∀o,o∈x.sites->o∈F):x.asList V'=x.asList V:=by
 cases x with
 |own o g=>simp only[AV.asList,h.get (hx o (by simp[AV.sites]))]
 |mref k o g=>cases k<;>first|rfl|simp only[AV.asList,h.get (hx o (by simp[AV.sites]))]
 |d x=>cases x<;>rfl
 |_=>rfl
theorem YP {F:List Nat}{V V':AL}(h:DU F V V') {x:AV}(hx:∀o,o∈x.sites->o∈F):x.lenL V'=x.lenL V:=by
 unfold AV.lenL;split
 ·rfl
 ·rename_i o g;rw[h.get (hx o (by simp[AV.sites]))]
 ·rw[J9 h hx]
theorem Oy {F:List Nat}{V V':AL}(h:DU F V V') {z:Option D}{x:AV}(hx:∀o,o∈x.sites->o∈F):EU V' z x=EU V z x:=by
 cases z with
 |none=>simp only[EU];split<;>simp_all[J9 h hx]
 |some z=>rfl
theorem IH {F:List Nat}{V V':AL}(h:DU F V V') {x:AV}(hx:∀o,o∈x.sites->o∈F):x.snap0 V'=x.snap0 V:=by
 cases x with
 |own o g=>simp only[AV.snap0,h.get (hx o (by simp[AV.sites]))]
 |ptr o g off =>
  have:=h.get (g:=g) (hx o (by simp[AV.sites]))
  cases off with
  |zero=>simp only[AV.snap0,this]
  |succ n=>rfl
 |mref k o g=>cases k<;>first|rfl|simp only[AV.snap0,h.get (hx o (by simp[AV.sites]))]
 |map o g=>simp only[AV.snap0,h.get (hx o (by simp[AV.sites]))]
 |_=>rfl
theorem F9 {α γ:Type}{f g:α->Option γ}:∀{l:List α},(∀x,x∈l->f x=g x)->BV f l=BV g l
 |[],_=>rfl
 |x::l,h=>by simp only[BV,h x (by simp),F9 (l:=l) fun y hy=>h y (by simp[hy])]
theorem Rp {F:List Nat}{V V':AL}(h:DU F V V') {x:AV}(hx:∀o,o∈x.sites->o∈F):x.snap V'=x.snap V:=by
 cases x with
 |agg cs=>simp only[AV.snap];rw[F9 fun y hy=>IH h fun o ho=>hx o (by simp only[AV.sites];exact Er hy ho)]
 |fn f cs=>simp only[AV.snap];rw[F9 fun y hy=>IH h fun o ho=>hx o (by simp only[AV.sites];exact Er hy ho)]
 |bnd f cs=>simp only[AV.snap];rw[F9 fun y hy=>IH h fun o ho=>hx o (by simp only[AV.sites];exact Er hy ho)]
 |_=>exact IH h hx
theorem Gm (xs ys:List AV):AV.sites.sitesL (xs++ys)=AV.sites.sitesL xs++AV.sites.sitesL ys:=by
 induction xs with
 |nil=>rfl
 |cons x xs ih=>simp only[List.cons_append,AV.sites.sitesL,ih,List.append_assoc]
theorem V3 (cs:List D):AV.sites.sitesL (cs.map .d)=[]:=by
 induction cs with
 |nil=>rfl
 |cons x xs ih=>simp only[List.map_cons,AV.sites.sitesL,AV.sites,ih,List.append_nil]
variable {E:CW}{dst:Option Nat}{V:AL}{K:AV->B3->Prop}
def rc (W F:List Nat) (V:AL) (G:AL->(AV->B3->Prop)->Prop) (K:AV->B3->Prop):Prop :=
 ∃v ch,K v ch/\(∀o,o∈ch.site->o∈W)/\∀V' K',DU F V V'->K' v ch->G V' K'
theorem Uu {F:List Nat}{V V':AL}(h:DU F V V') {o:Nat}(ho:o∈F):V'.osites o=V.osites o:=by
 simp only[AL.osites,(h o ho).1]
theorem PV {V:AL}:∀{n:Nat}{l:List Nat}{o:Nat},o∈l->o∈V.reach n l
 |0,_,_,h=>h
 |n+1,_,_,h=>List.mem_append_left _ h
theorem QO {V V':AL}:∀{n:Nat}{l:List Nat},DU (V.reach n l) V V'->V'.reach n l=V.reach n l
 |0,_,_=>rfl
 |n+1,l,h=>by
  simp only[AL.reach] at h ⊢
  have e:l.flatMap V'.osites=l.flatMap V.osites:=by
   have:∀m:List Nat,(∀o,o∈m->o∈l)->m.flatMap V'.osites=m.flatMap V.osites:=by
    intro m
    induction m with
    |nil=>intro _;rfl
    |cons x m ih =>
     intro hm
     rw[List.flatMap_cons,List.flatMap_cons,ih fun o ho=>hm o (List.mem_cons_of_mem _ ho),Uu h (List.mem_append_left _ (hm x (by simp)))]
   exact this l fun _ h=>h
  rw[e,QO (V:=V) (V':=V') (n:=n) fun o ho=>h o (List.mem_append_right _ ho)]
theorem Vz {F:List Nat}{V V':AL}(h:DU F V V') {x:AV}(hx:∀o,o∈x.sites->o∈F):x.snapC V'=x.snapC V:=by
 cases x with
 |own o g=>simp only[AV.snapC,h.get (hx o (by simp[AV.sites]))]
 |map o g=>simp only[AV.snapC,h.get (hx o (by simp[AV.sites]))]
 |_=>rfl
theorem Vy {F:List Nat}{V V':AL}(h:DU F V V') {x:AV}(hx:∀o,o∈V.reach 1 x.sites->o∈F):x.snapN V'=x.snapN V:=by
 have hs:∀o,o∈x.sites->o∈F:=fun o ho=>hx o (PV ho)
 cases x with
 |ptr o g off =>
  cases off with
  |zero =>
   have:=h.get (g:=g) (hs o (by simp[AV.sites]))
   simp only[AV.snapN,this]
   cases hv:V.get o g with
   |none=>rfl
   |some y =>
    cases y with
    |cells xs =>
     simp only
     rw[F9 fun z hz=>Vz h fun q hq=>hx q ?_]
     have hob:=AL.get_some hv
     simp only[AL.reach,AV.sites,List.mem_append,List.flatMap_cons,List.flatMap_nil,List.append_nil]
     refine .inr ?_
     simp only[AL.osites,hob]
     exact Er hz hq
    |_=>rfl
  |succ n=>exact Rp h hs
 |_=>exact Rp h hs
theorem LG {V:AL}:∀{n:Nat}{l:List Nat}{o:Nat},o∈V.reach n l->o∈V.reach (n+1) l
 |0,_,_,h=>PV h
 |n+1,l,o,h=>by
  rw[AL.reach,List.mem_append] at h ⊢
  exact h.imp id LG
theorem NI {V:AL}:∀{n:Nat}{l m:List Nat},(∀o,o∈l->o∈m)->∀o,o∈V.reach n l->o∈V.reach n m
 |0,_,_,h,o,ho=>h o ho
 |n+1,l,m,h,o,ho=>by
  simp only[AL.reach,List.mem_append] at ho ⊢
  rcases ho with ho|ho
  ·exact .inl (h o ho)
  ·refine .inr (NI (V:=V) (fun q hq=>?_) o ho)
   rw[List.mem_flatMap] at hq ⊢
   obtain⟨z,hz,hq⟩:=hq
   exact⟨z,h z hz,hq⟩
theorem Qe {dst:Option Nat}{V V':AL}{xs:List AV}(h:DU (Dd dst V xs) V V'):Dd dst V' xs=Dd dst V xs:=by
 simp only[Dd] at h ⊢
 rw[QO (V:=V) (V':=V') fun o ho=>h o (List.mem_append_right _ ho)]
theorem dM {t:Nat}{V:AL}{xs:List AV}:t∈Dd (some t) V xs:=by simp[Dd,S0]
theorem UA {t u:Nat}{V:AL}{xs:List AV}(h:u∈S0 t):u∈Dd (some t) V xs:=by simp only[Dd];exact List.mem_append_left _ h
theorem Qd {dst:Option Nat}{V:AL}{xs:List AV}{o:Nat}(h:o∈AV.sites.sitesL xs):o∈Dd dst V xs:=by simp only[Dd];exact List.mem_append_right _ (PV h)
theorem Qf {F:List Nat}{V V':AL}(h:DU F V V') {xs:List AV}(hx:∀o,o∈Dd dst V xs->o∈F):Sg V' xs=Sg V xs :=
 F9 fun y hy=>Vy h fun o ho=>hx o (by
  simp only[Dd]
  exact List.mem_append_right _ (LG (LG (NI (fun q hq=>Er hy hq) o ho))))
theorem J6 {dst:Option Nat}{V:AL}{xs ys:List AV}(h:∀o,o∈AV.sites.sitesL xs->o∈AV.sites.sitesL ys):∀o,o∈Dd dst V xs->o∈Dd dst V ys:=by
 intro o ho
 simp only[Dd,List.mem_append] at ho ⊢
 exact ho.imp id (NI h o)
theorem OD {V V':AL}{F F':List Nat}{ρ:Ren}(hF:∀o,o∈F->o∈F') (h:∀o,o∈F->V'.ob o=V.ob o):∀{V0:List (Nat×Nat×AW)},Handed V F ρ V0->Handed V' F' ρ V0
 |[],_=>trivial
 |(o,g,x)::l,hh=>by
  simp only[Handed] at hh ⊢
  refine⟨?_,OD hF h hh.2⟩
  have h1:=hh.1
  split at h1
  ·rename_i q y hq hy
   have hin:q.1∈F:=by simpa using h1.2
   exact⟨by simp only[AL.get,h q.1 hin];exact h1.1,by simpa using hF q.1 hin⟩
  ·exact h1.elim
theorem S1 {cn cn':Nat->Nat}{dst:Option Nat}{V0 V1:List (Nat×Nat×AW)}{ρ ρ2:Ren}(h:∀t,dst=some t->∀o,o∈S0 t->cn' o=cn o) (hg:∀o g q,ρ.get o g=some q->cn' q.1=cn q.1) (hn:Gp cn dst V0 V1 ρ ρ2=true):Gp cn' dst V0 V1 ρ ρ2=true:=by
 simp only[Gp,Bool.and_eq_true,List.all_eq_true] at hn ⊢
 refine⟨⟨⟨⟨hn.1.1.1.1,fun e he=>?_⟩,hn.1.1.2⟩,hn.1.2⟩,hn.2⟩
 have:=hn.1.1.1.2 e he
 refine⟨this.1,?_⟩
 have h2:=this.2
 cases hρ:ρ.get e.1.1 e.1.2 with
 |some q=>rfl
 |none =>
  simp only[hρ,Bool.and_eq_true,Bool.or_eq_true] at h2 ⊢
  refine⟨⟨h2.1.1,?_⟩,h2.2⟩
  have e1:cn' e.2.1=cn e.2.1:=by
   rcases h2.2 with h3|h3
   ·cases dst with
    |none=>simp at h3
    |some t=>exact h t rfl _ (by simpa using h3)
   ·obtain⟨o0,g0,q0,h4,h5⟩:=OG h3
    rw[←h5];exact hg _ _ _ h4
  rw[e1];exact h2.1.2
theorem Sd {ρ ρ2:Ren}:∀{V1:List (Nat×Nat×AW)}{ch:B3},Ki ρ ρ2 V1=some ch->∀o',o'∈ch.site->∃o g x q,(o,g,x)∈V1/\ρ2.get o g=some q/\q.1=o'
 |[],ch,h,o',ho'=>by simp[Ki] at h;subst h;simp[B3.site] at ho'
 |(o,g,x)::l,ch,h,o',ho'=>by
  simp only[Ki] at h
  split at h
  ·rename_i q y cl hq hy hcl
   simp at h;subst h
   simp only[B3.site,List.mem_append] at ho'
   rcases ho' with ho'|ho'
   ·refine⟨o,g,x,q,by simp,hq,?_⟩
    split at ho'<;>simp[B3.site] at ho'<;>exact ho'.symm
   ·obtain⟨o1,g1,x1,q1,h1,h2,h3⟩:=Sd hcl o' ho'
    exact⟨o1,g1,x1,q1,List.mem_cons_of_mem _ h1,h2,h3⟩
  ·cases h
theorem Hv {f:FuncId}{xs:List AV}{F:List Nat}(hF:∀o,o∈Dd dst V xs->o∈F) (h:Dk E dst V f xs K):rc F F V (fun V' K'=>Dk E dst V' f xs K') K:=by
 have hd:∀t,dst=some t->t∈F:=fun t ht=>hF t (by subst ht;exact dM)
 have hx:∀o,o∈AV.sites.sitesL xs->o∈F:=fun o ho=>hF o (Qd ho)
 rcases h with⟨ds,r,h1,h2,hK⟩|⟨ds,r,h1,h2,h3,hK⟩|⟨ds,t,ety,es,P,x,h1,hl,h2,h3,h4,hK⟩|⟨V0,cxs,V1,r,r',ch,ρ,ρ2,hren,hcall,hhand,hnm,hr,hback,hK⟩|⟨o,g,ety,es,nl,l,ds,r,hget,hlim,hcf,hd',hret,hK⟩
 ·exact⟨_,_,hK,by simp[B3.site],fun V' K' _ hk=>.inl ⟨ds,r,h1,h2,hk⟩⟩
 ·exact⟨_,_,hK,by simp[B3.site],fun V' K' ha hk=>.inr (.inl ⟨ds,r,by rw[Qf ha hF];exact h1,h2,h3,hk⟩)⟩
 ·refine⟨_,_,hK,fun o ho=>by simp[B3.site] at ho;subst ho;exact hd _ h1,fun V' K' ha hk=>.inr (.inr (.inl ⟨ds,t,ety,es,P,x,h1,hl,?_,h3,h4,?_⟩))⟩
  ·rw[Qf ha hF];exact h2
  ·rw[(ha t (hd _ h1)).2];exact hk
 ·have N:=WO hnm
  have hin:∀o g q,ρ.get o g=some q->q.1∈Dd dst V xs:=fun o g q hro=>by
   obtain⟨x0,hm0⟩:=(N.n1 _ _ _ hro).2.1
   obtain⟨q2,y2,k1,_,_,k4⟩:=LY hhand o g x0 hm0
   rw[hro] at k1;simp at k1;subst k1
   exact k4
  refine⟨_,_,hK,fun o' ho'=>?_,fun V' K' ha hk=>.inr (.inr (.inr (.inl ⟨V0,cxs,V1,r,r',ch,ρ,ρ2,hren,hcall,?_,?_,hr,hback,hk⟩)))⟩
  ·obtain⟨o,g,x,q,hm,hq,he⟩:=Sd hback o' ho'
   subst he
   cases hro:ρ.get o g with
   |some q' =>
    obtain⟨_,rfl⟩:=N.both hro hq
    exact hF _ (hin _ _ _ hro)
   |none =>
    rcases ((N.n2 _ _ _ hq).2 hro).2.2 with⟨t,ht,k1⟩|⟨o0,g0,q0,k1,k2⟩
    ·subst ht
     exact hF _ (UA k1)
    ·rw[←k2];exact hF _ (hin _ _ _ k1)
  ·have hag:DU (Dd dst V xs) V V':=fun o ho=>ha o (hF o ho)
   exact OD (fun o ho=>by rw[Qe hag];exact ho) (fun o ho=>(hag o ho).1) hhand
  ·exact S1 (fun t ht o ho=>by subst ht;exact(ha o (hF o (UA ho))).2) (fun o g q hq=>(ha q.1 (hF _ (hin _ _ _ hq))).2) hnm
 ·have hoF:o∈Dd dst V xs:=by simpa using hcf
  refine⟨_,_,hK,fun o' ho'=>by simp[B3.site] at ho';subst ho';exact hF _ hoF,fun V' K' ha hk=>.inr (.inr (.inr (.inr ⟨o,g,ety,es,nl,l,ds,r,?_,hlim,?_,hd',hret,hk⟩)))⟩
  ·unfold AL.get at hget ⊢;rw[(ha o (hF o hoF)).1];exact hget
  ·have hag:DU (Dd dst V xs) V V':=fun o ho=>ha o (hF o ho)
   rw[Qe hag];exact hcf
theorem Ef {α:Type}{ag:Bool}{n off:Nat}{cs:List α}{mk:List α->AV}{one:α->AV}(h:Cb ag n cs off mk one (K · .none)) :
  ∃v,K v .none/\∀K':AV->B3->Prop,K' v .none->Cb ag n cs off mk one (K' · .none):=by
 cases ag with
 |true =>
  simp only[Cb,if_true] at *
  exact⟨_,h.2,fun K' hk=>⟨h.1,hk⟩⟩
 |false =>
  simp only[Cb,Bool.false_eq_true,if_false] at *
  cases hc:cs[off]? with
  |none=>simp[hc] at h
  |some v=>simp only[hc] at h ⊢;exact⟨_,h,fun K' hk=>hk⟩
theorem k_ {op:BinOp}{k k':IntKind}{a b:Int}(h:D7 op k k' a b (K · .none)):∃v,K v .none/\∀K':AV->B3->Prop,K' v .none->D7 op k k' a b (K' · .none):=by
 cases op<;>simp only[D7] at h ⊢<;>first
  |exact⟨_,h.2.2,fun K' hk=>⟨h.1,h.2.1,hk⟩⟩
  |exact⟨_,h.2,fun K' hk=>⟨h.1,hk⟩⟩
theorem Uo {lo hi:Bool}{len:Nat}{rest:List AV}{C:Nat->Nat->Prop}(h:MV lo hi len rest C):∃a b,C a b/\∀C':Nat->Nat->Prop,C' a b->MV lo hi len rest C':=by
 cases lo<;>cases hi<;>simp only[MV,if_true,if_false,Bool.false_eq_true] at h ⊢
 ·split at h
  ·exact⟨_,_,h,fun C' hc=>hc⟩
  ·exact h.elim
 ·split at h
  ·exact⟨_,_,h.2.2,fun C' hc=>⟨h.1,h.2.1,hc⟩⟩
  ·exact h.elim
 ·split at h
  ·exact⟨_,_,h.2.2,fun C' hc=>⟨h.1,h.2.1,hc⟩⟩
  ·exact h.elim
 ·split at h
  ·exact⟨_,_,h.2.2.2,fun C' hc=>⟨h.1,h.2.1,h.2.2.1,hc⟩⟩
  ·exact h.elim
theorem BT {W F:List Nat}{G:AL->(AV->B3->Prop)->Prop}(h:∃v,K v .none/\∀V' K',K' v .none->G V' K'):rc W F V G K:=by
 obtain⟨v,h1,h2⟩:=h
 exact⟨v,.none,h1,by simp[B3.site],fun V' K' _ hk=>h2 V' K' hk⟩
theorem gS {op:Bw}{xs:List AV}(h:ev E dst V op xs K):rc (K6 V dst op xs) (fp V dst op xs) V (fun V' K'=>ev E dst V' op xs K') K:=by
 have sin:∀{x:AV}{o:Nat}{ys:List AV},o∈x.sites->o∈AV.sites.sitesL (x::ys):=fun {x o ys} h=>by simp only[AV.sites.sitesL,List.mem_append];exact .inl h
 cases op with
 |mov =>
  unfold ev at h;simp only at h;split at h
  ·exact BT ⟨_,h,fun V' K' hk=>by unfold ev;exact hk⟩
  ·exact h.elim
 |pick =>
  unfold ev at h;simp only at h;split at h
  ·rename_i c a b
   cases c
   ·simp at h;exact BT ⟨_,h,fun V' K' hk=>by unfold ev;simpa using hk⟩
   ·simp at h;exact BT ⟨_,h,fun V' K' hk=>by unfold ev;simpa using hk⟩
  ·exact h.elim
 |bin b =>
  unfold ev at h;simp only at h;split at h
  ·obtain⟨v,h1,h2⟩:=k_ h
   exact BT ⟨v,h1,fun V' K' hk=>by unfold ev;exact h2 K' hk⟩
  ·exact h.elim
 |beq neg =>
  unfold ev at h;simp only at h;split at h
  ·exact BT ⟨_,h,fun V' K' hk=>by unfold ev;exact hk⟩
  ·exact h.elim
 |eqv neg tys =>
  unfold ev at h;simp only at h;split at h
  ·rename_i x y
   split at h
   ·rename_i a b ha hb
    exact BT ⟨_,h.2.2,fun V' K' hk=>by unfold ev;simp only[ha,hb];exact⟨h.1,h.2.1,hk⟩⟩
   ·exact h.elim
  ·exact h.elim
 |eqnil neg =>
  unfold ev at h;simp only at h;split at h
  ·rename_i x
   split at h
   ·rename_i nl l hl
    refine⟨_,_,h,by simp[B3.site],fun V' K' ha hk=>?_⟩
    unfold ev;simp only
    rw[J9 ha fun o ho=>by simp only[fp,Bw.foot,Bw.isCall];exact sin ho,hl];exact hk
   ·exact h.elim
  ·exact h.elim
 |un u =>
  unfold ev at h;simp only at h;split at h
  ·exact BT ⟨_,h,fun V' K' hk=>by unfold ev;exact hk⟩
  ·exact BT ⟨_,h,fun V' K' hk=>by unfold ev;exact hk⟩
  ·exact BT ⟨_,h,fun V' K' hk=>by unfold ev;exact hk⟩
  ·exact h.elim
 |conv k =>
  unfold ev at h;simp only at h;split at h
  ·exact BT ⟨_,h,fun V' K' hk=>by unfold ev;exact hk⟩
  ·exact h.elim
 |load ag n =>
  unfold ev at h;simp only at h;split at h
  ·rename_i o g off
   split at h
   ·rename_i cs hg
    obtain⟨v,h1,h2⟩:=Ef h
    refine⟨v,.none,h1,by simp[B3.site],fun V' K' ha hk=>?_⟩
    unfold ev;simp only
    rw[ha.get (by simp[fp,Bw.foot,Bw.isCall,AV.sites.sitesL,AV.sites]),hg];exact h2 K' hk
   ·exact h.elim
  ·rename_i o g es i off
   split at h
   ·rename_i ety es' nl l hg
    obtain⟨he,h⟩:=h
    split at h
    ·rename_i x hx
     obtain⟨v,h1,h2⟩:=Ef h
     refine⟨v,.none,h1,by simp[B3.site],fun V' K' ha hk=>?_⟩
     unfold ev;simp only
     rw[ha.get (by simp[fp,Bw.foot,Bw.isCall,AV.sites.sitesL,AV.sites]),hg]
     simp only[hx]
     exact⟨he,h2 K' hk⟩
    ·exact h.elim
   ·rename_i ety l k q p hg
    obtain⟨he,hA,hB⟩:=h
    have hsb:o∈fp V dst (.load ag n) [.rptr o g es i off]:=by simp[fp,Bw.foot,Bw.isCall,AV.sites.sitesL,AV.sites]
    by_cases hik:i=k
    ·obtain⟨v,h1,h2⟩:=Ef (hA hik)
     refine⟨v,.none,h1,by simp[B3.site],fun V' K' ha hk=>?_⟩
     unfold ev;simp only
     rw[ha.get hsb,hg]
     exact⟨he,fun _=>h2 K' hk,fun hn=>absurd hik hn⟩
    ·have hB:=hB hik
     split at hB
     ·rename_i x hx
      obtain⟨v,h1,h2⟩:=Ef hB
      refine⟨v,.none,h1,by simp[B3.site],fun V' K' ha hk=>?_⟩
      unfold ev;simp only
      rw[ha.get hsb,hg]
      simp only[hx]
      exact⟨he,fun hn=>absurd hn hik,fun _=>h2 K' hk⟩
     ·exact hB.elim
   ·exact h.elim
  ·obtain⟨v,h1,h2⟩:=Ef h
   exact BT ⟨v,h1,fun V' K' hk=>by unfold ev;exact h2 K' hk⟩
  ·obtain⟨v,h1,h2⟩:=Ef h
   exact BT ⟨v,h1,fun V' K' hk=>by unfold ev;exact h2 K' hk⟩
  ·rename_i i o g
   have hsb:o∈fp V dst (.load ag n) [.mref (.xp i) o g]:=by simp[fp,Bw.foot,Bw.isCall,AV.sites.sitesL,AV.sites]
   split at h
   ·rename_i e1 e2 nl ix rows hg
    split at h
    ·rename_i j hj
     obtain⟨v,h1,h2⟩:=Ef h
     refine⟨v,.none,h1,by simp[B3.site],fun V' K' ha hk=>?_⟩
     unfold ev;simp only
     rw[ha.get hsb,hg]
     simp only[hj]
     exact h2 K' hk
    ·exact h.elim
   ·exact h.elim
  ·rename_i j k o g
   have hsb:o∈fp V dst (.load ag n) [.mref (.mp j k) o g]:=by simp[fp,Bw.foot,Bw.isCall,AV.sites.sitesL,AV.sites]
   split at h
   ·rename_i e1 e2 nl ix rows hg
    split at h
    ·rename_i x hx
     split at h
     ·rename_i y hy
      obtain⟨v,h1,h2⟩:=Ef h
      refine⟨v,.none,h1,by simp[B3.site],fun V' K' ha hk=>?_⟩
      unfold ev;simp only
      rw[ha.get hsb,hg]
      simp only[hx,hy]
      exact h2 K' hk
     ·exact h.elim
    ·exact h.elim
   ·exact h.elim
  ·obtain⟨v,h1,h2⟩:=Ef h
   exact BT ⟨v,h1,fun V' K' hk=>by unfold ev;exact h2 K' hk⟩
  ·exact h.elim
 |store n =>
  unfold ev at h;simp only at h;split at h
  ·rename_i o g off v
   split at h
   ·rename_i cs vs hg hv
    refine⟨_,_,h.2.2,by simp[B3.site,K6,Bw.foot,Bw.isCall,AV.sites.sitesL,AV.sites],fun V' K' ha hk=>?_⟩
    unfold ev;simp only
    rw[ha.get (by simp[fp,Bw.foot,Bw.isCall,AV.sites.sitesL,AV.sites]),hg]
    simp only[hv]
    exact⟨h.1,h.2.1,hk⟩
   ·exact h.elim
  ·rename_i o g es0 i off q p
   have hsb:o∈fp V dst (.store n) [.rptr o g es0 i off,.own q p]:=by simp[fp,Bw.foot,Bw.isCall,AV.sites.sitesL,AV.sites]
   split at h
   ·rename_i ety es nl l hg
    refine⟨_,_,h.2.2.2.2.2.2,by simp[B3.site,K6,Bw.foot,Bw.isCall,AV.sites.sitesL,AV.sites],fun V' K' ha hk=>?_⟩
    unfold ev;simp only
    rw[ha.get hsb,hg]
    exact⟨h.1,h.2.1,h.2.2.1,h.2.2.2.1,h.2.2.2.2.1,h.2.2.2.2.2.1,hk⟩
   ·rename_i ety l k q1 p1 hg
    refine⟨_,_,h.2.2.2.2,by simp[B3.site,K6,Bw.foot,Bw.isCall,AV.sites.sitesL,AV.sites],fun V' K' ha hk=>?_⟩
    unfold ev;simp only
    rw[ha.get hsb,hg]
    exact⟨h.1,h.2.1,h.2.2.1,h.2.2.2.1,hk⟩
   ·exact h.elim
  ·rename_i o g es0 i off v hno
   split at h
   ·rename_i ety es nl l y hg hv
    obtain⟨he,h⟩:=h
    split at h
    ·rename_i x hx
     refine⟨_,_,h.2.2.2,by simp[B3.site,K6,Bw.foot,Bw.isCall,AV.sites.sitesL,AV.sites],fun V' K' ha hk=>?_⟩
     unfold ev;simp only
     rw[ha.get (by simp[fp,Bw.foot,Bw.isCall,AV.sites.sitesL,AV.sites]),hg]
     simp only[hv,hx]
     exact⟨he,h.1,h.2.1,h.2.2.1,hk⟩
    ·exact h.elim
   ·exact h.elim
  ·rename_i i o g j o' g'
   have hsb:o∈fp V dst (.store n) [.mref (.xp i) o g,.mref (.row j) o' g']:=by simp[fp,Bw.foot,Bw.isCall,AV.sites.sitesL,AV.sites]
   split at h
   ·rename_i e1 e2 nl ix rows hg
    refine⟨_,_,h.2.2.2.2.2,by simp[B3.site,K6,Bw.foot,Bw.isCall,AV.sites.sitesL,AV.sites],fun V' K' ha hk=>?_⟩
    unfold ev;simp only
    rw[ha.get hsb,hg]
    exact⟨h.1,h.2.1,h.2.2.1,h.2.2.2.1,h.2.2.2.2.1,hk⟩
   ·exact h.elim
  ·rename_i i o g q p
   have hsb:o∈fp V dst (.store n) [.mref (.xp i) o g,.own q p]:=by simp[fp,Bw.foot,Bw.isCall,AV.sites.sitesL,AV.sites]
   have hsq:q∈fp V dst (.store n) [.mref (.xp i) o g,.own q p]:=by simp[fp,Bw.foot,Bw.isCall,AV.sites.sitesL,AV.sites]
   split at h
   ·rename_i e1 e2 nl ix rows e2' es2 nl2 l2 hg hg2
    refine⟨_,_,h.2.2.2.2.2.2.2,by simp[B3.site,K6,Bw.foot,Bw.isCall,AV.sites.sitesL,AV.sites],fun V' K' ha hk=>?_⟩
    unfold ev;simp only
    rw[ha.get hsb,hg,ha.get hsq,hg2]
    exact⟨h.1,h.2.1,h.2.2.1,h.2.2.2.1,h.2.2.2.2.1,h.2.2.2.2.2.1,h.2.2.2.2.2.2.1,hk⟩
   ·exact h.elim
  ·rename_i j k o g v
   have hsb:o∈fp V dst (.store n) [.mref (.mp j k) o g,v]:=by simp[fp,Bw.foot,Bw.isCall,AV.sites.sitesL,AV.sites]
   split at h
   ·rename_i e1 e2 nl ix rows y hg hv
    split at h
    ·rename_i x hx
     refine⟨_,_,h.2.2.2,by simp[B3.site,K6,Bw.foot,Bw.isCall,AV.sites.sitesL,AV.sites],fun V' K' ha hk=>?_⟩
     unfold ev;simp only
     rw[ha.get hsb,hg]
     simp only[hv,hx]
     exact⟨h.1,h.2.1,h.2.2.1,hk⟩
    ·exact h.elim
   ·exact h.elim
  ·exact h.elim
 |nilck =>
  unfold ev at h;simp only at h
  split at h
  ·exact BT ⟨_,h,fun V' K' hk=>by unfold ev;exact hk⟩
  ·exact BT ⟨_,h,fun V' K' hk=>by unfold ev;exact hk⟩
  ·exact BT ⟨_,h,fun V' K' hk=>by unfold ev;exact hk⟩
  ·exact BT ⟨_,h,fun V' K' hk=>by unfold ev;exact hk⟩
  ·exact BT ⟨_,h,fun V' K' hk=>by unfold ev;exact hk⟩
  ·exact BT ⟨_,h,fun V' K' hk=>by unfold ev;exact hk⟩
  ·exact BT ⟨_,h,fun V' K' hk=>by unfold ev;exact hk⟩
  ·exact h.elim
 |field ag off n =>
  unfold ev at h;simp only at h
  split at h
  ·obtain⟨v,h1,h2⟩:=Ef h
   exact BT ⟨v,h1,fun V' K' hk=>by unfold ev;exact h2 K' hk⟩
  ·obtain⟨v,h1,h2⟩:=Ef h
   exact BT ⟨v,h1,fun V' K' hk=>by unfold ev;exact h2 K' hk⟩
  ·exact h.elim
 |faddr off =>
  unfold ev at h;simp only at h
  split at h
  ·exact BT ⟨_,h,fun V' K' hk=>by unfold ev;exact hk⟩
  ·exact BT ⟨_,h,fun V' K' hk=>by unfold ev;exact hk⟩
  ·exact BT ⟨_,h,fun V' K' hk=>by unfold ev;exact hk⟩
  ·exact BT ⟨_,h,fun V' K' hk=>by unfold ev;exact hk⟩
  ·exact BT ⟨_,h,fun V' K' hk=>by unfold ev;exact hk⟩
  ·exact h.elim
 |iaddrS es =>
  unfold ev at h;simp only at h
  split at h
  ·rename_i o g k i
   split at h
   ·rename_i ety es' nl l hg
    refine⟨_,_,h.2.2.2,by simp[B3.site],fun V' K' ha hk=>?_⟩
    unfold ev;simp only
    rw[ha.get (by simp[fp,Bw.foot,Bw.isCall,AV.sites.sitesL,AV.sites]),hg]
    exact⟨h.1,h.2.1,h.2.2.1,hk⟩
   ·refine⟨_,_,h.2.2.2,by simp[B3.site],fun V' K' ha hk=>?_⟩
    rename_i hg
    unfold ev;simp only
    rw[ha.get (by simp[fp,Bw.foot,Bw.isCall,AV.sites.sitesL,AV.sites]),hg]
    exact⟨h.1,h.2.1,h.2.2.1,hk⟩
   ·exact h.elim
  ·obtain⟨h1,h2,h⟩:=h
   split at h
   ·rename_i x hx
    exact BT ⟨_,h.2,fun V' K' hk=>by unfold ev;simp only[hx];exact⟨h1,h2,h.1,hk⟩⟩
   ·exact h.elim
  ·obtain⟨h1,h2,h⟩:=h
   split at h
   ·rename_i x hx
    exact BT ⟨_,h.2,fun V' K' hk=>by unfold ev;simp only[hx];exact⟨h1,h2,h.1,hk⟩⟩
   ·exact h.elim
  ·rename_i o g k i
   split at h
   ·rename_i e1 e2 nl ix rows hg
    refine⟨_,_,h.2.2.2,by simp[B3.site],fun V' K' ha hk=>?_⟩
    unfold ev;simp only
    rw[ha.get (by simp[fp,Bw.foot,Bw.isCall,AV.sites.sitesL,AV.sites]),hg]
    exact⟨h.1,h.2.1,h.2.2.1,hk⟩
   ·exact h.elim
  ·rename_i j o g k i
   split at h
   ·rename_i e1 e2 nl ix rows hg
    split at h
    ·rename_i x hx
     refine⟨_,_,h.2.2.2,by simp[B3.site],fun V' K' ha hk=>?_⟩
     unfold ev;simp only
     rw[ha.get (by simp[fp,Bw.foot,Bw.isCall,AV.sites.sitesL,AV.sites]),hg]
     simp only[hx]
     exact⟨h.1,h.2.1,h.2.2.1,hk⟩
    ·exact h.elim
   ·exact h.elim
  ·exact BT ⟨_,h.2.2.2,fun V' K' hk=>by unfold ev;exact⟨h.1,h.2.1,h.2.2.1,hk⟩⟩
  ·exact h.elim
 |iaddrA len es =>
  unfold ev at h;simp only at h
  split at h
  ·exact BT ⟨_,h.2.2,fun V' K' hk=>by unfold ev;exact⟨h.1,h.2.1,hk⟩⟩
  ·exact BT ⟨_,h.2.2,fun V' K' hk=>by unfold ev;exact⟨h.1,h.2.1,hk⟩⟩
  ·exact BT ⟨_,h.2.2,fun V' K' hk=>by unfold ev;exact⟨h.1,h.2.1,hk⟩⟩
  ·exact BT ⟨_,h.2.2,fun V' K' hk=>by unfold ev;exact⟨h.1,h.2.1,hk⟩⟩
  ·exact h.elim
 |index len es ag =>
  unfold ev at h;simp only at h
  split at h
  ·obtain⟨v,h1,h2⟩:=Ef h.2.2
   exact BT ⟨v,h1,fun V' K' hk=>by unfold ev;exact⟨h.1,h.2.1,h2 K' hk⟩⟩
  ·obtain⟨v,h1,h2⟩:=Ef h.2.2
   exact BT ⟨v,h1,fun V' K' hk=>by unfold ev;exact⟨h.1,h.2.1,h2 K' hk⟩⟩
  ·exact h.elim
 |strx sb =>
  unfold ev at h;simp only at h
  split at h
  ·obtain⟨h0,h⟩:=h
   split at h
   ·rename_i b hb
    exact BT ⟨_,h,fun V' K' hk=>by unfold ev;simp only[hb];exact⟨h0,hk⟩⟩
   ·exact h.elim
  ·exact h.elim
 |build z pl =>
  unfold ev at h;simp only at h
  split at h
  ·rename_i cs hc
   exact BT ⟨_,h.2,fun V' K' hk=>by unfold ev;simp only[hc];exact⟨h.1,hk⟩⟩
  ·exact h.elim
 |mkrow es z len ix =>
  unfold ev at h;simp only at h
  split at h
  ·exact BT ⟨_,h.2.2.2,fun V' K' hk=>by unfold ev;exact⟨h.1,h.2.1,h.2.2.1,hk⟩⟩
  rename_i hno
  split at h
  ·rename_i cs hc
   exact BT ⟨_,h.2,fun V' K' hk=>by
    unfold ev;simp only
    rw[hc];exact⟨h.1,hk⟩⟩
  ·exact h.elim
 |mkrowO ety es z len ix =>
  unfold ev at h;simp only at h
  split at h
  ·rename_i t l hl
   refine⟨_,_,h.2.2,by simp[B3.site,K6,Bw.foot,Bw.isCall],fun V' K' ha hk=>?_⟩
   unfold ev;simp only[hl]
   rw[(ha t (by simp[fp,Bw.foot,Bw.isCall])).2];exact⟨h.1,h.2.1,hk⟩
  ·exact h.elim
 |mkfn f=>exact BT ⟨_,h,fun V' K' hk=>hk⟩
 |mkbnd f=>exact BT ⟨_,h,fun V' K' hk=>hk⟩
 |yld=>exact h.elim
 |box =>
  unfold ev at h;simp only at h
  split at h
  ·rename_i t v
   split at h
   ·rename_i cs hc
    refine⟨_,_,h.2,by simp[B3.site,K6,Bw.foot,Bw.isCall],fun V' K' ha hk=>?_⟩
    unfold ev;simp only[hc]
    rw[(ha t (by simp[fp,Bw.foot,Bw.isCall])).2];exact⟨h.1,hk⟩
   ·exact h.elim
  ·exact h.elim
 |zero cs =>
  unfold ev at h;simp only at h
  split at h
  ·rename_i t
   refine⟨_,_,h.2,by simp[B3.site,K6,Bw.foot,Bw.isCall],fun V' K' ha hk=>?_⟩
   unfold ev;simp only
   rw[(ha t (by simp[fp,Bw.foot,Bw.isCall])).2];exact⟨h.1,hk⟩
  ·exact h.elim
 |mkmap tys =>
  unfold ev at h;simp only at h
  split at h
  ·rename_i t
   refine⟨_,_,h.2,by simp[B3.site,K6,Bw.foot,Bw.isCall],fun V' K' ha hk=>?_⟩
   unfold ev;simp only
   rw[(ha t (by simp[fp,Bw.foot,Bw.isCall])).2];exact⟨h.1,hk⟩
  ·exact h.elim
 |mksl ety es z own =>
  unfold ev at h;simp only at h
  split at h
  ·rename_i t n m
   obtain⟨h1,h2,h3,h⟩:=h
   cases own with
   |true =>
    simp only[if_true] at h
    refine⟨_,_,h.2,by simp[B3.site,K6,Bw.foot,Bw.isCall],fun V' K' ha hk=>?_⟩
    unfold ev;simp only[if_true]
    rw[(ha t (by simp[fp,Bw.foot,Bw.isCall])).2];exact⟨h1,h2,h3,h.1,hk⟩
   |false =>
    simp only[Bool.false_eq_true,if_false] at h
    exact BT ⟨_,h,fun V' K' hk=>by unfold ev;simp only[Bool.false_eq_true,if_false];exact⟨h1,h2,h3,hk⟩⟩
  ·exact h.elim
 |slice es lo hi mx =>
  unfold ev at h;simp only at h
  cases mx with
  |true =>
   simp only[if_true] at h
   split at h
   ·exact BT ⟨_,h.2.2.2.2,fun V' K' hk=>by unfold ev;simp only[if_true];exact⟨h.1,h.2.1,h.2.2.1,h.2.2.2.1,hk⟩⟩
   ·exact BT ⟨_,h.2.2,fun V' K' hk=>by unfold ev;simp only[if_true];exact⟨h.1,h.2.1,hk⟩⟩
   ·exact BT ⟨_,h.2.2,fun V' K' hk=>by unfold ev;simp only[if_true];exact⟨h.1,h.2.1,hk⟩⟩
   ·exact BT ⟨_,h.2.2.2,fun V' K' hk=>by unfold ev;simp only[if_true];exact⟨h.1,h.2.1,h.2.2.1,hk⟩⟩
   ·exact BT ⟨_,h.2.2.2,fun V' K' hk=>by unfold ev;simp only[if_true];exact⟨h.1,h.2.1,h.2.2.1,hk⟩⟩
   ·exact BT ⟨_,h.2.2.2.2.2,fun V' K' hk=>by unfold ev;simp only[if_true];exact⟨h.1,h.2.1,h.2.2.1,h.2.2.2.1,h.2.2.2.2.1,hk⟩⟩
   ·exact h.elim
  |false =>
   simp only[Bool.false_eq_true,if_false] at h
   split at h
   ·obtain⟨hu,h⟩:=h
    obtain⟨a,b,h1,h2⟩:=Uo h
    exact BT ⟨_,h1,fun V' K' hk=>by unfold ev;simp only[Bool.false_eq_true,if_false];exact⟨hu,h2 _ hk⟩⟩
   ·obtain⟨hu,h⟩:=h
    obtain⟨a,b,h1,h2⟩:=Uo h
    exact BT ⟨_,h1,fun V' K' hk=>by unfold ev;simp only[Bool.false_eq_true,if_false];exact⟨hu,h2 _ hk⟩⟩
   ·rename_i o g rest
    split at h
    ·rename_i ety es' nl l hg
     obtain⟨hol,he,h⟩:=h
     obtain⟨a,b,h1,h2⟩:=Uo h
     refine⟨_,_,h1,by simp[B3.site,K6,Bw.foot,Bw.isCall,AV.sites.sitesL,AV.sites],fun V' K' ha hk=>?_⟩
     unfold ev;simp only[Bool.false_eq_true,if_false]
     have ho:o∈fp V dst (.slice es lo hi false) (.own o g::rest):=by simp[fp,Bw.foot,Bw.isCall,AV.sites.sitesL,AV.sites]
     rw[ha.get ho,hg,(ha o ho).2]
     exact⟨hol,he,h2 (fun a b=>K' (.own o (V.cn o)) (.fresh o (.row ety es nl (if hi then (l.drop a).take (b-a) else l.drop a)))) hk⟩
    ·exact h.elim
   ·exact h.elim
 |sub es =>
  unfold ev at h;simp only at h
  split at h
  ·rename_i o g k i
   split at h
   ·rename_i ety es' nl l hg
    refine⟨_,_,h.2.2.2.2,by simp[B3.site],fun V' K' ha hk=>?_⟩
    unfold ev;simp only
    rw[ha.get (by simp[fp,Bw.foot,Bw.isCall,AV.sites.sitesL,AV.sites]),hg]
    exact⟨h.1,h.2.1,h.2.2.1,h.2.2.2.1,hk⟩
   ·exact h.elim
  ·exact h.elim
 |pre =>
  unfold ev at h;simp only at h
  split at h
  ·rename_i o g k i
   split at h
   ·rename_i ety es' nl l hg
    refine⟨_,_,h.2.2.2,by simp[B3.site],fun V' K' ha hk=>?_⟩
    unfold ev;simp only
    rw[ha.get (by simp[fp,Bw.foot,Bw.isCall,AV.sites.sitesL,AV.sites]),hg]
    exact⟨h.1,h.2.1,h.2.2.1,hk⟩
   ·exact h.elim
  ·exact h.elim
 |cpy =>
  unfold ev at h;simp only at h
  split at h
  ·rename_i o g y
   split at h
   ·rename_i ety es nl l nl' ys hg hd
    refine⟨_,_,h.2.2.2,by simp[B3.site,K6,Bw.foot,Bw.isCall,AV.sites.sitesL,AV.sites],fun V' K' ha hk=>?_⟩
    unfold ev;simp only
    rw[ha.get (by simp[fp,Bw.foot,Bw.isCall,AV.sites.sitesL,AV.sites]),hg,hd]
    exact⟨h.1,h.2.1,h.2.2.1,hk⟩
   ·exact h.elim
  ·rename_i a es o g n o' g'
   split at h
   ·rename_i ety es' nl l hg
    refine⟨_,_,h.2.2.2.2.2.2.2,by simp[B3.site,K6,Bw.foot,Bw.isCall,AV.sites.sitesL,AV.sites],fun V' K' ha hk=>?_⟩
    unfold ev;simp only
    rw[ha.get (by simp[fp,Bw.foot,Bw.isCall,AV.sites.sitesL,AV.sites]),hg]
    exact⟨h.1,h.2.1,h.2.2.1,h.2.2.2.1,h.2.2.2.2.1,h.2.2.2.2.2.1,h.2.2.2.2.2.2.1,hk⟩
   ·exact h.elim
  ·exact h.elim
 |clr zs =>
  unfold ev at h;simp only at h
  split at h
  ·rename_i a es o g
   split at h
   ·rename_i ety es' nl l hg
    refine⟨_,_,h.2.2.2,by simp[B3.site,K6,Bw.foot,Bw.isCall,AV.sites.sitesL,AV.sites],fun V' K' ha hk=>?_⟩
    unfold ev;simp only
    rw[ha.get (by simp[fp,Bw.foot,Bw.isCall,AV.sites.sitesL,AV.sites]),hg]
    exact⟨h.1,h.2.1,h.2.2.1,hk⟩
   ·exact h.elim
  ·exact h.elim
 |len m =>
  unfold ev at h;simp only at h
  split at h
  ·rename_i x
   cases m with
   |true =>
    simp only[if_true] at h
    split at h
    ·rename_i o g
     split at h
     ·rename_i tys kvs hg
      refine⟨_,_,h.2,by simp[B3.site],fun V' K' ha hk=>?_⟩
      unfold ev;simp only[if_true]
      rw[ha.get (by simp[fp,Bw.foot,Bw.isCall,AV.sites.sitesL,AV.sites]),hg];exact⟨h.1,hk⟩
     ·rename_i tys es0 cl hg
      refine⟨_,_,h.2,by simp[B3.site],fun V' K' ha hk=>?_⟩
      unfold ev;simp only[if_true]
      rw[ha.get (by simp[fp,Bw.foot,Bw.isCall,AV.sites.sitesL,AV.sites]),hg];exact⟨h.1,hk⟩
     ·exact h.elim
    ·exact BT ⟨_,h.2,fun V' K' hk=>by unfold ev;simp only[if_true];exact⟨h.1,hk⟩⟩
    ·exact h.elim
   |false =>
    simp only[Bool.false_eq_true,if_false] at h
    split at h
    ·rename_i nl hl
     refine⟨_,_,h,by simp[B3.site],fun V' K' ha hk=>?_⟩
     unfold ev;simp only[Bool.false_eq_true,if_false]
     rw[YP ha fun o ho=>by simp only[fp,Bw.foot,Bw.isCall];exact sin ho,hl];exact hk
    ·exact h.elim
  ·exact h.elim
 |cap =>
  unfold ev at h;simp only at h
  split at h
  ·exact BT ⟨_,h,fun V' K' hk=>by unfold ev;exact hk⟩
  ·exact h.elim
 |minmax m =>
  unfold ev at h;simp only at h
  split at h
  ·split at h
   ·rename_i r hr
    exact BT ⟨_,h,fun V' K' hk=>by unfold ev;simp only[hr];exact hk⟩
   ·exact h.elim
  ·exact h.elim
 |extract i =>
  unfold ev at h;simp only at h
  split at h
  ·split at h
   ·rename_i r hr
    exact BT ⟨_,h,fun V' K' hk=>by unfold ev;simp only[hr];exact hk⟩
   ·exact h.elim
  ·exact h.elim
 |lookup ok tys z =>
  unfold ev at h;simp only at h
  split at h
  ·rename_i o g key
   split at h
   ·rename_i tys' kvs k hg hk'
    obtain⟨h1,h2,h⟩:=h
    split at h
    ·rename_i v hv
     refine⟨_,_,h,by simp[B3.site],fun V' K' ha hk=>?_⟩
     unfold ev;simp only
     rw[ha.get (by simp[fp,Bw.foot,Bw.isCall,AV.sites.sitesL,AV.sites]),hg]
     simp only[hk',hv];exact⟨h1,h2,hk⟩
    ·rename_i hv
     refine⟨_,_,h,by simp[B3.site],fun V' K' ha hk=>?_⟩
     unfold ev;simp only
     rw[ha.get (by simp[fp,Bw.foot,Bw.isCall,AV.sites.sitesL,AV.sites]),hg]
     simp only[hk',hv];exact⟨h1,h2,hk⟩
   ·rename_i tys' es0 cl k hg hk'
    obtain⟨h1,h2,h⟩:=h
    split at h
    ·rename_i v hv
     refine⟨_,_,h,by simp[B3.site],fun V' K' ha hk=>?_⟩
     unfold ev;simp only
     rw[ha.get (by simp[fp,Bw.foot,Bw.isCall,AV.sites.sitesL,AV.sites]),hg]
     simp only[hk',hv];exact⟨h1,h2,hk⟩
    ·rename_i hv
     refine⟨_,_,h,by simp[B3.site],fun V' K' ha hk=>?_⟩
     unfold ev;simp only
     rw[ha.get (by simp[fp,Bw.foot,Bw.isCall,AV.sites.sitesL,AV.sites]),hg]
     simp only[hk',hv];exact⟨h1,h2,hk⟩
   ·exact h.elim
  ·split at h
   ·rename_i k hk'
    obtain⟨h1,h2,h⟩:=h
    split at h
    ·rename_i v hv
     exact BT ⟨_,h,fun V' K' hk=>by unfold ev;simp only[hk',hv];exact⟨h1,h2,hk⟩⟩
    ·rename_i hv
     exact BT ⟨_,h,fun V' K' hk=>by unfold ev;simp only[hk',hv];exact⟨h1,h2,hk⟩⟩
   ·exact h.elim
  ·split at h
   ·rename_i k hk'
    exact BT ⟨_,h.2,fun V' K' hk=>by unfold ev;simp only[hk'];exact⟨h.1,hk⟩⟩
   ·exact h.elim
  ·exact h.elim
 |mapupd tys =>
  unfold ev at h;simp only at h
  split at h
  ·rename_i o g key val
   split at h
   ·rename_i tys' kvs k v hg hk' hv'
    refine⟨_,_,h.2.2,by simp[B3.site,K6,Bw.foot,Bw.isCall,AV.sites.sitesL,AV.sites],fun V' K' ha hk=>?_⟩
    unfold ev;simp only
    rw[ha.get (by simp[fp,Bw.foot,Bw.isCall,AV.sites.sitesL,AV.sites]),hg]
    simp only[hk',hv'];exact⟨h.1,h.2.1,hk⟩
   ·rename_i tys' es0 cl k v hg hk' hv'
    refine⟨_,_,h.2.2,by simp[B3.site,K6,Bw.foot,Bw.isCall,AV.sites.sitesL,AV.sites],fun V' K' ha hk=>?_⟩
    unfold ev;simp only
    rw[ha.get (by simp[fp,Bw.foot,Bw.isCall,AV.sites.sitesL,AV.sites]),hg]
    simp only[hk',hv'];exact⟨h.1,h.2.1,hk⟩
   ·exact h.elim
  ·exact h.elim
 |delete tys =>
  unfold ev at h;simp only at h
  split at h
  ·rename_i o g key
   split at h
   ·rename_i tys' es0 cl k hg hk'
    refine⟨_,_,h.2.2,by simp[B3.site,K6,Bw.foot,Bw.isCall,AV.sites.sitesL,AV.sites],fun V' K' ha hk=>?_⟩
    unfold ev;simp only
    rw[ha.get (by simp[fp,Bw.foot,Bw.isCall,AV.sites.sitesL,AV.sites]),hg]
    simp only[hk'];exact⟨h.1,h.2.1,hk⟩
   ·exact h.elim
  ·exact h.elim
 |mkmapB tys =>
  unfold ev at h;simp only at h
  split at h
  ·rename_i t
   refine⟨_,_,h.2,by simp[B3.site,K6,Bw.foot,Bw.isCall],fun V' K' ha hk=>?_⟩
   unfold ev;simp only
   rw[(ha t (by simp[fp,Bw.foot,Bw.isCall])).2];exact⟨h.1,hk⟩
  ·exact h.elim
 |mrange =>
  unfold ev at h;simp only at h
  split at h
  ·rename_i t o g
   split at h
   ·rename_i ob hg
    split at h
    ·rename_i es0 cl hob
     refine⟨_,_,h.2,by simp[B3.site,K6,Bw.foot,Bw.isCall],fun V' K' ha hk=>?_⟩
     unfold ev;simp only
     rw[ha.get (by simp[fp,Bw.foot,Bw.isCall,AV.sites.sitesL,AV.sites]),hg]
     simp only[hob]
     rw[(ha t (by simp[fp,Bw.foot,Bw.isCall])).2];exact⟨h.1,hk⟩
    ·exact h.elim
   ·exact h.elim
  ·rename_i t tys kvs
   refine⟨_,_,h.2,by simp[B3.site,K6,Bw.foot,Bw.isCall],fun V' K' ha hk=>?_⟩
   unfold ev;simp only
   rw[(ha t (by simp[fp,Bw.foot,Bw.isCall])).2];exact⟨h.1,hk⟩
  ·exact h.elim
 |mentry =>
  unfold ev at h;simp only at h
  split at h
  ·rename_i o g
   have hoF:o∈fp V dst .mentry [.ptr o g 0]:=by
    simp only[fp,Bw.foot,Bw.isCall,if_true]
    exact Qd (by simp[AV.sites.sitesL,AV.sites])
   split at h
   ·rename_i mo mg n seen hg
    have hmF:mo∈fp V dst .mentry [.ptr o g 0]:=by
     simp only[fp,Bw.foot,Bw.isCall,if_true,Dd]
     refine List.mem_append_right _ (LG (LG ?_))
     simp only[AL.reach,AV.sites.sitesL,AV.sites,List.append_nil,List.mem_append,List.flatMap_cons,List.flatMap_nil]
     refine .inr ?_
     simp only[AL.osites,AL.get_some hg,List.mem_singleton]
    split at h
    ·rename_i ob hmg
     split at h
     ·rename_i es0 cl hob
      obtain⟨h1,h⟩:=h
      split at h
      ·rename_i b hb
       split at h
       ·rename_i e he
        refine⟨_,_,h,by simp[B3.site],fun V' K' ha hk=>?_⟩
        unfold ev;simp only
        rw[ha.get hoF,hg];simp only
        rw[ha.get hmF,hmg];simp only[hob,hb,he]
        exact⟨h1,hk⟩
       ·exact h.elim
      ·exact h.elim
     ·exact h.elim
    ·exact h.elim
   ·rename_i tys kvs seen hg
    split at h
    ·rename_i i hi
     split at h
     ·rename_i kv hkv
      refine⟨_,_,h,by simp[B3.site],fun V' K' ha hk=>?_⟩
      unfold ev;simp only
      rw[ha.get hoF,hg];simp only[hi,hkv];exact hk
     ·exact h.elim
    ·exact h.elim
   ·exact h.elim
  ·exact h.elim
 |mapent tys z =>
  unfold ev at h;simp only at h
  split at h
  ·rename_i o g key
   split at h
   ·rename_i tys' kvs k hg hk'
    obtain⟨h1,h2,h3,h⟩:=h
    split at h
    ·rename_i v hv
     refine⟨_,_,h,by simp[B3.site],fun V' K' ha hk=>?_⟩
     unfold ev;simp only
     rw[ha.get (by simp[fp,Bw.foot,Bw.isCall,AV.sites.sitesL,AV.sites]),hg]
     simp only[hk',hv];exact⟨h1,h2,h3,hk⟩
    ·rename_i hv
     refine⟨_,_,h,by simp[B3.site,K6,Bw.foot,Bw.isCall,AV.sites.sitesL,AV.sites],fun V' K' ha hk=>?_⟩
     unfold ev;simp only
     rw[ha.get (by simp[fp,Bw.foot,Bw.isCall,AV.sites.sitesL,AV.sites]),hg]
     simp only[hk',hv];exact⟨h1,h2,h3,hk⟩
   ·exact h.elim
  ·exact h.elim
 |entst =>
  unfold ev at h;simp only at h
  split at h
  ·rename_i o g k i val
   split at h
   ·rename_i tys kvs v hg hv'
    obtain⟨h1,h2,h⟩:=h
    split at h
    ·rename_i e hev
     refine⟨_,_,h,by simp[B3.site,K6,Bw.foot,Bw.isCall,AV.sites.sitesL,AV.sites],fun V' K' ha hk=>?_⟩
     unfold ev;simp only
     rw[ha.get (by simp[fp,Bw.foot,Bw.isCall,AV.sites.sitesL,AV.sites]),hg]
     simp only[hv',hev];exact⟨h1,h2,hk⟩
    ·exact h.elim
   ·exact h.elim
  ·exact h.elim
 |app ety es z own =>
  unfold ev at h;simp only at h
  split at h
  ·rename_i k o g y
   have hsb:o∈fp V dst (.app ety es z own) [.mref k o g,y]:=by simp[fp,Bw.foot,Bw.isCall,AV.sites.sitesL,AV.sites]
   split at h
   ·rename_i e1 e2 nl ix rows q p hg
    have hsq:q∈fp V dst (.app ety es z own) [.mref .out o g,.ablk true [.own q p] 0]:=by simp[fp,Bw.foot,Bw.isCall,AV.sites.sitesL,AV.sites]
    split at h
    ·rename_i e2' es2 nl2 l2 hg2
     obtain⟨h0,h1,h2,h3,h4,h5,h6,h7,h8,h⟩:=h
     refine⟨_,_,h,by simp[B3.site,K6,Bw.foot,Bw.isCall,AV.sites.sitesL,AV.sites],fun V' K' ha hk=>?_⟩
     unfold ev;simp only
     rw[ha.get hsb,hg]
     simp only
     rw[ha.get hsq,hg2,(ha o hsb).2]
     exact⟨h0,h1,h2,h3,h4,h5,h6,h7,h8,hk⟩
    ·exact h.elim
   ·rename_i j e1 e2 nl ix rows hg
    split at h
    ·rename_i x ys hrow hys
     obtain⟨h0,h1,h2,h3,h4,h5,h6,h⟩:=h
     refine⟨_,_,h,by simp[B3.site,K6,Bw.foot,Bw.isCall,AV.sites.sitesL,AV.sites],fun V' K' ha hk=>?_⟩
     unfold ev;simp only
     rw[ha.get hsb,hg]
     simp only
     rw[Oy ha fun o ho=>by simp[fp,Bw.foot,Bw.isCall,AV.sites.sitesL];exact .inr (.inr ho),hys,hrow]
     exact⟨h0,h1,h2,h3,h4,h5,h6,hk⟩
    ·exact h.elim
   ·exact h.elim
  ·rename_i x y hno
   split at h
   ·exact h.elim
   ·rename_i ys hys
    have hsrc:∀{V':AL},DU (fp V dst (.app ety es z own) [x,y]) V V'->EU V' z y=some ys:=fun {V'} ha=>by
     rw[Oy ha fun o ho=>by simp[fp,Bw.foot,Bw.isCall,AV.sites.sitesL];exact .inr (.inr ho),hys]
    split at h
    ·rename_i o g
     split at h
     ·rename_i ety' es' nl l hg
      obtain⟨h0,h1,h2,h3,h4,h⟩:=h
      refine⟨_,_,h,by simp[B3.site,K6,Bw.foot,Bw.isCall,AV.sites.sitesL,AV.sites],fun V' K' ha hk=>?_⟩
      have ho:o∈fp V dst (.app ety es z own) [.own o g,y]:=by simp[fp,Bw.foot,Bw.isCall,AV.sites.sitesL,AV.sites]
      unfold ev;simp only[hsrc ha]
      rw[ha.get ho,hg,(ha o ho).2]
      exact⟨h0,h1,h2,h3,h4,hk⟩
     ·exact h.elim
    ·obtain⟨h1,h2,h⟩:=h
     cases own with
     |true =>
      simp only[if_true] at h
      split at h
      ·rename_i t
       refine⟨_,_,h.2,by simp[B3.site,K6,Bw.foot,Bw.isCall],fun V' K' ha hk=>?_⟩
       unfold ev;simp only[hsrc ha,if_true]
       rw[(ha t (by simp[fp,Bw.foot,Bw.isCall])).2];exact⟨h1,h2,h.1,hk⟩
      ·exact h.elim
     |false =>
      simp only[Bool.false_eq_true,if_false] at h
      refine⟨_,_,h,by simp[B3.site],fun V' K' ha hk=>?_⟩
      unfold ev;simp only[hsrc ha,Bool.false_eq_true,if_false];exact⟨h1,h2,hk⟩
    ·obtain⟨h1,h2,h⟩:=h
     cases own with
     |true =>
      simp only[if_true] at h
      split at h
      ·rename_i t
       split at h
       ·refine⟨_,_,h,by simp[B3.site,K6,Bw.foot,Bw.isCall],fun V' K' ha hk=>?_⟩
        unfold ev;simp only[hsrc ha,if_true]
        exact⟨h1,h2,hk⟩
       ·refine⟨_,_,h.2,by simp[B3.site,K6,Bw.foot,Bw.isCall],fun V' K' ha hk=>?_⟩
        unfold ev;simp only[hsrc ha,if_true]
        rw[(ha t (by simp[fp,Bw.foot,Bw.isCall])).2];exact⟨h1,h2,h.1,hk⟩
      ·exact h.elim
     |false =>
      simp only[Bool.false_eq_true,if_false] at h
      refine⟨_,_,h,by simp[B3.site],fun V' K' ha hk=>?_⟩
      unfold ev;simp only[hsrc ha,Bool.false_eq_true,if_false];exact⟨h1,h2,hk⟩
    ·exact h.elim
  ·exact h.elim
 |call f=>exact Hv (F:=fp V dst (.call f) xs) (fun o ho=>by simpa[fp,Bw.foot,Bw.isCall] using ho) h
 |callv =>
  unfold ev at h;simp only at h
  split at h
  ·rename_i f cs args
   obtain⟨hb,h⟩:=h
   obtain⟨v,ch,h1,h2,h3⟩:=Hv (F:=fp V dst .callv (.fn f cs::args)) (fun o ho=>by
    have:o∈Dd dst V (.fn f cs::args):=J6 (fun o ho=>by
     rw[Gm] at ho
     simp only[AV.sites.sitesL,AV.sites,List.mem_append] at ho ⊢
     exact ho.symm) o ho
    simpa[fp,Bw.foot,Bw.isCall] using this) h
   exact⟨v,ch,h1,h2,fun V' K' ha hk=>by unfold ev;exact⟨hb,h3 V' K' ha hk⟩⟩
  ·rename_i f cs args
   obtain⟨hb,h⟩:=h
   obtain⟨v,ch,h1,h2,h3⟩:=Hv (F:=fp V dst .callv (.d (.fn f cs)::args)) (fun o ho=>by
    have:o∈Dd dst V (.d (.fn f cs)::args):=J6 (fun o ho=>by
     rw[Gm,V3] at ho
     simp only[AV.sites.sitesL,AV.sites,List.mem_append,List.append_nil,List.nil_append] at ho ⊢
     exact ho) o ho
    simpa[fp,Bw.foot,Bw.isCall] using this) h
   exact⟨v,ch,h1,h2,fun V' K' ha hk=>by unfold ev;exact⟨hb,h3 V' K' ha hk⟩⟩
  ·rename_i f cs args
   obtain⟨hb,h⟩:=h
   obtain⟨v,ch,h1,h2,h3⟩:=Hv (F:=fp V dst .callv (.bnd f cs::args)) (fun o ho=>by
    have:o∈Dd dst V (.bnd f cs::args):=J6 (fun o ho=>by
     rw[Gm] at ho
     simp only[AV.sites.sitesL,AV.sites,List.mem_append] at ho ⊢
     exact ho) o ho
    simpa[fp,Bw.foot,Bw.isCall] using this) h
   exact⟨v,ch,h1,h2,fun V' K' ha hk=>by unfold ev;exact⟨hb,h3 V' K' ha hk⟩⟩
  ·rename_i f cs args
   obtain⟨hb,h⟩:=h
   obtain⟨v,ch,h1,h2,h3⟩:=Hv (F:=fp V dst .callv (.d (.bnd f cs)::args)) (fun o ho=>by
    have:o∈Dd dst V (.d (.bnd f cs)::args):=J6 (fun o ho=>by
     rw[Gm,V3] at ho
     simp only[AV.sites.sitesL,AV.sites,List.mem_append,List.append_nil,List.nil_append] at ho ⊢
     exact ho) o ho
    simpa[fp,Bw.foot,Bw.isCall] using this) h
   exact⟨v,ch,h1,h2,fun V' K' ha hk=>by unfold ev;exact⟨hb,h3 V' K' ha hk⟩⟩
  ·exact h.elim
end Go.Pw
end
section
namespace Go.Pw
def Gu (E:CW):List Ew->Bg->(Bg->Prop)->Prop
 |[],s,K=>K s
 |I::l,s,K=>El E I s fun v ch=>Gu E l (put s I.dst v ch) K
abbrev Ss:=List Nat×List Nat
def DV (I:Ew) (s:Bg):List Nat:=fp s.V I.dst I.op (I.xs.map (Hd.val s.sl))
def KA (a b:Ss):Bool :=
 (a.1.all fun o=>!b.2.contains o) && (b.1.all fun o=>!a.2.contains o)
def Qr (E:CW):List (Ew×List Nat)->List Ss->Bg->(Bg->Prop)->Prop
 |[],_,s,K=>K s
 |(I,dy)::l,rec,s,K=>El E I s fun v ch =>
  (dy.all fun j=>match rec[j]? with|some r=>KA r (ch.site,DV I s)|none=>false)=true /\
  Qr E l (rec++[(ch.site,DV I s)]) (put s I.dst v ch) K
def Hd.slot:Hd->List Nat
 |.t n=>[n]
 |.k _=>[]
def Ew.reads (I:Ew):List Nat:=I.xs.flatMap Hd.slot++(match I.g with|some (t,_)=>[t]|none=>[])
theorem XU {xs:List Hd}{s s':Bg}(h:∀t,t∈xs.flatMap Hd.slot->s'.sl t=s.sl t):xs.map (Hd.val s'.sl)=xs.map (Hd.val s.sl):=by
 apply List.map_congr_left
 intro x hx
 cases x with
 |t n=>exact h n (List.mem_flatMap.2 ⟨_,hx,by simp[Hd.slot]⟩)
 |k v=>rfl
def dq (I:Ew) (s:Bg):List Nat:=K6 s.V I.dst I.op (I.xs.map (Hd.val s.sl))
variable {E:CW}
theorem TW {I:Ew}{s:Bg}{K:AV->B3->Prop}(h:El E I s K) :
  ∃v ch,K v ch/\(∀o,o∈ch.site->o∈dq I s)/\∀s' K',(∀t,t∈I.reads->s'.sl t=s.sl t)->DU (DV I s) s.V s'.V->K' v ch->El E I s' K':=by
 have hval:∀s':Bg,(∀t,t∈I.reads->s'.sl t=s.sl t)->I.xs.map (Hd.val s'.sl)=I.xs.map (Hd.val s.sl):=fun s' hs=>XU fun t ht=>hs t (by simp[Ew.reads];exact .inl (by simpa using ht))
 unfold El at h
 split at h
 ·rename_i hg
  obtain⟨v,ch,h1,h2,h3⟩:=gS h
  refine⟨v,ch,h1,h2,fun s' K' hs hV hk=>?_⟩
  unfold El;simp only[hg]
  rw[hval s' hs];exact h3 s'.V K' hV hk
 ·rename_i t b hg
  have ht:∀s':Bg,(∀t,t∈I.reads->s'.sl t=s.sl t)->s'.sl t=s.sl t:=fun s' hs=>hs t (by simp[Ew.reads,hg])
  split at h
  ·rename_i b' hb
   by_cases hbb:(b == b')=true
   ·rw[hbb] at h;simp only[Nb] at h
    obtain⟨v,ch,h1,h2,h3⟩:=gS h
    refine⟨v,ch,h1,h2,fun s' K' hs hV hk=>?_⟩
    unfold El;simp only[hg]
    rw[ht s' hs,hb];simp only[hbb,Nb]
    rw[hval s' hs];exact h3 s'.V K' hV hk
   ·have hbb':(b == b')=false:=by simpa using hbb
    rw[hbb'] at h;simp only[Lo] at h
    refine⟨_,_,h,by simp[B3.site],fun s' K' hs hV hk=>?_⟩
    unfold El;simp only[hg]
    rw[ht s' hs,hb];simp only[hbb',Lo];exact hk
  ·rename_i hb
   refine⟨_,_,h,by simp[B3.site],fun s' K' hs hV hk=>?_⟩
   unfold El;simp only[hg]
   rw[ht s' hs,hb];exact hk
  ·exact h.elim
def ZO (R F:List Nat) (s s':Bg):Prop:=(∀t,t∈R->s'.sl t=s.sl t)/\DU F s.V s'.V
theorem ZO.refl (R F:List Nat) (s:Bg):ZO R F s s:=⟨fun _ _=>rfl,fun _ _=>⟨rfl,rfl⟩⟩
theorem DU.app {F:List Nat}:∀{ch:B3}{V V':AL},DU F V V'->DU F (V.app ch) (V'.app ch)
 |.none,_,_,h=>h
 |.keep o' g x,V,V',h=>fun o ho=>by
  obtain⟨h1,h2⟩:=h o ho
  refine⟨?_,h2⟩
  simp only[AL.app,CO];split
  ·rfl
  ·exact h1
 |.fresh o' x,V,V',h=>fun o ho=>by
  obtain⟨h1,h2⟩:=h o ho
  refine⟨?_,?_⟩
  ·simp only[AL.app,CO]
   split
   ·rename_i e;subst e;rw[h2]
   ·exact h1
  ·simp only[AL.app,CO]
   split
   ·rename_i e;subst e;rw[h2]
   ·exact h2
 |.seq a b,V,V',h=>DU.app (ch:=b) (DU.app (ch:=a) h)
theorem ZO.both {R F:List Nat}{s s':Bg}(h:ZO R F s s') (dst:Option Nat) (v:AV) (ch:B3):ZO R F (put s dst v ch) (put s' dst v ch):=by
 refine⟨fun t ht=>?_,h.2.app⟩
 cases dst with
 |none=>exact h.1 t ht
 |some d =>
  simp only[put,CO];split
  ·rfl
  ·exact h.1 t ht
theorem MS:∀{ch:B3}{V:AL}{o:Nat},o∉ch.site->(V.app ch).ob o=V.ob o/\(V.app ch).cn o=V.cn o
 |.none,_,_,_=>⟨rfl,rfl⟩
 |.keep o' g x,V,o,h=>by
  have:o≠o':=fun e=>h (by simp[B3.site,e])
  simp[AL.app,CO,this]
 |.fresh o' x,V,o,h=>by
  have:o≠o':=fun e=>h (by simp[B3.site,e])
  simp[AL.app,CO,this]
 |.seq a b,V,o,h=>by
  simp only[B3.site,List.mem_append,not_or] at h
  obtain⟨h1,h2⟩:=MS (ch:=b) (V:=V.app a) h.2
  obtain⟨h3,h4⟩:=MS (ch:=a) (V:=V) h.1
  exact⟨h1.trans h3,h2.trans h4⟩
theorem ZO.left {R F:List Nat}{s s':Bg}(h:ZO R F s s') {dst:Option Nat}{v:AV}{ch:B3}(hd:∀t,dst=some t->t∉R) (hc:∀o,o∈ch.site->o∉F):ZO R F (put s dst v ch) s':=by
 refine⟨fun t ht=>?_,fun o ho=>?_⟩
 ·cases dst with
  |none=>exact h.1 t ht
  |some d =>
   have:t≠d:=fun e=>hd d rfl (e ▸ ht)
   simp only[put,CO,this,if_false];exact h.1 t ht
 ·obtain⟨h1,h2⟩:=MS (V:=s.V) (ch:=ch) (o:=o) fun e=>hc o e ho
  show s'.V.ob o=(s.V.app ch).ob o/\s'.V.cn o=(s.V.app ch).cn o
  rw[h1,h2];exact h.2 o ho
theorem ZO.right {R F:List Nat}{s s':Bg}(h:ZO R F s s') {dst:Option Nat}{v:AV}{ch:B3}(hd:∀t,dst=some t->t∉R) (hc:∀o,o∈ch.site->o∉F):ZO R F s (put s' dst v ch):=by
 refine⟨fun t ht=>?_,fun o ho=>?_⟩
 ·cases dst with
  |none=>exact h.1 t ht
  |some d =>
   have:t≠d:=fun e=>hd d rfl (e ▸ ht)
   simp only[put,CO,this,if_false];exact h.1 t ht
 ·obtain⟨h1,h2⟩:=MS (V:=s'.V) (ch:=ch) (o:=o) fun e=>hc o e ho
  show (s'.V.app ch).ob o=s.V.ob o/\(s'.V.app ch).cn o=s.V.cn o
  rw[h1,h2];exact h.2 o ho
theorem Jb {b:B3}{a:B3}(ha:∀x y,a≠.seq x y):∀{b:B3}{V:AL},(∀o,o∈a.site->o∉b.site)->(V.app a).app b=(V.app b).app a
 |.seq b1 b2,V,h=>by
  have h1:∀o,o∈a.site->o∉b1.site:=fun o ho hb=>h o ho (by simp[B3.site,hb])
  have h2:∀o,o∈a.site->o∉b2.site:=fun o ho hb=>h o ho (by simp[B3.site,hb])
  show ((V.app a).app b1).app b2=((V.app b1).app b2).app a
  rw[Jb (b:=b) ha h1,Jb (b:=b) ha h2]
 |.none,V,h=>rfl
 |.keep o' g' x',V,h=>by
  cases a with
  |seq x y=>exact absurd rfl (ha x y)
  |none=>rfl
  |keep o g x =>
   have hne:o'≠o:=fun e=>h o (by simp[B3.site]) (by simp[B3.site,e])
   simp only[AL.app]
   congr 1;funext i;simp only[CO];split<;>split<;>simp_all
  |fresh o x =>
   have hne:o'≠o:=fun e=>h o (by simp[B3.site]) (by simp[B3.site,e])
   simp only[AL.app]
   congr 1;funext i;simp only[CO];split<;>split<;>simp_all
 |.fresh o' x',V,h=>by
  cases a with
  |seq x y=>exact absurd rfl (ha x y)
  |none=>rfl
  |keep o g x =>
   have hne:o'≠o:=fun e=>h o (by simp[B3.site]) (by simp[B3.site,e])
   simp only[AL.app]
   congr 1;funext i;simp only[CO];split<;>split<;>simp_all
  |fresh o x =>
   have hne:o'≠o:=fun e=>h o (by simp[B3.site]) (by simp[B3.site,e])
   have hne':o≠o':=fun e=>hne e.symm
   simp only[AL.app]
   congr 1
   ·funext i;simp only[CO,hne,hne',if_false];split<;>split<;>simp_all
   ·funext i;simp only[CO,hne,hne',if_false];split<;>split<;>simp_all
theorem Sh {b:B3}:∀{a:B3}{V:AL},(∀o,o∈a.site->o∉b.site)->(V.app a).app b=(V.app b).app a
 |.seq a1 a2,V,h=>by
  have h1:∀o,o∈a1.site->o∉b.site:=fun o ho=>h o (by simp[B3.site,ho])
  have h2:∀o,o∈a2.site->o∉b.site:=fun o ho=>h o (by simp[B3.site,ho])
  show ((V.app a1).app a2).app b=((V.app b).app a1).app a2
  rw[Sh (a:=a2) h2,Sh (a:=a1) h1]
 |.none,V,h=>Jb (b:=b) (fun _ _=>by simp) h
 |.keep _ _ _,V,h=>Jb (b:=b) (fun _ _=>by simp) h
 |.fresh _ _,V,h=>Jb (b:=b) (fun _ _=>by simp) h
theorem ez {s:Bg}{d d':Option Nat}{v v':AV}{a b:B3}(hd:∀t,d=some t->d'≠some t) (h:∀o,o∈a.site->o∉b.site) :
  put (put s d v a) d' v' b=put (put s d' v' b) d v a:=by
 unfold put
 congr 1
 ·cases d<;>cases d'<;>try rfl
  rename_i t t'
  have hne:t'≠t:=fun e=>hd t rfl (by rw[e])
  funext i;simp only[CO];split<;>split<;>simp_all
 ·exact Sh h
def after (I:Nat->Ew) (v:Nat->AV) (ch:Nat->B3) (s0:Bg) (L:Nat->Bool):Nat->Bg
 |0=>s0
 |k+1=>if L k then put (after I v ch s0 L k) (I k).dst (v k) (ch k) else after I v ch s0 L k
section
variable {I:Nat->Ew}{v:Nat->AV}{ch:Nat->B3}{s0:Bg}{F:Nat->List Nat}
structure RE (I:Nat->Ew) (ch:Nat->B3) (F:Nat->List Nat) (i k:Nat):Prop where
 d1:∀t,(I i).dst=some t->t∉(I k).reads
 d2:∀t,(I k).dst=some t->t∉(I i).reads
 d3:∀t,(I i).dst=some t->(I k).dst≠some t
 s1:∀o,o∈(ch i).site->o∉F k
 s2:∀o,o∈(ch k).site->o∉F i
theorem RE.symm {i k:Nat}(h:RE I ch F i k):RE I ch F k i:=⟨h.d2,h.d1,fun t ht hi=>h.d3 t hi ht,h.s2,h.s1⟩
theorem Qj {L:Nat->Bool}{k n:Nat}(hk:k<=n) (hL:L k=false) (h1:∀i,i<k->L i=false->RE I ch F i k) (h2:∀i,k<i->i<n->L i=true->RE I ch F i k) :
  ZO (I k).reads (F k) (after I v ch s0 (fun _=>true) k) (after I v ch s0 L n):=by
 have a:∀m,m<=k->ZO (I k).reads (F k) (after I v ch s0 (fun _=>true) m) (after I v ch s0 L m):=by
  intro m
  induction m with
  |zero=>intro _;exact ZO.refl _ _ _
  |succ m ih =>
   intro hm
   have:=ih (by omega)
   simp only[after,if_true]
   cases hLm:L m with
   |true=>simp only[if_true];exact this.both _ _ _
   |false =>
    simp only[Bool.false_eq_true,if_false]
    have hf:=h1 m (by omega) hLm
    exact this.left hf.d1 hf.s1
 have b:∀m,k<=m->m<=n->ZO (I k).reads (F k) (after I v ch s0 (fun _=>true) k) (after I v ch s0 L m):=by
  intro m hm
  induction m with
  |zero =>
      intro _;have:k=0:=by omega
      subst this;exact a 0 (Nat.le_refl _)
  |succ m ih =>
   intro hmn
   by_cases hkm:k=m+1
   ·subst hkm;exact a _ (Nat.le_refl _)
   ·have:=ih (by omega) (by omega)
    simp only[after]
    cases hLm:L m with
    |false=>simp only[Bool.false_eq_true,if_false];exact this
    |true =>
     simp only[if_true]
     have hne:m≠k:=fun e=>by rw[e,hL] at hLm;cases hLm
     have hf:=h2 m (by omega) (by omega) hLm
     exact this.right hf.d1 hf.s1
 exact b n hk (Nat.le_refl _)
theorem O2 {L L':Nat->Bool}{k n:Nat}(hk:k<n) (hL:L k=false) (hL':∀i,L' i=if i=k then true else L i) (h2:∀i,k<i->i<n->L i=true->RE I ch F i k) (hF:∀i o,i<n->o∈(ch i).site->o∈F i) :
  after I v ch s0 L' n=put (after I v ch s0 L n) (I k).dst (v k) (ch k):=by
 have a:∀m,m<=k->after I v ch s0 L' m=after I v ch s0 L m:=by
  intro m
  induction m with
  |zero=>intro _;rfl
  |succ m ih =>
   intro hm
   simp only[after,ih (by omega),hL' m,show ¬m=k by omega,if_false]
 have b:∀m,k<m->m<=n->after I v ch s0 L' m=put (after I v ch s0 L m) (I k).dst (v k) (ch k):=by
  intro m hm
  induction m with
  |zero=>omega
  |succ m ih =>
   intro hmn
   by_cases hkm:m=k
   ·subst hkm
    simp only[after,a m (Nat.le_refl _),hL' m,if_true,hL,Bool.false_eq_true,if_false]
   ·simp only[after,ih (by omega) (by omega),hL' m,hkm,if_false]
    cases hLm:L m with
    |false=>simp only[Bool.false_eq_true,if_false]
    |true =>
     simp only[if_true]
     have hf:=h2 m (by omega) (by omega) hLm
     exact ez (fun t ht hm'=>hf.d3 t hm' ht) fun o ho hm'=>hf.s1 o hm' (hF k o hk ho)
 exact b n hk (Nat.le_refl _)
theorem Qi {L L':Nat->Bool}{n:Nat}(h:∀i,i<n->L i=L' i):∀m,m<=n->after I v ch s0 L m=after I v ch s0 L' m:=by
 intro m
 induction m with
 |zero=>intro _;rfl
 |succ m ih=>intro hm;simp only[after,ih (by omega),h m (by omega)]
end
end Go.Pw
end
section
namespace Go.Pw
def Rk:List (Ew×List Nat)->List (AV×B3)->Bg->Nat->Bg
 |(I,_)::l,r::tr,s,k+1=>Rk l tr (put s I.dst r.1 r.2) k
 |_,_,s,_=>s
def ap:List (Ew×List Nat)->List (AV×B3)->Bg->List Ss
 |(I,_)::l,r::tr,s=>(r.2.site,DV I s)::ap l tr (put s I.dst r.1 r.2)
 |_,_,_=>[]
variable {E:CW}
theorem Rv:∀{l:List (Ew×List Nat)}{tr:List (AV×B3)}{s:Bg}{k:Nat}{I:Ew}{dy:List Nat}{r:AV×B3},l[k]?=some (I,dy)->tr[k]?=some r ->
  (ap l tr s)[k]?=some (r.2.site,DV I (Rk l tr s k))
 |[],_,_,_,_,_,_,h,_=>by simp at h
 |_::_,[],_,_,_,_,_,_,h=>by simp at h
 |(J,dj)::l,q::tr,s,0,I,dy,r,h1,h2=>by
  simp at h1 h2;obtain⟨rfl,rfl⟩:=h1;subst h2;simp[ap,Rk]
 |(J,dj)::l,q::tr,s,k+1,I,dy,r,h1,h2=>by
  simp at h1 h2
  simp only[ap,Rk,List.getElem?_cons_succ]
  exact Rv h1 h2
theorem Rj:∀{l:List (Ew×List Nat)}{tr:List (AV×B3)}{s:Bg}{k:Nat}{I:Ew}{dy:List Nat}{r:AV×B3},l[k]?=some (I,dy)->tr[k]?=some r ->
  Rk l tr s (k+1)=put (Rk l tr s k) I.dst r.1 r.2
 |[],_,_,_,_,_,_,h,_=>by simp at h
 |_::_,[],_,_,_,_,_,_,h=>by simp at h
 |(J,dj)::l,q::tr,s,0,I,dy,r,h1,h2=>by
  simp at h1 h2;obtain⟨rfl,rfl⟩:=h1;subst h2
  simp only[Rk]
 |(J,dj)::l,q::tr,s,k+1,I,dy,r,h1,h2=>by
  simp at h1 h2
  simp only[Rk]
  exact Rj h1 h2
theorem eC:∀{l:List (Ew×List Nat)}{rec:List Ss}{s:Bg}{K:Bg->Prop},Qr E l rec s K->∃tr:List (AV×B3),tr.length=l.length/\K (Rk l tr s l.length) /\
  ∀(k:Nat) (I:Ew) (dy:List Nat) (r:AV×B3),l[k]?=some (I,dy)->tr[k]?=some r ->
   (∀o,o∈r.2.site->o∈dq I (Rk l tr s k)) /\
   (∀s' K',(∀t,t∈I.reads->s'.sl t=(Rk l tr s k).sl t)->DU (DV I (Rk l tr s k)) (Rk l tr s k).V s'.V->K' r.1 r.2->El E I s' K') /\
   (∀j,j∈dy->∃q,(rec++ap l tr s)[j]?=some q/\KA q (r.2.site,DV I (Rk l tr s k))=true)
 |[],rec,s,K,h=>⟨[],rfl,h,fun k I dy r hk=>by simp at hk⟩
 |(I,dy)::l,rec,s,K,h=>by
  simp only[Qr] at h
  obtain⟨v,ch,⟨hdy,hK⟩,hw,hloc⟩:=TW h
  obtain⟨tr,h1,h2,h3⟩:=eC hK
  refine⟨(v,ch)::tr,by simp[h1],by simpa[Rk] using h2,fun k J dj r hk hr=>?_⟩
  cases k with
  |zero =>
   simp at hk hr
   obtain⟨rfl,rfl⟩:=hk
   subst hr
   simp only[Rk]
   refine⟨hw,hloc,fun j hj=>?_⟩
   have:=List.all_eq_true.1 hdy j hj
   split at this
   ·rename_i q hq
    refine⟨q,?_,this⟩
    rw[List.getElem?_append_left (List.getElem?_eq_some_iff.1 hq).1];exact hq
   ·cases this
  |succ k =>
   simp at hk hr
   obtain⟨a1,a2,a3⟩:=h3 k J dj r hk hr
   simp only[Rk]
   refine⟨a1,a2,fun j hj=>?_⟩
   obtain⟨q,hq,hq2⟩:=a3 j hj
   refine⟨q,?_,hq2⟩
   simpa[ap,List.append_assoc] using hq
def VO (J I:Ew):Bool :=
 (match J.dst with|some t=>!I.reads.contains t && I.dst != some t|none=>true) && (match I.dst with|some t=>!J.reads.contains t|none=>true)
def Vf:oa->oa->Bool
 |.none,_=>true
 |_,.none=>true
 |.read,.read=>true
 |_,_=>false
def nN (ops:List Oper) (pre:List (List Nat)) (dis:List (Ew×List Nat)):Bool :=
 (List.range ops.length).all fun k =>
  match ops[k]?,dis[k]?,pre[k]? with
  |some o,some (I,dy),some p =>
   (o.after.toList.all fun e=>!Region.binds .any e || decide (e.on<k)) &&
   (p.all fun j=>o.after.toList.any fun e=>Region.binds .any e && (e.on == j || (match pre[e.on]? with|some q=>q.contains j|none=>false))) &&
   ((List.range k).all fun j=>p.contains j || (match dis[j]? with|some (J,_)=>VO J I && (dy.contains j || Vf J.op.foot I.op.foot)|none=>false))
  |_,_,_=>false
theorem Jw {ops:List Oper}{pre:List (List Nat)}{dis:List (Ew×List Nat)}(h:nN ops pre dis=true) {k:Nat}(hk:k<ops.length):∃o I dy p,ops[k]?=some o/\dis[k]?=some (I,dy)/\pre[k]?=some p /\
  (∀e,e∈o.after.toList->Region.binds .any e=true->e.on<k)/\(∀j,j∈p->∃e,e∈o.after.toList/\Region.binds .any e=true/\(e.on=j\/∃q,pre[e.on]?=some q/\j∈q)) /\
  (∀j,j<k->j∉p->∃J dj,dis[j]?=some (J,dj)/\VO J I=true/\(j∈dy\/Vf J.op.foot I.op.foot=true)):=by
 have:=List.all_eq_true.1 h k (by simpa using hk)
 split at this
 ·rename_i o I dy p h1 h2 h3
  simp only[Bool.and_eq_true] at this
  obtain⟨⟨a,b⟩,c⟩:=this
  refine⟨o,I,dy,p,h1,h2,h3,fun e he hb=>?_,fun j hj=>?_,fun j hj hjp=>?_⟩
  ·have:=List.all_eq_true.1 a e he
   simpa[hb] using this
  ·have:=List.all_eq_true.1 b j hj
   obtain⟨e,he,h4⟩:=List.any_eq_true.1 this
   simp only[Bool.and_eq_true,Bool.or_eq_true,beq_iff_eq] at h4
   refine⟨e,he,h4.1,h4.2.imp id fun h5=>?_⟩
   split at h5
   ·rename_i q hq;exact⟨q,hq,by simpa using h5⟩
   ·cases h5
  ·have:=List.all_eq_true.1 c j (by simpa using hj)
   have hnp:p.contains j=false:=by simpa using hjp
   rw[hnp,Bool.false_or] at this
   split at this
   ·rename_i J dj hJ
    simp only[Bool.and_eq_true,Bool.or_eq_true] at this
    exact⟨J,dj,hJ,this.1,this.2.imp (by simp) id⟩
   ·cases this
 ·cases this
theorem Qh {J I:Ew}(h:VO J I=true):(∀t,J.dst=some t->t∉I.reads)/\(∀t,I.dst=some t->t∉J.reads)/\(∀t,J.dst=some t->I.dst≠some t):=by
 unfold VO at h
 simp only[Bool.and_eq_true] at h
 refine⟨fun t ht=>?_,fun t ht=>?_,fun t ht=>?_⟩
 ·rw[ht] at h;simp at h;exact h.1.1
 ·rw[ht] at h;simp at h;exact h.2
 ·rw[ht] at h;simp at h;exact h.1.2
theorem TQ {J I:Ew}{s s':Bg}{a b:B3}(h:Vf J.op.foot I.op.foot=true) (ha:∀o,o∈a.site->o∈dq J s) (hb:∀o,o∈b.site->o∈dq I s') :
  (∀o,o∈a.site->o∉DV I s')/\∀o,o∈b.site->o∉DV J s:=by
 unfold dq K6 at ha hb
 unfold DV fp
 cases hJ:J.op.foot<;>cases hI:I.op.foot<;>simp_all[Vf]
section
variable {c:D_}{β:Nat->Nat->Value}{s:Bg}{a:Act}{w:World}{K:Bg->Prop}
theorem Dj {listed:Array Bool}{i:Nat}(hi:i<listed.size) (k:Nat) (d:Bool):(listed.setIfInBounds i true).getD k d=if k=i then true else listed.getD k d:=by
 by_cases h:k=i
 ·subst h;simp[Array.getD_eq_getD_getElem?,hi]
 ·simp[Array.getD_eq_getD_getElem?,Array.getElem?_setIfInBounds_ne (Ne.symm h),h]
theorem W6 {p q:Nat->Bool}{i:Nat}:∀{l:List Nat},l.Nodup->i∈l->p i=true->(∀k,q k=if k=i then false else p k)->(l.filter q).length+1=(l.filter p).length
 |[],_,h,_,_=>by cases h
 |x::l,hn,hi,hp,hq=>by
  rw[List.nodup_cons] at hn
  by_cases hx:x=i
  ·subst hx
   have hqx:q x=false:=by rw[hq];simp
   have hrest:l.filter q=l.filter p:=List.filter_congr fun y hy=>by
    rw[hq];have:y≠x:=fun e=>hn.1 (e ▸ hy)
    simp[this]
   simp[List.filter_cons,hqx,hp,hrest]
  ·have hil:i∈l:=by
    cases hi with
    |head=>exact absurd rfl hx
    |tail _ h=>exact h
   have ih:=W6 hn.2 hil hp hq
   have hqx:q x=p x:=by rw[hq];simp[hx]
   cases hpx:p x<;>simp[List.filter_cons,hqx,hpx]<;>omega
theorem T9 {listed:Array Bool}{n i fuel:Nat}(hi:i<listed.size) (hin:i<n) (h:listed.getD i false=false) (hc:((List.range n).filter fun k=>!listed.getD k false).length=fuel+1) :
  ((List.range n).filter fun k=>!(listed.setIfInBounds i true).getD k false).length=fuel:=by
 have:=W6 (p:=fun k=>!listed.getD k false) (q:=fun k=>!(listed.setIfInBounds i true).getD k false) (i:=i) (l:=List.range n) List.nodup_range (by simpa using hin) (by simp[h]) (fun k=>by
  rw[Dj hi];split<;>simp)
 omega
theorem Yz (r:Option Nat) (m:Nat) {fl:List Nat}{ns:Nat}{ops:List Oper}{dis:List (Ew×List Nat)}{pre:List (List Nat)}{Q:Exit->Act->World->Prop}(hdec:∀(k:Nat) (o:Oper) (I:Ew) (dy:List Nat),ops[k]?=some o->dis[k]?=some (I,dy)->Hz E true fl ns ops o=some I) (hlen:dis.length=ops.length) (hok:nN ops pre dis=true)
  (h:Br E c β s a.tmps w) (hn:a.tmps.size=ns) (hs:Qr E dis [] s K) (hQ:∀s' β' tm' w',K s'->Br E c β' s' tm' w'->tm'.size=ns->Q .normal ⟨tm',a.defers⟩ w') :
  wpAnyIn (rF r) m E.P .any ops.toArray Q ops.length (Array.replicate ops.length false) a w:=by
 obtain⟨tr,htl,hK,htr⟩:=eC hs
 let I:Nat->Ew:=fun k=>(dis.getD k default).1
 let v:Nat->AV:=fun k=>(tr.getD k (.undef,.none)).1
 let ch:Nat->B3:=fun k=>(tr.getD k (.undef,.none)).2
 let F:Nat->List Nat:=fun k=>DV (I k) (Rk dis tr s k)
 have hI:∀{k J dy},dis[k]?=some (J,dy)->I k=J:=fun {k J dy} h=>by simp[I,List.getD,h]
 have hr:∀{k q},tr[k]?=some q->v k=q.1/\ch k=q.2:=fun {k q} h=>by simp[v,ch,List.getD,h]
 have hst:∀k,k<=ops.length->after I v ch s (fun _=>true) k=Rk dis tr s k:=by
  intro k
  induction k with
  |zero=>intro _;cases dis<;>cases tr<;>rfl
  |succ k ih =>
   intro hk
   have h1:dis[k]?=some dis[k]:=List.getElem?_eq_getElem (by omega)
   have h2:tr[k]?=some tr[k]:=List.getElem?_eq_getElem (by omega)
   simp only[after,if_true,ih (by omega)]
   rw[Rj h1 h2,hI h1,(hr h2).1,(hr h2).2]
 have hsite:∀i o,i<ops.length->o∈(ch i).site->o∈F i:=by
  intro i o hi ho
  have h1:dis[i]?=some dis[i]:=List.getElem?_eq_getElem (by omega)
  have h2:tr[i]?=some tr[i]:=List.getElem?_eq_getElem (by omega)
  rw[(hr h2).2] at ho
  have:=(htr i _ _ _ h1 h2).1 o ho
  show o∈DV (I i) _
  rw[hI h1];exact dp this
 have hfree:∀j k p,j<k->k<ops.length->pre[k]?=some p->j∉p->RE I ch F j k:=by
  intro j k p hjk hk hp hjp
  obtain⟨o,Ik,dy,p',h1,h2,h3,h4,h5,h6⟩:=Jw hok hk
  rw[hp] at h3;simp at h3;subst h3
  obtain⟨J,dj,h7,h8,h9⟩:=h6 j hjk hjp
  have g1:tr[k]?=some tr[k]:=List.getElem?_eq_getElem (by omega)
  have g2:tr[j]?=some tr[j]:=List.getElem?_eq_getElem (by omega)
  obtain⟨d1,d2,d3⟩:=Qh h8
  have key:(∀o,o∈(ch j).site->o∉F k)/\∀o,o∈(ch k).site->o∉F j:=by
   show (∀o,o∈(ch j).site->o∉DV (I k) _)/\∀o,o∈(ch k).site->o∉DV (I j) _
   rw[hI h2,hI h7,(hr g1).2,(hr g2).2]
   rcases h9 with h9|h9
   ·obtain⟨q,hq,hq2⟩:=(htr k _ _ _ h2 g1).2.2 j h9
    rw[List.nil_append,Rv h7 g2] at hq
    simp at hq;subst hq
    simp only[KA,Bool.and_eq_true] at hq2
    refine⟨fun o ho=>?_,fun o ho=>?_⟩
    ·have:=List.all_eq_true.1 hq2.1 o ho;simpa using this
    ·have:=List.all_eq_true.1 hq2.2 o ho;simpa using this
   ·exact TQ h9 (htr j _ _ _ h7 g2).1 (htr k _ _ _ h2 g1).1
  exact⟨by rw[hI h2,hI h7];exact d1,by rw[hI h2,hI h7];exact d2,by rw[hI h2,hI h7];exact d3,key.1,key.2⟩
 have hclosed:∀(L:Nat->Bool),(∀k o,ops[k]?=some o->L k=true->∀e,e∈o.after.toList->Region.binds .any e=true->L e.on=true)->∀k,k<ops.length->∀p,pre[k]?=some p ->
   (∀o,ops[k]?=some o->∀e,e∈o.after.toList->Region.binds .any e=true->L e.on=true)->∀j,j∈p->L j=true:=by
  intro L hL k
  induction k using Nat.strongRecOn with
  |_ k ih =>
   intro hk p hp hpre j hj
   obtain⟨o,Ik,dy,p',h1,h2,h3,h4,h5,h6⟩:=Jw hok hk
   rw[hp] at h3;simp at h3;subst h3
   obtain⟨e,he,hb,h7⟩:=h5 j hj
   have hlt:=h4 e he hb
   have hLe:=hpre o h1 e he hb
   rcases h7 with h7|⟨q,hq,hjq⟩
   ·rw[←h7];exact hLe
   ·refine ih e.on hlt (by omega) q hq (fun o' ho' e' he' hb'=>hL e.on o' ho' hLe e' he' hb') j hjq
 have main:∀(fuel:Nat) (listed:Array Bool) (tm:Array Value) (β:Nat->Nat->Value) (w:World),listed.size=ops.length->((List.range ops.length).filter fun k=>!listed.getD k false).length=fuel ->
   (∀k o,ops[k]?=some o->listed.getD k false=true->∀e,e∈o.after.toList->Region.binds .any e=true->listed.getD e.on false=true) ->
   Br E c β (after I v ch s (fun k=>listed.getD k false) ops.length) tm w->tm.size=ns->wpAnyIn (rF r) m E.P .any ops.toArray Q fuel listed ⟨tm,a.defers⟩ w:=by
  intro fuel
  induction fuel with
  |zero =>
   intro listed tm β w hsz hcount hcl hrel htm
   have hall:∀k,k<ops.length->listed.getD k false=true:=by
    intro k hk
    have hnil:=List.eq_nil_of_length_eq_zero hcount
    have:k∉(List.range ops.length).filter fun k=>!listed.getD k false:=by rw[hnil];simp
    simpa[hk] using this
   refine⟨?_,?_⟩
   ·cases hre:Region.ready .any ops.toArray listed with
    |nil=>rfl
    |cons i rest =>
     have hi:i∈Region.ready .any ops.toArray listed:=by rw[hre];simp
     simp only[Region.ready,List.mem_filter,List.mem_range,List.size_toArray,Bool.and_eq_true] at hi
     have:=hall i hi.1
     have hi2:=hi.2.1
     have hlt:i<listed.size:=by omega
     simp[Array.getD_eq_getD_getElem?,hlt] at this hi2
     rw[this] at hi2;cases hi2
   ·refine hQ _ β tm w ?_ hrel htm
    have:=Qi (I:=I) (v:=v) (ch:=ch) (s0:=s) (L:=fun k=>listed.getD k false) (L':=fun _=>true) (n:=ops.length) hall ops.length (Nat.le_refl _)
    rw[this,hst _ (Nat.le_refl _),←hlen];exact hK
  |succ fuel ih =>
   intro listed tm β w hsz hcount hcl hrel htm
   refine⟨fun hnil=>?_,fun i hi=>?_⟩
   ·
    exfalso
    have hex:∃k,k<ops.length/\listed.getD k false=false:=by
     cases hf:(List.range ops.length).filter fun k=>!listed.getD k false with
     |nil=>rw[hf] at hcount;cases hcount
     |cons k rest =>
      have:k∈(List.range ops.length).filter fun k=>!listed.getD k false:=by rw[hf];simp
      exact⟨k,by simpa using this⟩
    have hmin:∃k,k<ops.length/\listed.getD k false=false/\∀j,j<k->listed.getD j false=true:=by
     obtain⟨k,hk⟩:=hex
     induction k using Nat.strongRecOn with
     |_ k ihk =>
      by_cases hall:∀j,j<k->listed.getD j false=true
      ·exact⟨k,hk.1,hk.2,hall⟩
      ·simp only[Classical.not_forall] at hall
       obtain⟨j,hj,hjl⟩:=hall
       exact ihk j hj ⟨by omega,by simpa using hjl⟩
    obtain⟨k,hk,hkl,hbelow⟩:=hmin
    obtain⟨o,Ik,dy,p,h1,h2,h3,h4,h5,h6⟩:=Jw hok hk
    have:k∈Region.ready .any ops.toArray listed:=by
     simp only[Region.ready,List.mem_filter,List.mem_range,List.size_toArray,Bool.and_eq_true]
     refine⟨hk,?_,?_⟩
     ·have hlt:k<listed.size:=by omega
      simp[Array.getD_eq_getD_getElem?,hlt] at hkl ⊢;exact hkl
     ·simp only[List.getElem?_toArray,h1,Option.map_some,Option.getD_some,Array.all_eq_true',Bool.or_eq_true,Bool.not_eq_true']
      intro e he
      by_cases hb:Region.binds .any e=true
      ·exact .inr (hbelow _ (h4 e (by simpa using he) hb))
      ·exact .inl (by simpa using hb)
    rw[hnil] at this;cases this
   ·simp only[Region.ready,List.mem_filter,List.mem_range,List.size_toArray,Bool.and_eq_true] at hi
    obtain⟨hin,hil,hia⟩:=hi
    have hlt:i<listed.size:=by omega
    have hil':listed.getD i false=false:=by
     simp[Array.getD_eq_getD_getElem?,hlt] at hil ⊢;exact hil
    obtain⟨o,Ii,dy,p,h1,h2,h3,h4,h5,h6⟩:=Jw hok hin
    simp only[List.getElem?_toArray,h1,Option.map_some,Option.getD_some,Array.all_eq_true',Bool.or_eq_true,Bool.not_eq_true'] at hia
    have hpre:∀e,e∈o.after.toList->Region.binds .any e=true->listed.getD e.on false=true:=fun e he hb=>by
     rcases hia e (by simpa using he) with h|h
     ·rw[hb] at h;cases h
     ·exact h
    have g2:tr[i]?=some tr[i]:=List.getElem?_eq_getElem (by omega)
    have hun1:∀j,j<i->listed.getD j false=false->RE I ch F j i:=fun j hj hjl=>by
     refine hfree j i p hj hin h3 fun hjp=>?_
     have:=hclosed (fun k=>listed.getD k false) hcl i hin p h3 (fun o' ho' e he hb=>by rw[h1] at ho';simp at ho';subst ho';exact hpre e he hb) j hjp
     rw[hjl] at this;cases this
    have hun2:∀j,i<j->j<ops.length->listed.getD j false=true->RE I ch F i j:=fun j hj hjn hjl=>by
     obtain⟨oj,Ij,dyj,pj,k1,k2,k3,k4,k5,k6⟩:=Jw hok hjn
     refine hfree i j pj hj hjn k3 fun hip=>?_
     have:=hclosed (fun k=>listed.getD k false) hcl j hjn pj k3 (fun o' ho' e he hb=>hcl j o' ho' hjl e he hb) i hip
     rw[hil'] at this;cases this
    have hag:=Qj (I:=I) (v:=v) (ch:=ch) (s0:=s) (F:=F) (L:=fun k=>listed.getD k false) (k:=i) (n:=ops.length) (by omega) hil' hun1 fun j hj hjn hjl=>(hun2 j hj hjn hjl).symm
    have hins:=O2 (I:=I) (v:=v) (ch:=ch) (s0:=s) (F:=F) (L:=fun k=>listed.getD k false) (L':=fun k=>(listed.setIfInBounds i true).getD k false) (k:=i) (n:=ops.length) hin hil' (fun k=>Dj hlt k false) (fun j hj hjn hjl=>(hun2 j hj hjn hjl).symm) hsite
    rw[hst i (by omega)] at hag
    have hstep:El E Ii (after I v ch s (fun k=>listed.getD k false) ops.length) (fun v' ch'=>v'=v i/\ch'=ch i):=by
     refine(htr i _ _ _ h2 g2).2.1 _ _ (fun t ht=>?_) ?_ ⟨(hr g2).1.symm,(hr g2).2.symm⟩
     ·have:=hag.1 t (by rw[hI h2];exact ht)
      exact this
     ·have:=hag.2
      show DU (DV Ii _) _ _
      have hF:F i=DV Ii (Rk dis tr s i):=by show DV (I i) _=_;rw[hI h2]
      rw[←hF];exact this
    unfold wpOpIn
    simp only[List.getElem?_toArray,h1]
    refine Hh r m (a:=⟨tm,a.defers⟩) hrel (hdec i o Ii dy h1 h2) htm hstep fun v' ch' β' tm' w' hvc hrel' htm'=>?_
    obtain⟨rfl,rfl⟩:=hvc
    refine ih (listed.setIfInBounds i true) tm' β' w' (by simpa using hsz) ?_ (fun k o' ho' hk e he hb=>?_) ?_ htm'
    ·exact T9 hlt hin hil' hcount
    ·rw[Dj hlt] at hk ⊢
     split
     ·rfl
     ·split at hk
      ·rename_i hki;subst hki
       rw[h1] at ho';simp at ho';subst ho'
       exact hpre e he hb
      ·exact hcl k o' ho' hk e he hb
    ·rw[hins,hI h2];exact hrel'
 have h0:after I v ch s (fun k=>(Array.replicate ops.length false).getD k false) ops.length=s:=by
  have hf:∀k,(Array.replicate ops.length false).getD k false=false:=fun k=>by
   simp only[Array.getD_eq_getD_getElem?,Array.getElem?_replicate];split<;>rfl
  have:∀m,after I v ch s (fun k=>(Array.replicate ops.length false).getD k false) m=s:=by
   intro m
   induction m with
   |zero=>rfl
   |succ m ih =>
    simp only[after]
    rw[if_neg (by rw[hf];simp)];exact ih
  exact this _
 have hf:∀k,(Array.replicate ops.length false).getD k false=false:=fun k=>by
  simp only[Array.getD_eq_getD_getElem?,Array.getElem?_replicate];split<;>rfl
 refine main ops.length _ a.tmps β w (by simp) ?_ (fun k o ho hk=>by rw[hf] at hk;cases hk) (by rw[h0];exact h) hn
 have:((List.range ops.length).filter fun k=>!(Array.replicate ops.length false).getD k false)=List.range ops.length:=by
  rw[List.filter_eq_self];intro k _;rw[hf];rfl
 rw[this];simp
end
end Go.Pw
end
