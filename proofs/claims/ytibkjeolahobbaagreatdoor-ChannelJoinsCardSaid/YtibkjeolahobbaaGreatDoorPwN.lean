/- A part of the proof. -/
import Derived.Test.YtibkjeolahobbaaGreatDoorPkA
set_option linter.all false
namespace Go.Pw
open Go.RowKit
theorem CD {α:Type}{cs vs:List α}{off:Nat}(h:off+vs.length<=cs.length):(BA cs off vs).length=cs.length:=by
 simp[BA];omega
theorem Ce {α:Type}{cs vs:List α}{off:Nat}(h:off+vs.length<=cs.length) (i:Nat) :
  (BA cs off vs)[i]?=if i<off then cs[i]? else if i<off+vs.length then vs[i-off]? else cs[i]?:=by
 unfold BA
 split
 ·rename_i hi
  rw[List.append_assoc,List.getElem?_append_left (by simp;omega),List.getElem?_take,if_pos hi]
 ·rename_i hi
  split
  ·rename_i hi2
   rw[List.append_assoc,List.getElem?_append_right (by simp;omega),List.length_take,Nat.min_eq_left (by omega),List.getElem?_append_left (by omega)]
  ·rename_i hi2
   rw[List.getElem?_append_right (by simp;omega),List.getElem?_drop]
   congr 1
   simp;omega
theorem I_ {α:Type}{cs vs:List α}{off:Nat}{x:α}(h:x∈BA cs off vs):x∈cs\/x∈vs:=by
 simp only[BA,List.mem_append] at h
 rcases h with(h|h)|h
 ·exact .inl (List.mem_of_mem_take h)
 ·exact .inr h
 ·exact .inl (List.mem_of_mem_drop h)
section
variable {E:CB}{c:C4}{β:Nat->Nat->Value}{s:A1}{tm:Array Value}{w:World}{K:AV->BQ->Prop}
theorem Tx {α:Type}{R:α->Value->Prop}{cs vs:List α}{us ws:Array Value}{off:Nat}(h1:BW R cs us) (h2:BW R vs ws) (h:off+vs.length<=cs.length) :
  BW R (BA cs off vs) (BA us.toList off ws.toList).toArray:=by
 have e1:=h1.1;have e2:=h2.1
 have hh:off+ws.toList.length<=us.toList.length:=by simp;omega
 refine⟨by rw[List.size_toArray,CD hh,CD h];simp;omega,fun i x v hx hv=>?_⟩
 rw[List.getElem?_toArray] at hv
 rw[Ce h] at hx
 rw[Ce hh] at hv
 have e3:ws.toList.length=vs.length:=by simp;omega
 rw[e3] at hv
 split at hx
 ·rename_i hi;rw[if_pos hi] at hv;exact h1.2 i x v hx (by simpa using hv)
 ·rename_i hi;rw[if_neg hi] at hv
  split at hx
  ·rename_i hi2;rw[if_pos hi2] at hv;exact h2.2 _ x v hx (by simpa using hv)
  ·rename_i hi2;rw[if_neg hi2] at hv;exact h1.2 i x v hx (by simpa using hv)
theorem D2 {b:Nat}{cur:Array Value}{v:Value}(hv:Cm v b):Iv v w (w.setRow b cur):=by
 refine⟨rfl,rfl,rfl,by simp[World.setRow],fun k hk hne=>setRow_other w b k _ (fun h=>hne (h ▸ hv))⟩
theorem E1 {t:TypeId}{n:Nat}(hsz:EY E.P t=some n) {b off:Nat}{cur:Array Value}{e:TypeId}(hb:w.heap[b]?=some (.cells cur e (0,0))) {u:Value}(hu:u.cells.size=n) (h1:∀v,v∈u.cells.toList->v.oneCell'=true) (hfit:off+n<=cur.size) :
  (Instr.storeAt t (.pointer (some ⟨b,off,none⟩)) u).run E.P w=.ok () (w.setRow b (BA cur.toList off u.cells.toList).toArray):=by
 have:=run_storeCells_at E.P b off e u.cells.toList 0 cur w hb (by simp;omega) h1
 simp only[Nat.add_zero] at this
 simp[Instr.storeAt,Instr.sureAddr,storeVar,BS hsz,hu,this,BA]
theorem KY {α:Type}{R:α->Value->Prop}{one:α->Bool}{cs:List α}{us:Array Value}(h:BW R cs us) (h1:∀y,y∈cs->one y=true) (h2:∀y v,one y=true->R y v->v.oneCell'=true):∀v,v∈us.toList->v.oneCell'=true:=by
 intro v hv
 obtain⟨i,hi⟩:=List.getElem?_of_mem hv
 have hi':us[i]?=some v:=by simpa using hi
 have hlt:i<us.size:=(Array.getElem?_eq_some_iff.1 hi').1
 obtain⟨y,hy⟩:∃y,cs[i]?=some y:=⟨_,List.getElem?_eq_getElem (by have:=h.1;omega)⟩
 exact h2 y v (h1 y (List.mem_of_getElem? hy)) (h.2 i y v hy hi')
theorem Ql {fb β' cn} {x:AV}{u:Value}{d:D}(h:AY w fb β' cn x u) (hd:x.toD1=some d):BW (Aw w fb) d.cells u.cells/\∀y,y∈d.cells->y.one=true:=by
 obtain⟨hr,_⟩:=DA h hd
 have hne:(∀l,d≠.tup l)/\d≠.junk:=by
  unfold AV.toD1 at hd
  split at hd
  ·split at hd<;>simp at hd;subst hd;exact⟨fun _=>by simp,by simp⟩
  ·split at hd<;>simp at hd;subst hd;exact⟨fun _=>by simp,by simp⟩
  ·unfold AV.toD0 at hd
   split at hd
   ·cases hd
   ·cases hd
   ·simp at hd;subst hd;exact⟨fun l hl=>by simp_all,fun hj=>by simp_all⟩
   ·simp at hd;subst hd;exact⟨fun _=>by simp,by simp⟩
   ·split at hd
    ·cases hd
    ·simp at hd;subst hd;exact⟨fun _=>by simp,by simp⟩
   ·cases hd
 have single:d.one=true->d.cells=[d]->BW (Aw w fb) d.cells u.cells/\∀y,y∈d.cells->y.one=true:=by
  intro h1 hc
  rw[hc,Fn (hr.oneCell h1)]
  refine⟨⟨rfl,fun i c v hc hv=>?_⟩,by simpa using h1⟩
  match i with
  |0=>simp at hc hv;subst hc hv;exact hr
  |i+1=>simp at hc
 cases d with
 |agg cs=>cases hr with|agg _ vs hl h1 hc=>exact⟨⟨hl,hc⟩,h1⟩
 |tup l=>exact absurd rfl (hne.1 l)
 |junk=>exact absurd rfl hne.2
 |_=>exact single rfl rfl
theorem VY (h:BI E c β s tm w) {t:TypeId}{n:Nat}(hsz:EY E.P t=some n) (hn:0<n) {dst:Option Nat}{p x:AV}{up ux:Value}
  (hp:AY w (c.bar β s.V) β s.V.cn p up) (hx:AY w (c.bar β s.V) β s.V.cn x ux) (he:ev E dst s.V (.store n) [p,x] K) :
  rV E c s tm K ((Instr.storeAt t up ux).run E.P w):=by
 unfold ev at he
 simp only at he
 split at he
 ·rename_i o g off x' heq
  simp only[List.cons.injEq,and_true] at heq;obtain⟨rfl,rfl⟩:=heq
  split at he
  ·rename_i cs vs hg hc
   obtain⟨hvn,hfit,he⟩:=he
   have hob:=AN.get_some hg
   obtain⟨hlt,ho⟩:=h.objs _ _ _ hob
   cases hp with|ptr _ _ _ b hlt hβ =>
   rw[hβ] at ho
   cases ho with|cells _ _ cur e hb hl h1 hr =>
   obtain⟨h3,h4⟩:=M0 hx hc
   have hones:=KY (one:=AV.one) h3 h4 fun y v h1 h2=>h2.oneCell h1
   have hun:ux.cells.size=n:=by have:=h3.1;omega
   refine⟨_,_,β,E1 hsz hb hun hones (by omega),he,h.kept hob (by rw[hβ];exact D2 rfl) fun fb' hf hfe=>?_⟩
   have hst:Am (c.bar β s.V) w (w.setRow b (BA cur.toList off ux.cells.toList).toArray):=fun k hk hlt=>by
    refine setRow_other w b k _ fun hkb=>hk (.inr ⟨o,g,_,hob,by rw[hβ,hkb];exact rfl⟩)
   rw[hβ]
   have hsp:=Tx (off:=off) ⟨hl,hr⟩ h3 (by omega)
   refine .cells _ b _ e (setRow_heap w b cur _ e _ hb) hsp.1 (fun y hy=>(I_ hy).elim (h1 y) (h4 y)) fun i y u hy hu=>?_
   exact(hsp.2 i y u hy hu).mono hst hf (fun _ _ _=>rfl) (fun _=>Nat.le_refl _)
  ·exact he.elim
 ·rename_i o g es0 i off x' heq
  simp only[List.cons.injEq,and_true] at heq;obtain⟨rfl,rfl⟩:=heq
  split at he
  ·rename_i ety es nl l y hg hd
   obtain⟨rfl,he⟩:=he
   split at he
   ·rename_i z hz
    obtain⟨hyn,hfit,hcase,he⟩:=he
    have hob:=AN.get_some hg
    obtain⟨hlt,ho⟩:=h.objs _ _ _ hob
    cases hp with|rptr _ _ _ _ _ b b0 len cap hlt hβ =>
    rw[hβ] at ho
    cases ho with|row _ _ _ _ _ ho =>
    rcases ho with⟨_,_,h3⟩|⟨hnl,b',off',cap',cur,h2,h3,h4,h5,h6,h7,h8,h10,h9⟩
    ·cases h3
    ·simp only[Value.slice.injEq,Option.some.injEq,Addr.mk.injEq] at h2
     obtain⟨⟨rfl,rfl,_⟩,rfl,rfl⟩:=h2
     obtain⟨hyr,hy1⟩:=Ql hx hd
     have hones:=KY (one:=D.one) hyr hy1 fun y v h1 h2=>h2.oneCell h1
     have hun:ux.cells.size=n:=by have:=hyr.1;omega
     have hzl:z.cells.length=es0:=h8 z (List.mem_of_getElem? hz)
     have hi:i<l.length:=(List.getElem?_eq_some_iff.1 hz).1
     have hbig:b0+i*es0+off+n<=cur.size:=by
      have:(i+1)*es0<=cap*es0:=Nat.mul_le_mul_right _ (by omega)
      rw[Nat.add_mul] at this;omega
     generalize hz':(if n=es0 then y else D.agg (BA z.cells off y.cells))=z' at he
     have hz'c:z'.cells=BA z.cells off y.cells:=by
      rw[←hz']
      split
      ·rename_i hne
       have:off=0:=by omega
       subst this
       simp[BA,hzl,hyn,hne]
      ·rfl
     have hz'l:z'.cells.length=es0:=by rw[hz'c,CD (by omega)];exact hzl
     refine⟨_,_,β,E1 hsz h3 hun hones hbig,he,h.kept hob (by rw[hβ];exact D2 rfl) fun fb' hf hfe=>?_⟩
     have hst:Am (c.bar β s.V) w (w.setRow b (BA cur.toList (b0+i*es0+off) ux.cells.toList).toArray):=fun k hk hlt=>by
      refine setRow_other w b k _ fun hkb=>hk (.inr ⟨o,g,_,hob,by rw[hβ,hkb];exact rfl⟩)
     rw[hβ]
     have hfit':(b0+i*es0+off)+ux.cells.toList.length<=cur.toList.length:=by simp;omega
     refine .row _ _ _ _ _ (.inr ⟨hnl,b,b0,cap,_,by simp,setRow_heap w b cur _ _ _ h3,by simpa using h4,h5,by rw[List.size_toArray,CD hfit'];simpa using h6,h7,fun q hq=>?_,fun q cc hq hc=>?_,fun k q j cc hk hj=>?_⟩)
     ·rcases List.mem_or_eq_of_mem_set hq with hq|rfl
      ·exact h8 q hq
      ·exact hz'l
     ·rcases List.mem_or_eq_of_mem_set hq with hq|rfl
      ·exact h10 q cc hq hc
      ·rw[hz'c] at hc
       exact(I_ hc).elim (h10 z cc (List.mem_of_getElem? hz)) (hy1 cc)
     ·rw[List.getElem?_toArray,Ce hfit']
      have hlen:ux.cells.toList.length=n:=by simpa using hun
      rw[hlen]
      have hjlt:j<q.cells.length:=(List.getElem?_eq_some_iff.1 hj).1
      by_cases hki:i=k
      ·subst hki
       simp[hi] at hk;subst hk
       rw[hz'l] at hjlt
       rw[hz'c,Ce (by omega),hyn] at hj
       by_cases hj1:j<off
       ·rw[if_pos hj1] at hj
        rw[if_pos (by omega)]
        obtain⟨u,hu,hd⟩:=h9 i z j cc hz hj
        exact⟨u,by simpa using hu,hd.mono hst hf⟩
       ·rw[if_neg hj1] at hj
        rw[if_neg (by omega)]
        by_cases hj2:j<off+n
        ·rw[if_pos hj2] at hj
         rw[if_pos (by omega),show b0+i*es0+j-(b0+i*es0+off)=j-off by omega]
         obtain⟨u,hu⟩:∃u,ux.cells[j-off]?=some u:=⟨_,Array.getElem?_eq_getElem (by omega)⟩
         exact⟨u,by simpa using hu,(hyr.2 _ cc u hj hu).mono hst hf⟩
        ·rw[if_neg hj2] at hj
         rw[if_neg (by omega)]
         obtain⟨u,hu,hd⟩:=h9 i z j cc hz hj
         exact⟨u,by simpa using hu,hd.mono hst hf⟩
      ·rw[List.getElem?_set_ne hki] at hk
       rw[h8 q (List.mem_of_getElem? hk)] at hjlt
       obtain⟨u,hu,hd⟩:=h9 k q j cc hk hj
       have hout:¬(b0+i*es0+off<=b0+k*es0+j/\b0+k*es0+j<b0+i*es0+off+n):=by
        rintro⟨g1,g2⟩
        rcases Nat.lt_or_ge k i with hlt|hge
        ·have:(k+1)*es0<=i*es0:=Nat.mul_le_mul_right _ hlt
         rw[Nat.add_mul] at this;omega
        ·have:(i+1)*es0<=k*es0:=Nat.mul_le_mul_right _ (by omega)
         rw[Nat.add_mul] at this;omega
       refine⟨u,?_,hd.mono hst hf⟩
       split
       ·simpa using hu
       ·rw[if_neg (by omega)];simpa using hu
   ·exact he.elim
  ·exact he.elim
 ·rename_i i o g j o' g' heq
  simp only[List.cons.injEq,and_true] at heq;obtain⟨rfl,rfl⟩:=heq
  split at he
  ·rename_i e1 e2 nl ix rows hg
   obtain⟨rfl,rfl,rfl,hi,hj,hK⟩:=he
   have hob:=AN.get_some hg
   obtain⟨hlt,ho⟩:=h.objs _ _ _ hob
   obtain⟨v,hv⟩:∃v,β o' g'=v:=⟨_,rfl⟩
   cases hp with|mref _ _ _ _ _ hm _ =>
   cases hx with|mref _ _ _ _ _ hmx hux1 =>
   rw[hv] at ho
   cases ho with|mat _ _ _ _ _ _ ho =>
   obtain⟨v0,vs,hvv,hlen,h0,hr,hsep⟩:=ho
   have hv':=hv
   rw[hvv] at hv'
   rw[hv'] at hm hmx
   simp only[D_,Ba,List.getElem?_cons_succ] at hmx
   rcases h0 with⟨_,h01,_⟩|⟨hnl,b,off,cap,cur,h2,h3,h4,h5,h6,h7⟩
   ·rw[h01] at hi;simp at hi
   ·subst h2
    simp only[D_,Ba,List.getElem?_cons_zero,Option.bind_some,Qx,Option.some.injEq] at hm
    subst hm
    have hcs:=Fn hux1
    have hblk:Cm (β o' g') b:=by rw[hv'];exact⟨0,_,by rw[Ba];rfl,rfl⟩
    refine⟨_,_,β,E1 (n:=1) hsz h3 (by rw[hcs];rfl) (fun v hv=>by rw[hcs] at hv;simp at hv;subst hv;exact hux1) (by omega),hK,h.kept hob (D2 hblk) fun fb' hf hfe=>?_⟩
    have hst:Am (c.bar β s.V) w (w.setRow b (BA cur.toList (off+i) ux.cells.toList).toArray):=fun k hk hlt=>by
     refine setRow_other w b k _ fun hkb=>hk (.inr ⟨_,_,_,hob,hkb ▸ hblk⟩)
    rw[hv']
    have hfit:off+i+[ux].length<=cur.toList.length:=by simp;omega
    refine .mat _ _ _ _ _ _ ⟨_,vs,rfl,hlen,.inr ⟨hnl,b,off,cap,_,by simp,setRow_heap w b cur _ _ _ h3,by simpa using h4,h5,?_,fun p q hp=>?_⟩,fun q y u hy hu=>?_,hsep⟩
    ·rw[hcs,List.size_toArray,CD (by simpa using hfit)];simpa using h6
    ·rw[hcs,List.getElem?_toArray,show (#[ux]:Array Value).toList=[ux] from rfl,Ce hfit]
     have hpl:p<ix.length:=by have:=(List.getElem?_eq_some_iff.1 hp).1;simpa using this
     by_cases hpi:p=i
     ·subst hpi
      rw[List.getElem?_set_self hi] at hp
      simp at hp;subst hp
      exact⟨ux,hmx,by rw[if_neg (by omega),if_pos (by simp)];simp⟩
     ·rw[List.getElem?_set_ne (Ne.symm hpi)] at hp
      obtain⟨u,hu1,hu2⟩:=h7 p q hp
      refine⟨u,hu1,?_⟩
      by_cases hlt2:p<i
      ·rw[if_pos (by omega)];simpa using hu2
      ·rw[if_neg (by omega),if_neg (by simp;omega)];simpa using hu2
    ·have hrow:=hr q y u hy hu
     refine hrow.mono hst hf fun b' hb' _=>setRow_other w b b' _ fun hbb=>?_
     have:=hsep 0 (q+1) _ u b rfl (by simpa using hu) rfl (hbb ▸ hrow.blk hb')
     omega
  ·exact he.elim
 ·rename_i i o g q p' heq
  simp only[List.cons.injEq,and_true] at heq;obtain⟨rfl,rfl⟩:=heq
  split at he
  ·rename_i e1 e2 nl ix rows e2' es2 nl2 l2 hg hg2
   obtain⟨rfl,hol,hql,hoq,he1,he2,hi,hK⟩:=he
   subst he1 he2
   have hob:=AN.get_some hg
   have hob2:=AN.get_some hg2
   obtain⟨hlt,ho⟩:=h.objs _ _ _ hob
   obtain⟨hlt2,ho2⟩:=h.objs _ _ _ hob2
   obtain⟨v,hv⟩:∃v,β o g=v:=⟨_,rfl⟩
   obtain⟨uq,hvq⟩:∃u,β q p'=u:=⟨_,rfl⟩
   cases hp with|mref _ _ _ _ _ hm _ =>
   have hux:ux=uq/\uq.oneCell'=true:=by cases hx with|own _ _ _ h1=>exact⟨hvq,hvq ▸ h1⟩
   obtain⟨rfl,hux1⟩:=hux
   rw[hvq] at ho2
   cases ho2 with|row _ _ _ _ _ ho2 =>
   rw[hv] at ho
   cases ho with|mat _ _ _ _ _ _ ho =>
   obtain⟨v0,vs,hvv,hlen,h0,hr,hsep⟩:=ho
   have hv':=hv
   rw[hvv] at hv'
   rw[hv'] at hm
   rcases h0 with⟨_,h01,_⟩|⟨hnl,b,off,cap,cur,h2,h3,h4,h5,h6,h7⟩
   ·rw[h01] at hi;simp at hi
   ·subst h2
    simp only[D_,Ba,List.getElem?_cons_zero,Option.bind_some,Qx,Option.some.injEq] at hm
    subst hm
    have hcs:=Fn hux1
    have hblk0:Cm (.tuple (.slice (some ⟨b,off,none⟩) ix.length cap::vs).toArray) b:=⟨0,_,by rw[Ba];rfl,rfl⟩
    have hblk:Cm (β o g) b:=by rw[hv'];exact hblk0
    have hrun:=E1 (n:=1) hsz h3 (off:=off+i) (u:=ux) (by rw[hcs];rfl) (fun v hv=>by rw[hcs] at hv;simp at hv;subst hv;exact hux1) (by omega)
    have hblkr:∀{j u b},vs[j]?=some u->Ay u=some b->Cm (β o g) b:=fun {j u b} hj hb=>by rw[hv'];exact⟨j+1,u,by simpa using hj,hb⟩
    have hblkq:∀{b},Ay ux=some b->Cm (β q p') b:=fun {b} hb=>by
     rw[hvq]
     rcases ho2 with⟨_,_,h⟩|⟨_,_,_,_,_,h,_⟩
     ·rw[h] at hb;cases hb
     ·rw[h] at hb ⊢;exact hb
    have hsepq:∀{b},Cm (β o g) b->Ay ux=some b->False:=fun {b} hb hq=>hoq (h.sep _ _ _ _ _ _ b hob hob2 hb (hblkq hq))
    have hst:Am (c.bar β s.V) w (w.setRow b (BA cur.toList (off+i) ux.cells.toList).toArray):=fun k hk hlt=>by
     refine setRow_other w b k _ fun hkb=>hk (.inr ⟨_,_,_,hob,hkb ▸ hblk⟩)
    have hfit:off+i+[ux].length<=cur.toList.length:=by simp;omega
    have hpart:∀{j u},(Value.slice (some ⟨b,off,none⟩) ix.length cap::(vs++[ux]))[j]?=some u->(j=0/\u=.slice (some ⟨b,off,none⟩) ix.length cap)\/(∃j',j=j'+1/\vs[j']?=some u)\/(j=vs.length+1/\u=ux):=fun {j u} hj=>by
     cases j with
     |zero=>simp at hj;exact .inl ⟨rfl,hj.symm⟩
     |succ j =>
      simp only[List.getElem?_cons_succ] at hj
      by_cases hjl:j<vs.length
      ·rw[List.getElem?_append_left hjl] at hj;exact .inr (.inl ⟨j,rfl,hj⟩)
      ·rw[List.getElem?_append_right (by omega)] at hj
       have:=(List.getElem?_eq_some_iff.1 hj).1
       simp at this
       have hjj:j=vs.length:=by omega
       subst hjj
       simp at hj;exact .inr (.inr ⟨rfl,hj.symm⟩)
    have hrel1:=h.absorb (us:=[ux]) (x:=.mat e1 e2' nl (ix.set i rows.length) (rows++[(nl2,l2)])) hob hob2 hoq hol hv' (D2 (cur:=(BA cur.toList (off+i) ux.cells.toList).toArray) hblk0) (fun b' u hu hb'=>by
     simp at hu;subst hu;exact hblkq hb') fun β' fb' hf=>by
      refine .mat _ _ _ _ _ _ ⟨_,vs++[ux],rfl,by simp[hlen],.inr ⟨hnl,b,off,cap,_,by simp,setRow_heap w b cur _ _ _ h3,by simpa using h4,h5,?_,fun p j hp=>?_⟩,fun j x u hx hu=>?_,fun a a' u u' b' ha ha' hu hu'=>?_⟩
      ·rw[hcs,List.size_toArray,CD (by simpa using hfit)];simpa using h6
      ·rw[hcs,List.getElem?_toArray,show (#[ux]:Array Value).toList=[ux] from rfl,Ce hfit]
       have hpl:p<ix.length:=by have:=(List.getElem?_eq_some_iff.1 hp).1;simpa using this
       by_cases hpi:p=i
       ·subst hpi
        rw[List.getElem?_set_self hi] at hp
        simp at hp;subst hp
        exact⟨ux,by rw[←hlen];simp,by rw[if_neg (by omega),if_pos (by simp)];simp⟩
       ·rw[List.getElem?_set_ne (Ne.symm hpi)] at hp
        obtain⟨u,hu1,hu2⟩:=h7 p j hp
        refine⟨u,by rw[List.getElem?_append_left (List.getElem?_eq_some_iff.1 hu1).1];exact hu1,?_⟩
        by_cases hlt2:p<i
        ·rw[if_pos (by omega)];simpa using hu2
        ·rw[if_neg (by omega),if_neg (by simp;omega)];simpa using hu2
      ·by_cases hjl:j<vs.length
       ·rw[List.getElem?_append_left hjl] at hu
        rw[List.getElem?_append_left (by omega)] at hx
        have hrow:=hr j x u hx hu
        refine hrow.mono hst hf fun b' hb' _=>setRow_other w b b' _ fun hbb=>?_
        have:=hsep 0 (j+1) _ u b rfl (by simpa using hu) rfl (hbb ▸ hrow.blk hb')
        omega
       ·rw[List.getElem?_append_right (by omega)] at hu
        rw[List.getElem?_append_right (by omega)] at hx
        have:=(List.getElem?_eq_some_iff.1 hu).1
        simp at this
        have hjj:j=vs.length:=by omega
        subst hjj
        simp at hu;subst hu
        rw[hlen] at hx;simp at hx;subst hx
        exact ho2.mono hst hf fun b' hb' _=>setRow_other w b b' _ fun hbb=>hsepq hblk (hbb ▸ ho2.blk hb')
      ·rcases hpart ha with⟨rfl,rfl⟩|⟨j,rfl,hj⟩|⟨rfl,rfl⟩<;>rcases hpart ha' with⟨rfl,rfl⟩|⟨j',rfl,hj'⟩|⟨rfl,rfl⟩
       ·rfl
       ·exact hsep 0 (j'+1) _ u' b' rfl (by simpa using hj') hu hu'
       ·simp[Ay] at hu;subst hu;exact(hsepq hblk hu').elim
       ·exact hsep (j+1) 0 u _ b' (by simpa using hj) rfl hu hu'
       ·exact hsep (j+1) (j'+1) u u' b' (by simpa using hj) (by simpa using hj') hu hu'
       ·exact(hsepq (hblkr hj hu) hu').elim
       ·simp[Ay] at hu';subst hu';exact(hsepq hblk hu).elim
       ·exact(hsepq (hblkr hj' hu') hu).elim
       ·rfl
    have hrel2:=hrel1.fresh (o:=q) (x:=.row e2' 1 true []) hql (vo:=.slice none 0 0) (Iv.of_below _ (Below.refl _ _)) (fun b hb=>by simp[Cm,Ay] at hb) fun β' fb' _ _ _=>.row _ _ _ _ _ (.inl ⟨rfl,rfl,rfl⟩)
    have hV:(AN.app (AN.app (AN.mk (Bs s.V.ob q none) s.V.cn) (.keep o g (.mat e1 e2' nl (ix.set i rows.length) (rows++[(nl2,l2)])))) (.fresh q (.row e2' 1 true [])))=s.V.app (.seq (.keep o g (.mat e1 e2' nl (ix.set i rows.length) (rows++[(nl2,l2)]))) (.fresh q (.row e2' 1 true []))):=by
     simp only[AN.app]
     congr 1
     funext z
     by_cases h1:z=q<;>by_cases h2:z=o<;>simp[Bs,h1,h2]
    exact⟨_,_,_,hrun,hK,hV ▸ hrel2⟩
  ·exact he.elim
 ·rename_i j k o g x' heq
  simp only[List.cons.injEq,and_true] at heq;obtain⟨rfl,rfl⟩:=heq
  split at he
  ·rename_i e1 e2 nl ix rows y hg hd
   split at he
   ·rename_i x0 hx0
    obtain⟨rfl,hy1,hk,hK⟩:=he
    have hob:=AN.get_some hg
    obtain⟨hlt,ho⟩:=h.objs _ _ _ hob
    obtain⟨v,hv⟩:∃v,β o g=v:=⟨_,rfl⟩
    cases hp with|mref _ _ _ _ _ hm _ =>
    rw[hv] at ho
    cases ho with|mat _ _ _ _ _ _ ho =>
    obtain⟨v0,vs,hvv,hlen,h0,hr,hsep⟩:=ho
    have hv':=hv
    rw[hvv] at hv'
    rw[hv'] at hm
    obtain⟨uj,huj⟩:∃u,vs[j]?=some u:=⟨_,List.getElem?_eq_getElem (by have:=(List.getElem?_eq_some_iff.1 hx0).1;omega)⟩
    rcases hr j x0 uj hx0 huj with⟨_,h01,_⟩|⟨hnl,b,off,cap,cur,h2,h3,h4,h5,h6,h7,h8,h10,h9⟩
    ·rw[h01] at hk;simp at hk
    ·subst h2
     simp only[D_,Ba,List.getElem?_cons_succ,huj,Option.bind_some,Qx,Option.some.injEq] at hm
     subst hm
     obtain⟨hyr,hyo⟩:=Ql hx hd
     have hones:=KY (one:=D.one) hyr hyo fun y v h1 h2=>h2.oneCell h1
     have hun:ux.cells.size=1:=by have:=hyr.1;omega
     obtain⟨uy,huy⟩:∃uy,ux.cells.toList=[uy]:=by
      refine⟨ux.cells[0]'(by omega),?_⟩
      apply List.ext_getElem
      ·simpa using hun
      ·intro j h2 h3;simp at h3;subst h3;simp
     have hblk:Cm (β o g) b:=by rw[hv'];exact⟨j+1,_,by simpa using huj,rfl⟩
     refine⟨_,_,β,E1 (n:=1) hsz h3 hun hones (by omega),hK,h.kept hob (D2 hblk) fun fb' hf hfe=>?_⟩
     have hst:Am (c.bar β s.V) w (w.setRow b (BA cur.toList (off+k) ux.cells.toList).toArray):=fun k hk hlt=>by
      refine setRow_other w b k _ fun hkb=>hk (.inr ⟨_,_,_,hob,hkb ▸ hblk⟩)
     rw[hv']
     have hfit:off+k+[uy].length<=cur.toList.length:=by simp;omega
     refine .mat _ _ _ _ _ _ ⟨_,vs,rfl,by simpa using hlen,?_,fun q y' u hy' hu=>?_,hsep⟩
     ·rcases h0 with h0|⟨k0,b',off',cap',cur',k2,k3,k4,k5,k6,k7⟩
      ·exact .inl h0
      ·refine .inr ⟨k0,b',off',cap',cur',k2,?_,k4,k5,k6,k7⟩
       rw[setRow_other w b b' _ fun hbb=>?_];exact k3
       subst k2
       have:=hsep 0 (j+1) _ _ b rfl (by simpa using huj) (by rw[←hbb];rfl) rfl
       omega
     ·by_cases hqj:q=j
      ·subst hqj
       rw[List.getElem?_set_self (List.getElem?_eq_some_iff.1 hx0).1] at hy'
       simp at hy';subst hy'
       rw[huj] at hu;simp at hu;subst hu
       refine .inr ⟨hnl,b,off,cap,_,by simp,setRow_heap w b cur _ _ _ h3,by simpa using h4,h5,?_,h7,fun z hz=>?_,fun z cc hz hc=>?_,fun p z m cc hp hm=>?_⟩
       ·rw[huy,List.size_toArray,CD hfit];simpa using h6
       ·rcases List.mem_or_eq_of_mem_set hz with hz|rfl
        ·exact h8 z hz
        ·exact hy1
       ·rcases List.mem_or_eq_of_mem_set hz with hz|rfl
        ·exact h10 z cc hz hc
        ·exact hyo cc hc
       ·have hget:∀q,(BA cur.toList (off+k) ux.cells.toList).toArray[q]?=if q<off+k then cur.toList[q]? else if q<off+k+[uy].length then [uy][q-(off+k)]? else cur.toList[q]?:=fun q=>by
         rw[huy,List.getElem?_toArray,Ce hfit]
        rw[hget]
        by_cases hpk:p=k
        ·subst hpk
         simp only[List.getElem?_set_self hk,Option.some.injEq] at hp
         subst hp
         have hm0:m=0:=by have:=(List.getElem?_eq_some_iff.1 hm).1;omega
         subst hm0
         refine⟨uy,by rw[if_neg (by omega),if_pos (by simp)];simp,(hyr.2 0 cc uy hm ?_).mono hst hf⟩
         rw[←Array.getElem?_toList,huy];rfl
        ·simp only[List.getElem?_set_ne (Ne.symm hpk)] at hp
         have hm0:m=0:=by have:=(List.getElem?_eq_some_iff.1 hm).1;have:=h8 z (List.mem_of_getElem? hp);omega
         subst hm0
         obtain⟨u,hu1,hu2⟩:=h9 p z 0 cc hp hm
         refine⟨u,?_,hu2.mono hst hf⟩
         by_cases hlt2:p<k
         ·rw[if_pos (by omega)];simpa using hu1
         ·rw[if_neg (by omega),if_neg (by simp;omega)];simpa using hu1
      ·rw[List.getElem?_set_ne (Ne.symm hqj)] at hy'
       have hrow:=hr q y' u hy' hu
       refine hrow.mono hst hf fun b' hb' _=>setRow_other w b b' _ fun hbb=>?_
       have:=hsep (j+1) (q+1) _ u b (by simpa using huj) (by simpa using hu) rfl (hbb ▸ hrow.blk hb')
       omega
   ·exact he.elim
  ·exact he.elim
 ·exact he.elim
end
end Go.Pw
