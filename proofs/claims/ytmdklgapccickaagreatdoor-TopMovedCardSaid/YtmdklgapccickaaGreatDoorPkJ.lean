/- Part. -/
import Derived.Test.YtmdklgapccickaaGreatDoorPkA
set_option linter.all false
open Array renaming getElem?_eq_getElem->aa,getD_eq_getD_getElem?->ay
open List renaming getElem?_eq_some_iff->ax,mem_of_getElem?->az,getElem?_of_mem->ck,getElem?_eq_getElem->cp,getElem?_cons_succ->ea,mem_map->eb,forIn_cons->et
open Option renaming getD_some->cw,map_some->f0,bind_some->hX,bind_none->hY,map_eq_some_iff->i5,filter_eq_some_iff->i7
open Bool renaming and_eq_true->c8,false_eq_true->hU
section
namespace Go.Pw
open Go.RowKit
section
variable {E:CW}{c:EG}{β:Nat->Nat->Value}{s:BG}{tm:Array Value}{w:World}{K:AV->Bs->Prop}
theorem M5{fb β' cn}{x:AV}{u:Value}{d:D}(h:AP w fb β' cn x u)(hd:x.toD0=some d):Ar w fb d u/\(x.one=true->d.one=true):=by
 unfold AV.toD0 at hd;split at hd
 ·cases hd
 ·cases hd
 ·simp at hd;subst hd
  cases h with|d _ _ h=>exact⟨h,fun h=>h⟩
 ·simp at hd;subst hd
  cases h with|ex _ a h=>exact⟨h,fun _=>rfl⟩
 ·split at hd
  ·cases hd
  ·simp at hd;subst hd
   cases h with|dptr _ _ b base vs hb hne h1 hc hv=>exact⟨.ptr _ b base vs hb hne h1 hc hv,fun _=>rfl⟩
 ·cases hd
theorem D5{α γ:Type}{f:α->Option γ}{l:List α}{r:List γ}{y:γ}(h:Ax f l=some r)(j:y∈r):∃x,x∈l/\f x=some y:=by
 obtain⟨i,hi⟩:=ck j;have e:i<l.length:=by rw[←Af h];exact(ax.1 hi).1
 obtain⟨m,h1,h2⟩:=C7 h (cp e);rw[hi]at h1;simp at h1;subst h1;exact⟨_,List.getElem_mem e,h2⟩
theorem BC{α γ:Type}{f:α->Option γ}{l:List α}{r:List γ}{i:Nat}{y:γ}(h:Ax f l=some r)(j:r[i]?=some y):∃x,l[i]?=some x/\f x=some y:=by
 have e:i<l.length:=by rw[←Af h];exact(ax.1 j).1
 obtain⟨m,h1,h2⟩:=C7 h (cp e);rw[j]at h1;simp at h1;subst h1;exact⟨_,cp e,h2⟩
theorem B'{fb β' cn}{x:AV}{u:Value}{d:D}(h:AP w fb β' cn x u)(hd:x.toD1=some d):Ar w fb d u/\(x.one=true->d.one=true):=by
 unfold AV.toD1 at hd;split at hd
 ·rename_i cs;split at hd
  ·rename_i l hl;simp at hd;subst hd;obtain⟨vs,rfl,hc,h1⟩:=Zq h;refine⟨.agg l vs (by rw[Af hl];exact hc.1) (fun y j=>?_) (fun i y v j hv=>?_),fun h=>by simp[AV.one]at h⟩
   ·obtain⟨x,hx,e⟩:=D5 hl j;obtain⟨i,hi⟩:=ck hx;obtain⟨v,hv⟩:∃v,vs[i]?=some v:=⟨_,aa (by have:=hc.1;have:=(ax.1 hi).1;omega)⟩
    exact(M5 (hc.2 i x v hi hv) e).2 (h1 x hx)
   ·obtain⟨x,hx,e⟩:=BC hl j;exact(M5 (hc.2 i x v hx hv) e).1
  ·cases hd
 ·rename_i f cs;split at hd
  ·rename_i l hl;simp at hd;subst hd
   cases h with|fn _ _ vs hlen hr =>
   exact⟨.fn f l vs (by rw[Af hl];exact hlen) (fun i y v j hv=>by
    obtain⟨x,hx,e⟩:=BC hl j
    exact(M5 (hr i x v hx hv) e).1),fun _=>rfl⟩
  ·cases hd
 ·rename_i f cs;split at hd
  ·rename_i l hl;simp at hd;subst hd
   cases h with|bnd _ _ vs hlen hr =>
   exact⟨.bnd f l vs (by rw[Af hl];exact hlen) (fun i y v j hv=>by
    obtain⟨x,hx,e⟩:=BC hl j
    exact(M5 (hr i x v hx hv) e).1),fun _=>rfl⟩
  ·cases hd
 ·exact M5 h hd
theorem Sq{c:EG}{β:Nat->Nat->Value}{V:AO}{b:Nat}(h:c.fb b):c.bar β V b:=.inl h
theorem Et{x:AV}{xs:List AV}{o:Nat}(hx:x∈xs)(ho:o∈x.sites):o∈AV.sites.sitesL xs:=by
 induction xs with
 |nil=>cases hx
 |cons y ys ih =>
  simp only[AV.sites.sitesL,List.mem_append]
  cases hx with
  |head=>exact .inl ho
  |tail _ h=>exact .inr (ih h)
theorem Cq{w':World}{fb:Nat->Prop}{ety es:Nat}{nl:Bool}{l:List D}{v:Value}(h:B3 w' fb ety es nl l v)(hb:∀b,C4 v b->¬fb b):Ar w' fb (.list nl l) v:=by
 rcases h with⟨h1,h2,h3⟩|⟨h1,b,off,cap,cur,h2,h3,h4,h5,h6,h7,h8,h10,h9⟩
 ·subst h1 h2;rw[h3];exact .nil
 ·subst h1;subst h2;refine .list l es b off cap (fun i j=>cur.getD (off+i*es+j) undef) h4 h5 (hb b rfl) h7 h8 h10 (fun i x j c hi e=>?_) (fun i x j c hi e=>?_)
  ·obtain⟨u,hu,_⟩:=h9 i x j c hi e;rw[CI h3,hu];simp[ay,hu]
  ·obtain⟨u,hu,hd⟩:=h9 i x j c hi e;simpa[ay,hu]using hd
theorem yz{fb fb':Nat->Prop}{β':Nat->Nat->Value}{cn:Nat->Nat}{tys:LW}{kvs:List (D×D)}{v:Value}(h:Ef w fb β' cn (.map tys kvs) v)(hb:∀b,C4 v b->¬fb' b)(o:∀b,fb' b->fb b):Ar w fb' (.map tys kvs) v:=by
 cases h with|map _ _ b es hh hl h =>
 have ent:∀(i:Nat) e,es[i]?=some e->i<kvs.length/\e.born=i:=fun i e l=>by
  have hi:i<kvs.length:=by rw[←hl];exact(Array.getElem?_eq_some_iff.1 l).1
  exact⟨hi,(h i _ e (cp hi) l).2.2.2⟩
 refine .map tys kvs b es kvs.length (hb b rfl) hh hl ⟨fun i e l=>by have:=ent i e l;omega,fun i j e p h1 h2 q=>by have:=ent i e h1;have:=ent j p h2;omega⟩ (fun kv m=>?_) (fun i kv e h1 h2=>(h i kv e h1 h2).2.1.mono (Aq.refl _ _) fun b _ hb=>o b hb) (fun i kv e h1 h2=>(h i kv e h1 h2).2.2.1.mono (Aq.refl _ _) fun b _ hb=>o b hb);obtain⟨i,hi⟩:=ck m;have n:i<es.size:=by rw[hl];exact(ax.1 hi).1
 exact(h i kv _ hi (aa n)).1
theorem HV(h:BZ E c β s tm w){fb':Nat->Prop}(J:∀b,fb' b->c.bar β s.V b){x:AV}{u:Value}{d:D}(hx:AP w (c.bar β s.V) β s.V.cn x u)(hd:x.snap0 s.V=some d)(hs:∀o g y b,o∈x.sites->s.V.ob o=some (g,y)->C4 (β o g) b->¬fb' b):Ar w fb' d u/\(x.one=true->d.one=true):=by
 have weak:∀{d:D}{u:Value},Ar w (c.bar β s.V) d u->Ar w fb' d u:=fun h=>h.mono (Aq.refl _ _) fun b _ hb=>J b hb
 unfold AV.snap0 at hd;split at hd
 ·rename_i o g;split at hd
  ·rename_i ety es nl l hg;simp at hd;subst hd;have m:=AO.get_some hg;obtain⟨p,ho⟩:=h.objs _ _ _ m
   cases ho with|row _ _ _ _ _ ho =>
   cases hx with|own _ _ _ _ =>
   refine⟨?_,fun _=>rfl⟩;rcases ho with⟨h1,h2,h3⟩|⟨h1,b,off,cap,cur,h2,h3,h4,h5,h6,h7,h8,h10,h9⟩
   ·subst h1 h2;rw[h3];exact .nil
   ·subst h1;rw[h2];refine .list l es b off cap (fun i j=>cur.getD (off+i*es+j) undef) h4 h5 ?_ h7 h8 h10 (fun i x j c hi r=>?_) (fun i x j c hi r=>?_)
    ·exact hs o g _ b (by simp[AV.sites]) m (by rw[h2];exact rfl)
    ·obtain⟨u,hu,_⟩:=h9 i x j c hi r;rw[CI h3,hu];simp[ay,hu]
    ·obtain⟨u,hu,hd⟩:=h9 i x j c hi r;simp only[ay,hu,cw];exact weak hd
  ·cases hd
 ·rename_i o g;split at hd
  ·rename_i xs hg;split at hd
   ·rename_i T l hl;simp at hd;subst hd;have m:=AO.get_some hg;obtain⟨p,ho⟩:=h.objs _ _ _ m
    cases hx with|ptr _ _ _ b p hβ =>
    rw[hβ]at ho
    cases ho with|cells _ _ cur e hb hlen h1 hr =>
    refine⟨.ptr (T::l) b 0 (fun j=>cur.getD j undef) (hs o g _ b (by simp[AV.sites]) m (by rw[hβ];exact rfl)) (by simp) (fun y A=>?_) (fun j y r=>?_) (fun j y r=>?_),fun _=>rfl⟩
    ·obtain⟨x,hx,t⟩:=D5 hl A;obtain⟨i,hi⟩:=ck hx;obtain⟨v,hv⟩:∃v,cur[i]?=some v:=⟨_,aa (by have:=(ax.1 hi).1;omega)⟩
     exact(B' (hr i x v hi hv) t).2 (h1 x hx)
    ·obtain⟨x,hx,t⟩:=BC hl r;have p:j<cur.size:=by have:=(ax.1 hx).1;omega
     rw[Nat.zero_add,CI hb,aa p];simp[ay,p]
    ·obtain⟨x,hx,t⟩:=BC hl r;have p:j<cur.size:=by have:=(ax.1 hx).1;omega
     have:=(B' (hr j x _ hx (aa p)) t).1;simp only[ay,aa p,cw];exact weak this
   ·cases hd
  ·cases hd
 ·rename_i off n cap o g;split at hd
  ·rename_i xs hg;split at hd
   ·rename_i hc;obtain⟨S,R,U⟩:=hc;split at hd
    ·rename_i l hl;simp at hd;subst hd;have m:=AO.get_some hg;obtain⟨p,ho⟩:=h.objs _ _ _ m
     cases hx with|mref _ _ _ u hlt2 hm h1u =>
     obtain⟨v,hv⟩:∃v,β o g=v:=⟨_,rfl⟩
     rw[hv]at ho hm
     cases ho with|cells _ b cur e hb hlen h1 hr =>
     simp only[Ei]at hm;split at hm
     ·simp at hm;subst hm;have B:l.length=n:=by rw[Af hl,List.length_take,List.length_drop];omega
      have z:∀(i:Nat) y,l[i]?=some y->∃x u,xs[off+i]?=some x/\cur[off+i]?=some u/\x.toD1=some y/\AP w (c.bar β s.V) β s.V.cn x u:=fun i y A=>by
       obtain⟨x,hx,t⟩:=BC hl A;have O:i<n:=by rw[←B];exact(ax.1 A).1
       rw[List.getElem?_take_of_lt O,List.getElem?_drop]at hx;have G:off+i<cur.size:=by rw[hlen];omega
       exact⟨x,_,hx,aa G,t,hr _ x _ hx (aa G)⟩
      have q:∀y,y∈l->y.one=true/\y.cells=[y]:=fun y A=>by
       obtain⟨i,hi⟩:=ck A;obtain⟨x,u,k1,k2,N,M⟩:=z i y hi;have:=(B' M N).2 (h1 x (az k1));exact⟨this,by cases y<;>simp_all[D.one,D.cells]⟩
      refine⟨?_,fun _=>rfl⟩
      have key:=Ar.list (w:=w) (fb:=fb') l 1 b off cap (fun i _=>cur.getD (off+i) undef) (by omega) (by simp only[maxLen];omega) (hs o g _ b (by simp[AV.sites]) m (by rw[hv];exact rfl)) Nat.zero_lt_one
       (fun x hx=>by rw[(q x hx).2];rfl) (fun x c hx L=>by rw[(q x hx).2,List.mem_singleton]at L;subst L;exact(q c hx).1)
       (fun i x j c hi r=>by
        have hx:=(q x (az hi)).2;rw[hx]at r
        cases j with
        |zero =>
         obtain⟨x',u,k1,k2,N,M⟩:=z i x hi;rw[show off+i*1+0=off+i by omega,CI hb,k2];simp[ay,k2]
        |succ j=>simp at r)
       (fun i x j c hi r=>by
        have hx:=(q x (az hi)).2;rw[hx]at r
        cases j with
        |zero =>
         simp at r;subst r;obtain⟨x',u,k1,k2,N,M⟩:=z i x hi;simp only[ay,k2,cw];exact weak (B' M N).1
        |succ j=>simp at r)
      rw[B]at key;exact key
     ·cases hm
    ·cases hd
   ·cases hd
  ·cases hd
 ·rename_i o g
  cases hx with|map _ _ _ _ =>
  split at hd
  ·rename_i tys kvs hg;simp at hd;subst hd;have m:=AO.get_some hg;exact⟨yz (h.objs _ _ _ m).2 (fun b hb=>hs o g _ b (by simp[AV.sites]) m hb) J,fun _=>rfl⟩
  ·cases hd
 ·obtain⟨h1,h2⟩:=B' hx hd;exact⟨weak h1,h2⟩
theorem Xa(h:BZ E c β s tm w){fb':Nat->Prop}(j:∀b,fb' b->c.bar β s.V b){x:AV}{u:Value}{d:D}(hx:AP w (c.bar β s.V) β s.V.cn x u)(hd:x.snap s.V=some d)(hs:∀o g y b,o∈x.sites->s.V.ob o=some (g,y)->C4 (β o g) b->¬fb' b):Ar w fb' d u:=by
 unfold AV.snap at hd;split at hd
 ·rename_i cs;split at hd
  ·rename_i l hl;simp at hd;subst hd;obtain⟨vs,rfl,hc,h1⟩:=Zq hx;refine .agg l vs (by rw[Af hl];exact hc.1) (fun y m=>?_) (fun i y v m hv=>?_)
   ·obtain⟨x,hx,e⟩:=D5 hl m;obtain⟨i,hi⟩:=ck hx;obtain⟨v,hv⟩:∃v,vs[i]?=some v:=⟨_,aa (by have:=hc.1;have:=(ax.1 hi).1;omega)⟩
    exact(HV h j (hc.2 i x v hi hv) e fun o g y b ho=>hs o g y b (by simp only[AV.sites];exact Et hx ho)).2 (h1 x hx)
   ·obtain⟨x,hx,e⟩:=BC hl m;exact(HV h j (hc.2 i x v hx hv) e fun o g y b ho=>hs o g y b (by simp only[AV.sites];exact Et (az hx) ho)).1
  ·cases hd
 ·rename_i f cs;split at hd
  ·rename_i l hl;simp at hd;subst hd
   cases hx with|fn _ _ vs hlen hr =>
   exact .fn f l vs (by rw[Af hl];exact hlen) (fun i y v m hv=>by
    obtain⟨x,hx,e⟩:=BC hl m
    exact(HV h j (hr i x v hx hv) e fun o g y b ho=>hs o g y b (by simp only[AV.sites];exact Et (az hx) ho)).1)
  ·cases hd
 ·rename_i f cs;split at hd
  ·rename_i l hl;simp at hd;subst hd
   cases hx with|bnd _ _ vs hlen hr =>
   exact .bnd f l vs (by rw[Af hl];exact hlen) (fun i y v m hv=>by
    obtain⟨x,hx,e⟩:=BC hl m
    exact(HV h j (hr i x v hx hv) e fun o g y b ho=>hs o g y b (by simp only[AV.sites];exact Et (az hx) ho)).1)
  ·cases hd
 ·exact(HV h j hx hd hs).1
theorem SV(h:BZ E c β s tm w){x:AV}{u:Value}{d:D}(hx:AP w (c.bar β s.V) β s.V.cn x u)(hd:x.snap0 s.V=some d):Ar w c.fb d u/\(x.one=true->d.one=true) :=
 HV h (fun b hb=>Sq hb) hx hd fun o g y b _ ho hb=>(h.home o g y b ho hb).2.2
theorem VF(h:BZ E c β s tm w){x:AV}{u:Value}{d:D}(hx:AP w (c.bar β s.V) β s.V.cn x u)(hd:x.snap s.V=some d):Ar w c.fb d u :=
 Xa h (fun b hb=>Sq hb) hx hd fun o g y b _ ho hb=>(h.home o g y b ho hb).2.2
theorem Xb(h:BZ E c β s tm w){x:AV}{u:Value}{d:D}(hx:AP w (c.bar β s.V) β s.V.cn x u)(hd:x.snapC s.V=some d):Ar w c.fb d u/\(x.one=true->d.one=true):=by
 unfold AV.snapC at hd;split at hd
 ·rename_i o g;exact SV h hx (by unfold AV.snap0;exact hd)
 ·rename_i o g;exact SV h hx (by unfold AV.snap0;exact hd)
 ·obtain⟨h1,h2⟩:=B' hx hd;exact⟨h1.mono (Aq.refl _ _) fun b _ hb=>Sq hb,h2⟩
theorem XZ(h:BZ E c β s tm w){x:AV}{u:Value}{d:D}(hx:AP w (c.bar β s.V) β s.V.cn x u)(hd:x.snapN s.V=some d):Ar w c.fb d u:=by
 unfold AV.snapN at hd;split at hd
 ·rename_i o g;split at hd
  ·rename_i xs hg;split at hd
   ·rename_i t l hl;simp at hd;subst hd;have p:=AO.get_some hg;obtain⟨m,ho⟩:=h.objs _ _ _ p
    cases hx with|ptr _ _ _ b m hβ =>
    rw[hβ]at ho
    cases ho with|cells _ _ cur e hb hlen h1 hr =>
    refine .ptr (t::l) b 0 (fun j=>cur.getD j undef) ((h.home o g _ b p (by rw[hβ];exact rfl)).2.2) (by simp) (fun y r=>?_) (fun j y q=>?_) (fun j y q=>?_)
    ·obtain⟨x,hx,n⟩:=D5 hl r;obtain⟨i,hi⟩:=ck hx;obtain⟨v,hv⟩:∃v,cur[i]?=some v:=⟨_,aa (by have:=(ax.1 hi).1;omega)⟩
     exact(Xb h (hr i x v hi hv) n).2 (h1 x hx)
    ·obtain⟨x,hx,n⟩:=BC hl q;have m:j<cur.size:=by have:=(ax.1 hx).1;omega
     rw[Nat.zero_add,CI hb,aa m];simp[ay,m]
    ·obtain⟨x,hx,n⟩:=BC hl q;have m:j<cur.size:=by have:=(ax.1 hx).1;omega
     have:=(Xb h (hr j x _ hx (aa m)) n).1;simp only[ay,aa m,cw];exact this
   ·cases hd
  ·cases hd
 ·exact VF h hx hd
theorem bm(h:BZ E c β s tm w){fb':Nat->Prop}(q:∀b,fb' b->c.bar β s.V b){e1 e2:Nat}{n:Bool}{ix:List Nat}{rows:List (Bool×List D)}{o g j:Nat}{x:Bool×List D}{u:Value}
  (hg:s.V.get o g=some (.mat e1 e2 n ix rows)) (hx:rows[j]?=some x) (y:JS x=true) (hp:AP w (c.bar β s.V) β s.V.cn (.mref (.row j) o g) u) (hs:∀b,C4 (β o g) b->¬fb' b):Ar w fb' (.list x.1 x.2) u:=by
 have l:=AO.get_some hg;obtain⟨p,ho⟩:=h.objs _ _ _ l;obtain⟨v,hv⟩:∃v,β o g=v:=⟨_,rfl⟩
 cases hp with|mref _ _ _ u p hm hu1 =>
 rw[hv]at ho
 cases ho with|mat _ _ _ _ _ _ ho =>
 obtain⟨z,vs,m,r,hc,hr,t⟩:=ho;have i:=hv;rw[m]at i;rw[i]at hm hs;simp only[Ei,Bn,ea]at hm;have e:=(hr j x u hx hm).2 y;refine Cq (e.mono (Aq.refl _ _) (fun b _ hb=>q b hb) fun _ _ _=>rfl) fun b hb=>hs b ⟨j+1,u,by simpa using hm,e.blk hb⟩
theorem ig(h:BZ E c β s tm w){fb':Nat->Prop}(B:∀b,fb' b->c.bar β s.V b){e1 e2:Nat}{nl:Bool}{ix:List Nat}{rows:List (Bool×List D)}{o g:Nat}{u:Value}
  (hg:s.V.get o g=some (.mat e1 e2 nl ix rows)) (t:Zo ix rows=true) (hp:AP w (c.bar β s.V) β s.V.cn (.mref .out o g) u) (hs:∀b,C4 (β o g) b->¬fb' b):Ar w fb' (.list nl (Mw ix rows)) u:=by
 have y:=AO.get_some hg;obtain⟨p,ho⟩:=h.objs _ _ _ y;obtain⟨v,hv⟩:∃v,β o g=v:=⟨_,rfl⟩
 have O:=hp
 cases hp with|mref _ _ _ u p hm hu1 =>
 rw[hv]at ho
 cases ho with|mat _ _ _ _ _ _ ho =>
 obtain⟨R,vs,z,J,hc,hr,L⟩:=ho;have e:=hv;rw[z]at e;rw[e]at hm;simp only[Ei,Bn,List.getElem?_cons_zero,Option.some.injEq]at hm;subst hm;rcases hc with⟨h01,h02,h03⟩|⟨h01,b,off,cap,cur,h2,h3,h4,h5,h6,h7⟩
 ·subst h01 h02 h03;exact .nil
 ·subst h01 h2;have hb:¬fb' b:=hs b (by rw[e];exact⟨0,_,by rw[Bn];rfl,rfl⟩);have A:(Mw ix rows).length=ix.length:=by simp[Mw]
  rw[←A]
  refine Ar.list (w:=w) (fb:=fb') (Mw ix rows) 1 b off cap (fun i _=>cur.getD (off+i) undef) (by omega) h5 hb Nat.one_pos (fun x hx=>by
    simp only[Mw,eb]at hx;obtain⟨j,_,rfl⟩:=hx;rfl) (fun x M hx n=>by
    simp only[Mw,eb]at hx;obtain⟨j,_,rfl⟩:=hx;simp[D.cells]at n;subst n;rfl) (fun i x q M hi r=>?_) (fun i x q M hi r=>?_)
  all_goals
   simp only[Mw,List.getElem?_map,i5]at hi;obtain⟨j,G,rfl⟩:=hi;obtain⟨N,l,m⟩:=h7 i j G;obtain⟨x,hx⟩:∃x,rows[j]?=some x:=⟨_,cp (by have:=(ax.1 l).1;omega)⟩
   cases q with
   |succ q=>simp[D.cells]at r
   |zero =>
    simp[D.cells]at r;subst r
    first
    |rw[CI h3];simp[ay,m]
    |simp only[ay,m,cw,hx]
     exact bm h B hg hx (by have:=List.all_eq_true.1 t j (az G);rw[hx]at this;exact this) (.mref _ _ _ _ p (by rw[e];simp[Ei,l]) (hr j x N hx l).1) hs
theorem WK(h:BZ E c β s tm w){x:AV}{u:Value}{nl:Bool}{l:List D}(hx:AP w (c.bar β s.V) β s.V.cn x u)(hl:x.asList s.V=some (nl,l)):Ar w c.fb (.list nl l) u:=by
 have weak:∀{d:D}{u:Value},Ar w (c.bar β s.V) d u->Ar w c.fb d u:=fun h=>h.mono (Aq.refl _ _) fun b _ hb=>Sq hb
 unfold AV.asList at hl;split at hl
 ·simp at hl;obtain⟨rfl,rfl⟩:=hl
  cases hx with|d _ _ hx=>exact weak hx
 ·simp at hl;obtain⟨rfl,rfl⟩:=hl
  cases hx with|ex _ a hx=>exact weak hx
 ·rename_i o g;split at hl
  ·rename_i ety es nl l hg;simp at hl;obtain⟨rfl,rfl⟩:=hl;exact(SV h hx (by simp[AV.snap0,hg])).1
  ·cases hl
 ·rename_i o g;split at hl
  ·rename_i e1 e2 nl ix rows hg;split at hl
   ·rename_i e;simp at hl;obtain⟨rfl,rfl⟩:=hl;exact ig h (fun b hb=>Sq hb) hg e hx fun b hb=>(h.home _ _ _ b (AO.get_some hg) hb).2.2
   ·cases hl
  ·cases hl
 ·rename_i j o g;split at hl
  ·rename_i e1 e2 i ix rows hg;obtain⟨hl,m⟩:=i7.1 hl;exact bm h (fun b hb=>Sq hb) hg hl m hx fun b hb=>(h.home _ _ _ b (AO.get_some hg) hb).2.2
  ·cases hl
 ·cases hl
theorem CQ{b:Nat}{es:Array MapEntry}{cl:Nat}(hb:w.heap[b]?=some (.map es cl)):(getObj b).run E.P w=.ok (.map es cl) w:=by
 simp[getObj,Sem.run,hb]
theorem Dp{P:Program}{t:TypeId}{tys:LW}(ht:C5 P t=some tys){a:D}{fb:Nat->Prop}{u:Value}(L:Jo tys a=true)(hu:Ar w fb a u)(p:Bool)(n:Nat) :
  (Instr.checkKey p (n+2) t u).run P w=.ok () w:=by
 unfold C5 at ht;simp only[Jo,c8,beq_iff_eq]at L
 have cell:∀{e:TypeId}{k:Option IntKind}(v:Value) (m:Nat),Ea P e=some k->(Instr.checkKey p (m+1) e v).run P w=.ok () w:=by
  intro e k v m hk;unfold Ea at hk;split at hk
  ·rename_i k' h;simp[Instr.checkKey,run_underlying h]
  ·rename_i h;simp[Instr.checkKey,run_underlying h]
  ·cases hk
 split at ht
 ·rename_i k hk;exact cell (k:=some k) u (n+1) (by simp[Ea,hk])
 ·rename_i hk;exact cell (k:=none) u (n+1) (by simp[Ea,hk])
 ·rename_i fs hk;split at ht
  ·rename_i hc
   cases hl:Ax (fun f=>Ea P f.type) fs.toList with
   |none=>simp[hl]at ht
   |some l =>
    simp[hl]at ht;subst ht;obtain⟨cs,rfl⟩:∃cs,a=.agg cs:=by cases a<;>simp_all[D.isAgg]
    cases hu with|agg _ us hl1 h11 hr1 =>
    have B:=hc.2.2;have N:cs.length=fs.toList.length:=by have h1:=BS L.2;have h2:=Af hl;simp only[D.cells]at h1;omega
    rw[Instr.checkKey];simp only[Sem.run_bind,run_underlying hk,Result.andThen_ok];rw[←Array.forIn_toList]
    have key:∀(gs:List Field) (ks:List (Option IntKind)) (i:Nat),i+gs.length<=us.size->Ax (fun f=>Ea P f.type) gs=some ks->((gs.zipIdx i).all fun(f,i)=>f.name != "_" && f.offset == i)=true ->
      ((
       forIn (m:=Sem) gs PUnit.unit fun f r=>do
       if f.name ≠ "_" then do
        let x ←part f.type us f.offset
        Instr.checkKey p (n+1) f.type x
        pure (.yield PUnit.unit)
       else pure (.yield PUnit.unit)):Sem PUnit).run P w=.ok PUnit.unit w:=by
     intro gs
     induction gs with
     |nil=>intro ks i _ _ _;simp
     |cons f gs ih =>
      intro ks i y o hn;simp only[Ax]at o;split at o
      ·cases o
      ·rename_i k A;split at o
       ·cases o
       ·rename_i ks' G;simp only[List.zipIdx_cons,List.all_cons,c8,bne_iff_ne,ne_eq,beq_iff_eq]at hn;obtain⟨⟨O,M⟩,J⟩:=hn;simp only[List.length_cons]at y;have z:us[i]?=some us[i]:=aa (by omega);have:=ih ks' (i+1) (by omega) G J;simp only[et,Sem.run_bind];rw[if_pos O,M];simp only[Sem.run_bind,E8 A z,Result.andThen_ok,cell _ _ A,Sem.run_pure];exact this
    have:=key fs.toList l 0 (by omega) hl B;rw[this];rfl
  ·cases ht
 ·rename_i m e hk;split at ht
  ·rename_i hc
   cases h:Ea P e with
   |none=>simp[h]at ht
   |some k =>
    simp[h]at ht;subst ht;obtain⟨cs,rfl⟩:∃cs,a=.agg cs:=by cases a<;>simp_all[D.isAgg]
    cases hu with|agg _ us hl1 h11 hr1 =>
    have N:cs.length=m:=by simpa[D.cells]using BS L.2
    rw[Instr.checkKey];simp only[Sem.run_bind,run_underlying hk,Result.andThen_ok];rw[Std.Legacy.Range.forIn_eq_forIn_range'];simp only[Std.Legacy.Range.size,Nat.sub_zero,Nat.add_sub_cancel,Nat.div_one]
    have key:∀(q i:Nat),i+q<=us.size ->
      ((
       forIn (m:=Sem) (List.range' i q) PUnit.unit fun j r=>do
       let s ←sizeOf e
       let x ←part e us (j*s)
       Instr.checkKey p (n+1) e x
       pure (.yield PUnit.unit)):Sem PUnit).run P w=.ok PUnit.unit w:=by
     intro q
     induction q with
     |zero=>intro i _;simp
     |succ q ih =>
      intro i y;have z:us[i]?=some us[i]:=aa (by omega);simp only[List.range'_succ,et,Sem.run_bind,CE hc.2,Result.andThen_ok,Nat.mul_one,E8 h z,cell _ _ h,Sem.run_pure];exact ih (i+1) (by omega)
    have:=key m 0 (by omega);rw[this];rfl
  ·cases ht
 ·cases ht
end
end Go.Pw
end
section
namespace Go.Pw
open Go.RowKit
theorem Xt(k:D):∀kvs:List (D×D),C0 k kvs=(FH k kvs).bind fun j=>(kvs[j]?).map (·.2)
 |[]=>rfl
 |e::es=>by
  simp only[C0,FH];split
  ·simp
  ·rw[Xt k es]
   cases FH k es<;>simp
theorem bG(k v:D):∀kvs:List (D×D),T0 k v kvs=match FH k kvs with
  |some j=>(match kvs[j]? with|some e=>kvs.set j (e.1,v)|none=>kvs)
  |none=>kvs++[(k,v)]
 |[]=>rfl
 |e::es=>by
  simp only[T0,FH];split
  ·simp
  ·rw[bG k v es]
   cases h:FH k es with
   |none=>simp
   |some j=>simp only[f0,ea];split<;>simp
theorem Ue{k:D}:∀{kvs:List (D×D)}{j:Nat},FH k kvs=some j->j<kvs.length
 |[],j,h=>by simp[FH]at h
 |e::es,j,h=>by
  simp only[FH]at h;split at h
  ·simp at h;subst h;simp
  ·cases hi:FH k es with
   |none=>simp[hi]at h
   |some i=>simp[hi]at h;subst h;have:=Ue hi;simp;omega
section
variable {P:Program}{w:World}
def Z4(w:World)(fb:Nat->Prop)(tys:LW)(kvs:List (D×D))(es:List MapEntry):Prop :=
 es.length=kvs.length/\∀(i:Nat) (kv:D×D) (e:MapEntry),kvs[i]?=some kv->es[i]?=some e->Jo tys kv.1=true/\Ar w fb kv.1 e.key/\Ar w fb kv.2 e.val
theorem Z4.tail{fb tys kv kvs e es}(h:Z4 w fb tys (kv::kvs) (e::es)):Z4 w fb tys kvs es :=
 ⟨by have:=h.1;simp at this;exact this,fun i a b j hb=>h.2 (i+1) a b (by simpa using j) (by simpa using hb)⟩
def D_(k:D)(kvs:List (D×D))(es:List MapEntry)(i:Nat):Option (Nat×Value):=(FH k kvs).bind fun j=>(es[j]?).map fun e=>(i+j,e.val)
theorem Ma{k:D}{kv:D×D}{kvs:List (D×D)}{e:MapEntry}{es:List MapEntry}(h:D2 k kv.1=false)(i:Nat):D_ k (kv::kvs) (e::es) i=D_ k kvs es (i+1):=by
 simp only[D_,FH,h,hU,if_false]
 cases FH k kvs with
 |none=>rfl
 |some j=>simp;cases es[j]?<;>simp;omega
theorem NB{n:TypeId}{tys:LW}(ht:C5 P n=some tys){k:D}{fb l:Nat->Prop}{u:Value}(hk:Jo tys k=true)(hu:Ar w fb k u) :
  ∀(kvs:List (D×D)) (es:List MapEntry) (i:Nat),Z4 w l tys kvs es->(Instr.findAsking n u es i).run P w=.ok (D_ k kvs es i) w
 |[],[],i,_=>by simp[Instr.findAsking,D_,FH]
 |[],e::es,i,h=>by have:=h.1;simp at this
 |kv::kvs,[],i,h=>by have:=h.1;simp at this
 |kv::kvs,e::es,i,h=>by
  obtain⟨h1,h2,o⟩:=h.2 0 kv e (by simp) (by simp);have m:∀{d v},Ar w l d v->Ar w (fun _=>False) d v:=fun h=>h.mono (Aq.refl _ _) (fun _ _ h=>h.elim)
  have j:∀{d v},Ar w fb d v->Ar w (fun _=>False) d v:=fun h=>h.mono (Aq.refl _ _) (fun _ _ h=>h.elim)
  simp only[Instr.findAsking,Sem.run_bind,L7 ht hk h1 (j hu) (m h2),Result.andThen_ok]
  cases hq:D2 k kv.1
  ·simp only[hU,if_false];rw[NB ht hk hu kvs es (i+1) h.tail,Ma hq]
  ·simp[D_,FH,hq]
theorem Nj{n:TypeId}{tys:LW}(ht:C5 P n=some tys){d:TypeDesc}(hd:P.underlying n=some d){k:D}{fb m:Nat->Prop}{u:Value}(hk:Jo tys k=true)(hu:Ar w fb k u) :
  ∀(kvs:List (D×D)) (es:List MapEntry) (i:Nat),Z4 w m tys kvs es->Instr.findNow d u es i=some (D_ k kvs es i)\/Instr.findNow d u es i=none
 |[],[],i,_=>by simp[Instr.findNow,D_,FH]
 |[],e::es,i,h=>by have:=h.1;simp at this
 |kv::kvs,[],i,h=>by have:=h.1;simp at this
 |kv::kvs,e::es,i,h=>by
  obtain⟨h1,h2,p⟩:=h.2 0 kv e (by simp) (by simp);have ih:=Nj ht hd hk hu kvs es (i+1) h.tail
  have hs:Instr.sameNow d u e.key=some (D2 k kv.1)\/Instr.sameNow d u e.key=none:=by
   have j:=hk;have l:=h1;simp only[Jo,c8,beq_iff_eq]at j l;unfold C5 at ht;rw[hd]at ht
   cases d<;>first|(simp at ht;done)|(right;cases u<;>rfl)|skip
   ·simp at ht;subst ht;generalize e.key=v at *;have e1:k.cells=[k]:=by cases k<;>simp_all[D.cells,D.isAgg]
    have e2:kv.1.cells=[kv.1]:=by cases hh:kv.1<;>simp_all[D.cells,D.isAgg]
    rw[e1]at j;rw[e2]at l
    cases hu<;>simp[Dk]at j
    generalize kv.1=q at *
    cases h2<;>simp[Dk]at l
    left;simp[Instr.sameNow,D2,D.cells,Fl,GM]
   ·rename_i o;simp at ht;subst ht;generalize e.key=v at *;have e1:k.cells=[k]:=by cases k<;>simp_all[D.cells,D.isAgg]
    have e2:kv.1.cells=[kv.1]:=by cases hh:kv.1<;>simp_all[D.cells,D.isAgg]
    rw[e1]at j;rw[e2]at l
    cases hu<;>simp[Dk]at j
    generalize kv.1=q at *
    cases h2<;>simp[Dk]at l
    obtain⟨_,rfl⟩:=j;obtain⟨_,rfl⟩:=l;left;simp[Instr.sameNow,D2,D.cells,Fl,GM,Ud]
  simp only[Instr.findNow];rcases hs with hs|hs
  ·rw[hs]
   cases hq:D2 k kv.1
   ·simp only;rw[Ma hq];exact ih
   ·left;simp[D_,FH,hq]
  ·rw[hs];right;rfl
theorem Sh{e:TypeId}{tys:LW}(ht:C5 P e=some tys):∃d,P.underlying e=some d:=by
 unfold C5 at ht
 cases h:P.underlying e with
 |none=>simp[h]at ht
 |some d=>exact⟨d,rfl⟩
theorem Jr{e:TypeId}{tys:LW}(ht:C5 P e=some tys){k:D}{fb fb2:Nat->Prop}{u:Value}(hk:Jo tys k=true)(hu:Ar w fb k u)
  {kvs:List (D×D)}{es:List MapEntry}(i:Z4 w fb2 tys kvs es):(Instr.findKey e u es).run P w=.ok (D_ k kvs es 0) w:=by
 obtain⟨d,hd⟩:=Sh ht;simp only[Instr.findKey,Sem.run_bind,run_underlying hd,Result.andThen_ok];rcases Nj ht hd hk hu kvs es 0 i with h|h
 ·rw[h];rfl
 ·rw[h];exact NB ht hk hu kvs es 0 i
end
section
variable {E:CW}{c:EG}{β:Nat->Nat->Value}{s:BG}{tm:Array Value}{w:World}{K:AV->Bs->Prop}
theorem XH{t:TypeId}{z:D}(h:F4 E.P t=some z){fb}:∃v,(zeroValue t).run E.P w=.ok v w/\Ar w fb z v:=by
 unfold F4 at h
 cases hi:E.P.info? t with
 |none=>simp[hi]at h
 |some i =>
  simp only[hi,hX]at h;split at h
  ·rename_i cs j
   cases hl:Ax Rq cs.toList with
   |none=>simp[hl]at h
   |some l =>
    simp[hl]at h;subst h;refine⟨.agg cs,by simp[zeroValue,typeInfo,hi,j],.agg l cs (by rw[Af hl];simp) (fun c hc=>?_) (fun i y v m hv=>?_)⟩
    ·obtain⟨x,_,hx⟩:=D5 hl hc;unfold Rq at hx;split at hx<;>(try split at hx)<;>simp at hx<;>subst hx<;>rfl
    ·obtain⟨x,hx,e⟩:=BC hl m;have:x=v:=by simpa[Array.getElem?_toList,hv]using hx.symm
     subst this;exact JH e
  ·rename_i v _ j;exact⟨v,by simp[zeroValue,typeInfo,hi,j],JH h⟩
  ·cases h
theorem Yk(h:BZ E c β s tm w){t T e:TypeId}{tys:LW}{z:D}{ok:Bool}(ht:E.P.underlying t=some (.map T e))(hk:C5 E.P T=some tys)(U:F4 E.P e=some z)
  {m y:AV}{J N:Value}{dst:Option Nat}(hm:AP w (c.bar β s.V) β s.V.cn m J) (u:AP w (c.bar β s.V) β s.V.cn y N) (l:ev E dst s.V (.lookup ok tys z) [m,y] K) :
  JU E c s tm K ((Instr.lookup t J N ok).run E.P w):=by
 obtain⟨S,G,B⟩:=XH (w:=w) (fb:=c.bar β s.V) U
 have fin:∀(b:Bool) (d:D) (v:Value),Ar w (c.bar β s.V) d v->AP w (c.bar β s.V) β s.V.cn (if ok then .tup [.d d,.d (.bool b)]else .d d) (if ok then .tuple #[v,.bool b]else v):=by
  intro b d v hd
  cases ok
  ·exact .d _ _ hd
  ·simp only[if_true];refine .tup _ _ rfl fun i c v hc hv=>?_
   match i with
   |0=>simp at hc hv;subst hc hv;exact .d _ _ hd
   |1=>simp at hc hv;subst hc hv;exact Ly
   |i+2=>simp at hc
 have main:∀(kvs:List (D×D)) (k:D) (b:Nat) (es:Array MapEntry) (cl:Nat),J=.map (some b)->w.heap[b]?=some (.map es cl)->Z4 w (c.bar β s.V) tys kvs es.toList->y.toD1=some k->Jo tys k=true ->
   (match C0 k kvs with
    |some v=>K (if ok then .tup [.d v,.d (.bool true)]else .d v) .none
    |none=>K (if ok then .tup [.d z,.d (.bool false)]else .d z) .none)->JU E c s tm K ((Instr.lookup t J N ok).run E.P w):=by
  intro kvs k b es cl O hb M hd n l;subst O;have r:=(B' u hd).1;have hl:es.size=kvs.length:=by simpa using M.1
  rw[Xt]at l;have p:=Jr hk n r M
  cases hi:FH k kvs with
  |none =>
   simp[hi]at l;refine CP h l ?_ (fin false z S B);simp only[Instr.lookup,Sem.run_bind,run_underlying ht,Result.andThen_ok,CQ hb,Sem.run_pure,Dp hk n r es.isEmpty 9998,p,D_,hi,hY,G]
  |some j =>
   have X:=Ue hi;have A:kvs[j]?=some kvs[j]:=cp X;have R:es[j]?=some es[j]:=aa (by omega);have x:es.toList[j]?=some es[j]:=by simpa using R
   simp[hi,A]at l;refine CP h l ?_ (fin true _ es[j].val (M.2 j _ _ A x).2.2);simp only[Instr.lookup,Sem.run_bind,run_underlying ht,Result.andThen_ok,CQ hb,Sem.run_pure,Dp hk n r es.isEmpty 9998,p,D_,hi,hX,x,f0]
 unfold ev at l;simp only at l;split at l
 ·rename_i o g key' q;simp only[List.cons.injEq,and_true]at q;obtain⟨rfl,rfl⟩:=q;split at l
  ·rename_i tys' kvs k hg hd;obtain⟨rfl,n,l⟩:=l;have L:=AO.get_some hg;obtain⟨Z,ho⟩:=h.objs _ _ _ L
   cases hm with|map _ _ _ _ =>
   generalize β o g=J at *
   cases ho with|map _ _ b es hb hl hent =>
   exact main kvs k b es _ rfl hb ⟨by simpa using hl,fun i kv e h1 h2=>by
    obtain⟨a1,Y,a3,_⟩:=hent i kv e h1 (by simpa using h2)
    exact⟨a1,Y,a3⟩⟩ hd n l
  ·exact l.elim
 ·rename_i tys' kvs key' q;simp only[List.cons.injEq,and_true]at q;obtain⟨rfl,rfl⟩:=q;split at l
  ·rename_i k hd;obtain⟨rfl,n,l⟩:=l
   cases hm with|d _ _ hm =>
   cases hm with|map _ _ b es cl hb hh hl hr htk hkk hvv =>
   exact main kvs k b es cl rfl hh ⟨by simpa using hl,fun i kv e h1 h2=>⟨htk kv (az h1),hkk i kv e h1 (by simpa using h2),hvv i kv e h1 (by simpa using h2)⟩⟩ hd n l
  ·exact l.elim
 ·rename_i key' q;simp only[List.cons.injEq,and_true]at q;obtain⟨rfl,rfl⟩:=q;split at l
  ·rename_i k hd;obtain⟨n,l⟩:=l;have r:=(B' u hd).1
   cases hm with|d _ _ hm=>cases hm with|nilmap =>
   refine CP h l ?_ (fin false z S B);have p:=Jr (w:=w) (fb2:=c.bar β s.V) hk n r (kvs:=[]) (es:=[]) ⟨rfl,fun i kv e h1=>by simp at h1⟩;simp only[Instr.lookup,Sem.run_bind,run_underlying ht,Result.andThen_ok,Sem.run_pure,Dp hk n r _ 9998,p,D_,FH,hY,G]
  ·exact l.elim
 ·exact l.elim
end
end Go.Pw
end
