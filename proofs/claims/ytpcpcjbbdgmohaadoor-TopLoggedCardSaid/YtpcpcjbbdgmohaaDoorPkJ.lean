/- A part of the proof. -/
import Derived.Test.YtpcpcjbbdgmohaaDoorPkA
set_option linter.all false
section
namespace Go.Pw
open Go.RowKit
section
variable {E:C2}{c:Dh}{β:Nat->Nat->Value}{s:BP}{tm:Array Value}{w:World}{K:AV->B6->Prop}
theorem I1 {fb β' cn} {x:AV}{u:Value}{d:D}(h:AL w fb β' cn x u) (hd:x.toD0=some d):A4 w fb d u/\(x.one=true->d.one=true):=by
 unfold AV.toD0 at hd
 split at hd
 ·cases hd
 ·cases hd
 ·simp at hd;subst hd
  cases h with|d _ _ h=>exact⟨h,fun h=>h⟩
 ·simp at hd;subst hd
  cases h with|ex _ a h=>exact⟨h,fun _=>rfl⟩
 ·split at hd
  ·cases hd
  ·simp at hd;subst hd
   cases h with|dptr _ _ b base vs hb hne h1 hc hv=>exact⟨.ptr _ b base vs hb hne h1 hc hv,fun _=>rfl⟩
 ·cases hd
theorem Dj {α γ:Type}{f:α->Option γ}{l:List α}{r:List γ}{y:γ}(h:BD f l=some r) (hy:y∈r):∃x,x∈l/\f x=some y:=by
 obtain⟨i,hi⟩:=List.getElem?_of_mem hy
 have hlt:i<l.length:=by rw[←Aw h];exact(List.getElem?_eq_some_iff.1 hi).1
 obtain⟨y',h1,h2⟩:=C5 h (List.getElem?_eq_getElem hlt)
 rw[hi] at h1
 simp at h1;subst h1
 exact⟨_,List.getElem_mem hlt,h2⟩
theorem BK {α γ:Type}{f:α->Option γ}{l:List α}{r:List γ}{i:Nat}{y:γ}(h:BD f l=some r) (hy:r[i]?=some y):∃x,l[i]?=some x/\f x=some y:=by
 have hlt:i<l.length:=by rw[←Aw h];exact(List.getElem?_eq_some_iff.1 hy).1
 obtain⟨y',h1,h2⟩:=C5 h (List.getElem?_eq_getElem hlt)
 rw[hy] at h1;simp at h1;subst h1
 exact⟨_,List.getElem?_eq_getElem hlt,h2⟩
theorem CU {fb β' cn} {x:AV}{u:Value}{d:D}(h:AL w fb β' cn x u) (hd:x.toD1=some d):A4 w fb d u/\(x.one=true->d.one=true):=by
 unfold AV.toD1 at hd
 split at hd
 ·rename_i cs
  split at hd
  ·rename_i l hl
   simp at hd;subst hd
   obtain⟨vs,rfl,hc,h1⟩:=Lu h
   refine⟨.agg l vs (by rw[Aw hl];exact hc.1) (fun y hy=>?_) (fun i y v hy hv=>?_),fun h=>by simp[AV.one] at h⟩
   ·obtain⟨x,hx,hxy⟩:=Dj hl hy
    obtain⟨i,hi⟩:=List.getElem?_of_mem hx
    obtain⟨v,hv⟩:∃v,vs[i]?=some v:=⟨_,Array.getElem?_eq_getElem (by have:=hc.1;have:=(List.getElem?_eq_some_iff.1 hi).1;omega)⟩
    exact(I1 (hc.2 i x v hi hv) hxy).2 (h1 x hx)
   ·obtain⟨x,hx,hxy⟩:=BK hl hy
    exact(I1 (hc.2 i x v hx hv) hxy).1
  ·cases hd
 ·rename_i f cs
  split at hd
  ·rename_i l hl
   simp at hd;subst hd
   cases h with|fn _ _ vs hlen hr =>
   exact⟨.fn f l vs (by rw[Aw hl];exact hlen) (fun i y v hy hv=>by
    obtain⟨x,hx,hxy⟩:=BK hl hy
    exact(I1 (hr i x v hx hv) hxy).1),fun _=>rfl⟩
  ·cases hd
 ·exact I1 h hd
theorem MP {c:Dh}{β:Nat->Nat->Value}{V:AB}{b:Nat}(h:c.fb b):c.bar β V b:=.inl h
theorem FG {x:AV}{xs:List AV}{o:Nat}(hx:x∈xs) (ho:o∈x.sites):o∈AV.sites.sitesL xs:=by
 induction xs with
 |nil=>cases hx
 |cons y ys ih =>
  simp only[AV.sites.sitesL,List.mem_append]
  cases hx with
  |head=>exact .inl ho
  |tail _ h=>exact .inr (ih h)
theorem Cs {w':World}{fb:Nat->Prop}{ety es:Nat}{nl:Bool}{l:List D}{v:Value}(h:Cw w' fb ety es nl l v) (hb:∀b,DK v b->¬fb b):A4 w' fb (.list nl l) v:=by
 rcases h with⟨h1,h2,h3⟩|⟨h1,b,off,cap,cur,h2,h3,h4,h5,h6,h7,h8,h10,h9⟩
 ·subst h1 h2;rw[h3];exact .nil
 ·subst h1;subst h2
  refine .list l es b off cap (fun i j=>cur.getD (off+i*es+j) undef) h4 h5 (hb b rfl) h7 h8 h10 (fun i x j c hi hj=>?_) (fun i x j c hi hj=>?_)
  ·obtain⟨u,hu,_⟩:=h9 i x j c hi hj
   rw[CJ h3,hu];simp[Array.getD_eq_getD_getElem?,hu]
  ·obtain⟨u,hu,hd⟩:=h9 i x j c hi hj
   simpa[Array.getD_eq_getD_getElem?,hu] using hd
theorem Gd (h:B0 E c β s tm w) {fb':Nat->Prop}(hfb:∀b,fb' b->c.bar β s.V b) {x:AV}{u:Value}{d:D}(hx:AL w (c.bar β s.V) β s.V.cn x u) (hd:x.snap0 s.V=some d) (hs:∀o g y b,o∈x.sites->s.V.ob o=some (g,y)->DK (β o g) b->¬fb' b):A4 w fb' d u/\(x.one=true->d.one=true):=by
 have weak:∀{d:D}{u:Value},A4 w (c.bar β s.V) d u->A4 w fb' d u:=fun h=>h.mono (A2.refl _ _) fun b _ hb=>hfb b hb
 unfold AV.snap0 at hd
 split at hd
 ·rename_i o g
  split at hd
  ·rename_i ety es nl l hg
   simp at hd;subst hd
   have hob:=AB.get_some hg
   obtain⟨hlt,ho⟩:=h.objs _ _ _ hob
   cases ho with|row _ _ _ _ _ ho =>
   cases hx with|own _ _ _ _ =>
   refine⟨?_,fun _=>rfl⟩
   rcases ho with⟨h1,h2,h3⟩|⟨h1,b,off,cap,cur,h2,h3,h4,h5,h6,h7,h8,h10,h9⟩
   ·subst h1 h2;rw[h3];exact .nil
   ·subst h1;rw[h2]
    refine .list l es b off cap (fun i j=>cur.getD (off+i*es+j) undef) h4 h5 ?_ h7 h8 h10 (fun i x j c hi hj=>?_) (fun i x j c hi hj=>?_)
    ·exact hs o g _ b (by simp[AV.sites]) hob (by rw[h2];exact rfl)
    ·obtain⟨u,hu,_⟩:=h9 i x j c hi hj
     rw[CJ h3,hu];simp[Array.getD_eq_getD_getElem?,hu]
    ·obtain⟨u,hu,hd⟩:=h9 i x j c hi hj
     simp only[Array.getD_eq_getD_getElem?,hu,Option.getD_some];exact weak hd
  ·cases hd
 ·rename_i o g
  split at hd
  ·rename_i xs hg
   split at hd
   ·rename_i c0 l hl
    simp at hd;subst hd
    have hob:=AB.get_some hg
    obtain⟨hlt,ho⟩:=h.objs _ _ _ hob
    cases hx with|ptr _ _ _ b hlt hβ =>
    rw[hβ] at ho
    cases ho with|cells _ _ cur e hb hlen h1 hr =>
    refine⟨.ptr (c0::l) b 0 (fun j=>cur.getD j undef) (hs o g _ b (by simp[AV.sites]) hob (by rw[hβ];exact rfl)) (by simp) (fun y hy=>?_) (fun j y hj=>?_) (fun j y hj=>?_),fun _=>rfl⟩
    ·obtain⟨x,hx,hxy⟩:=Dj hl hy
     obtain⟨i,hi⟩:=List.getElem?_of_mem hx
     obtain⟨v,hv⟩:∃v,cur[i]?=some v:=⟨_,Array.getElem?_eq_getElem (by have:=(List.getElem?_eq_some_iff.1 hi).1;omega)⟩
     exact(CU (hr i x v hi hv) hxy).2 (h1 x hx)
    ·obtain⟨x,hx,hxy⟩:=BK hl hj
     have hlt:j<cur.size:=by have:=(List.getElem?_eq_some_iff.1 hx).1;omega
     rw[Nat.zero_add,CJ hb,Array.getElem?_eq_getElem hlt];simp[Array.getD_eq_getD_getElem?,hlt]
    ·obtain⟨x,hx,hxy⟩:=BK hl hj
     have hlt:j<cur.size:=by have:=(List.getElem?_eq_some_iff.1 hx).1;omega
     have:=(CU (hr j x _ hx (Array.getElem?_eq_getElem hlt)) hxy).1
     simp only[Array.getD_eq_getD_getElem?,Array.getElem?_eq_getElem hlt,Option.getD_some];exact weak this
   ·cases hd
  ·cases hd
 ·rename_i off n cap o g
  split at hd
  ·rename_i xs hg
   split at hd
   ·rename_i hc
    obtain⟨hc1,hc2,hc3⟩:=hc
    split at hd
    ·rename_i l hl
     simp at hd;subst hd
     have hob:=AB.get_some hg
     obtain⟨hlt,ho⟩:=h.objs _ _ _ hob
     cases hx with|mref _ _ _ u hlt2 hm h1u =>
     obtain⟨v,hv⟩:∃v,β o g=v:=⟨_,rfl⟩
     rw[hv] at ho hm
     cases ho with|cells _ b cur e hb hlen h1 hr =>
     simp only[Du] at hm
     split at hm
     ·simp at hm;subst hm
      have hll:l.length=n:=by rw[Aw hl,List.length_take,List.length_drop];omega
      have hget:∀(i:Nat) y,l[i]?=some y->∃x u,xs[off+i]?=some x/\cur[off+i]?=some u/\x.toD1=some y/\AL w (c.bar β s.V) β s.V.cn x u:=fun i y hy=>by
       obtain⟨x,hx,hxy⟩:=BK hl hy
       have hin:i<n:=by rw[←hll];exact(List.getElem?_eq_some_iff.1 hy).1
       rw[List.getElem?_take_of_lt hin,List.getElem?_drop] at hx
       have hcl:off+i<cur.size:=by rw[hlen];omega
       exact⟨x,_,hx,Array.getElem?_eq_getElem hcl,hxy,hr _ x _ hx (Array.getElem?_eq_getElem hcl)⟩
      have hone:∀y,y∈l->y.one=true/\y.cells=[y]:=fun y hy=>by
       obtain⟨i,hi⟩:=List.getElem?_of_mem hy
       obtain⟨x,u,k1,k2,k3,k4⟩:=hget i y hi
       have:=(CU k4 k3).2 (h1 x (List.mem_of_getElem? k1))
       exact⟨this,by cases y<;>simp_all[D.one,D.cells]⟩
      refine⟨?_,fun _=>rfl⟩
      have key:=A4.list (w:=w) (fb:=fb') l 1 b off cap (fun i _=>cur.getD (off+i) undef) (by omega) (by simp only[maxLen];omega) (hs o g _ b (by simp[AV.sites]) hob (by rw[hv];exact rfl)) Nat.zero_lt_one
       (fun x hx=>by rw[(hone x hx).2];rfl) (fun x c hx hcx=>by rw[(hone x hx).2,List.mem_singleton] at hcx;subst hcx;exact(hone c hx).1)
       (fun i x j c hi hj=>by
        have hx:=(hone x (List.mem_of_getElem? hi)).2
        rw[hx] at hj
        cases j with
        |zero =>
         obtain⟨x',u,k1,k2,k3,k4⟩:=hget i x hi
         rw[show off+i*1+0=off+i by omega,CJ hb,k2];simp[Array.getD_eq_getD_getElem?,k2]
        |succ j=>simp at hj)
       (fun i x j c hi hj=>by
        have hx:=(hone x (List.mem_of_getElem? hi)).2
        rw[hx] at hj
        cases j with
        |zero =>
         simp at hj;subst hj
         obtain⟨x',u,k1,k2,k3,k4⟩:=hget i x hi
         simp only[Array.getD_eq_getD_getElem?,k2,Option.getD_some];exact weak (CU k4 k3).1
        |succ j=>simp at hj)
      rw[hll] at key;exact key
     ·cases hm
    ·cases hd
   ·cases hd
  ·cases hd
 ·obtain⟨h1,h2⟩:=CU hx hd
  exact⟨weak h1,h2⟩
theorem PW (h:B0 E c β s tm w) {fb':Nat->Prop}(hfb:∀b,fb' b->c.bar β s.V b) {x:AV}{u:Value}{d:D}(hx:AL w (c.bar β s.V) β s.V.cn x u) (hd:x.snap s.V=some d) (hs:∀o g y b,o∈x.sites->s.V.ob o=some (g,y)->DK (β o g) b->¬fb' b):A4 w fb' d u:=by
 unfold AV.snap at hd
 split at hd
 ·rename_i cs
  split at hd
  ·rename_i l hl
   simp at hd;subst hd
   obtain⟨vs,rfl,hc,h1⟩:=Lu hx
   refine .agg l vs (by rw[Aw hl];exact hc.1) (fun y hy=>?_) (fun i y v hy hv=>?_)
   ·obtain⟨x,hx,hxy⟩:=Dj hl hy
    obtain⟨i,hi⟩:=List.getElem?_of_mem hx
    obtain⟨v,hv⟩:∃v,vs[i]?=some v:=⟨_,Array.getElem?_eq_getElem (by have:=hc.1;have:=(List.getElem?_eq_some_iff.1 hi).1;omega)⟩
    exact(Gd h hfb (hc.2 i x v hi hv) hxy fun o g y b ho=>hs o g y b (by simp only[AV.sites];exact FG hx ho)).2 (h1 x hx)
   ·obtain⟨x,hx,hxy⟩:=BK hl hy
    exact(Gd h hfb (hc.2 i x v hx hv) hxy fun o g y b ho=>hs o g y b (by simp only[AV.sites];exact FG (List.mem_of_getElem? hx) ho)).1
  ·cases hd
 ·rename_i f cs
  split at hd
  ·rename_i l hl
   simp at hd;subst hd
   cases hx with|fn _ _ vs hlen hr =>
   exact .fn f l vs (by rw[Aw hl];exact hlen) (fun i y v hy hv=>by
    obtain⟨x,hx,hxy⟩:=BK hl hy
    exact(Gd h hfb (hr i x v hx hv) hxy fun o g y b ho=>hs o g y b (by simp only[AV.sites];exact FG (List.mem_of_getElem? hx) ho)).1)
  ·cases hd
 ·exact(Gd h hfb hx hd hs).1
theorem PY (h:B0 E c β s tm w) {x:AV}{u:Value}{d:D}(hx:AL w (c.bar β s.V) β s.V.cn x u) (hd:x.snap0 s.V=some d):A4 w c.fb d u/\(x.one=true->d.one=true) :=
 Gd h (fun b hb=>MP hb) hx hd fun o g y b _ ho hb=>(h.home o g y b ho hb).2.2
theorem Nr (h:B0 E c β s tm w) {x:AV}{u:Value}{d:D}(hx:AL w (c.bar β s.V) β s.V.cn x u) (hd:x.snap s.V=some d):A4 w c.fb d u :=
 PW h (fun b hb=>MP hb) hx hd fun o g y b _ ho hb=>(h.home o g y b ho hb).2.2
theorem PX (h:B0 E c β s tm w) {x:AV}{u:Value}{d:D}(hx:AL w (c.bar β s.V) β s.V.cn x u) (hd:x.snapC s.V=some d):A4 w c.fb d u/\(x.one=true->d.one=true):=by
 unfold AV.snapC at hd
 split at hd
 ·rename_i o g
  exact PY h hx (by unfold AV.snap0;exact hd)
 ·obtain⟨h1,h2⟩:=CU hx hd
  exact⟨h1.mono (A2.refl _ _) fun b _ hb=>MP hb,h2⟩
theorem PV (h:B0 E c β s tm w) {x:AV}{u:Value}{d:D}(hx:AL w (c.bar β s.V) β s.V.cn x u) (hd:x.snapN s.V=some d):A4 w c.fb d u:=by
 unfold AV.snapN at hd
 split at hd
 ·rename_i o g
  split at hd
  ·rename_i xs hg
   split at hd
   ·rename_i c0 l hl
    simp at hd;subst hd
    have hob:=AB.get_some hg
    obtain⟨hlt,ho⟩:=h.objs _ _ _ hob
    cases hx with|ptr _ _ _ b hlt hβ =>
    rw[hβ] at ho
    cases ho with|cells _ _ cur e hb hlen h1 hr =>
    refine .ptr (c0::l) b 0 (fun j=>cur.getD j undef) ((h.home o g _ b hob (by rw[hβ];exact rfl)).2.2) (by simp) (fun y hy=>?_) (fun j y hj=>?_) (fun j y hj=>?_)
    ·obtain⟨x,hx,hxy⟩:=Dj hl hy
     obtain⟨i,hi⟩:=List.getElem?_of_mem hx
     obtain⟨v,hv⟩:∃v,cur[i]?=some v:=⟨_,Array.getElem?_eq_getElem (by have:=(List.getElem?_eq_some_iff.1 hi).1;omega)⟩
     exact(PX h (hr i x v hi hv) hxy).2 (h1 x hx)
    ·obtain⟨x,hx,hxy⟩:=BK hl hj
     have hlt:j<cur.size:=by have:=(List.getElem?_eq_some_iff.1 hx).1;omega
     rw[Nat.zero_add,CJ hb,Array.getElem?_eq_getElem hlt];simp[Array.getD_eq_getD_getElem?,hlt]
    ·obtain⟨x,hx,hxy⟩:=BK hl hj
     have hlt:j<cur.size:=by have:=(List.getElem?_eq_some_iff.1 hx).1;omega
     have:=(PX h (hr j x _ hx (Array.getElem?_eq_getElem hlt)) hxy).1
     simp only[Array.getD_eq_getD_getElem?,Array.getElem?_eq_getElem hlt,Option.getD_some];exact this
   ·cases hd
  ·cases hd
 ·exact Nr h hx hd
theorem R3 (h:B0 E c β s tm w) {fb':Nat->Prop}(hfb:∀b,fb' b->c.bar β s.V b) {e1 e2:Nat}{nl0:Bool}{ix:List Nat}{rows:List (Bool×List D)}{o g j:Nat}{x:Bool×List D}{u:Value}
  (hg:s.V.get o g=some (.mat e1 e2 nl0 ix rows)) (hx:rows[j]?=some x) (hp:AL w (c.bar β s.V) β s.V.cn (.mref (.row j) o g) u) (hs:∀b,DK (β o g) b->¬fb' b):A4 w fb' (.list x.1 x.2) u:=by
 have hob:=AB.get_some hg
 obtain⟨hlt,ho⟩:=h.objs _ _ _ hob
 obtain⟨v,hv⟩:∃v,β o g=v:=⟨_,rfl⟩
 cases hp with|mref _ _ _ u hlt hm hu1 =>
 rw[hv] at ho
 cases ho with|mat _ _ _ _ _ _ ho =>
 obtain⟨v0,vs,hvv,hlen,hc,hr,hsep⟩:=ho
 have hv':=hv
 rw[hvv] at hv'
 rw[hv'] at hm hs
 simp only[Du,Ce,List.getElem?_cons_succ] at hm
 have hrow:=hr j x u hx hm
 refine Cs (hrow.mono (A2.refl _ _) (fun b _ hb=>hfb b hb) fun _ _ _=>rfl) fun b hb=>hs b ⟨j+1,u,by simpa using hm,hrow.blk hb⟩
theorem UZ (h:B0 E c β s tm w) {fb':Nat->Prop}(hfb:∀b,fb' b->c.bar β s.V b) {e1 e2:Nat}{nl:Bool}{ix:List Nat}{rows:List (Bool×List D)}{o g:Nat}{u:Value}
  (hg:s.V.get o g=some (.mat e1 e2 nl ix rows)) (hp:AL w (c.bar β s.V) β s.V.cn (.mref .out o g) u) (hs:∀b,DK (β o g) b->¬fb' b):A4 w fb' (.list nl (OB ix rows)) u:=by
 have hob:=AB.get_some hg
 obtain⟨hlt,ho⟩:=h.objs _ _ _ hob
 obtain⟨v,hv⟩:∃v,β o g=v:=⟨_,rfl⟩
 have hp':=hp
 cases hp with|mref _ _ _ u hlt hm hu1 =>
 rw[hv] at ho
 cases ho with|mat _ _ _ _ _ _ ho =>
 obtain⟨v0,vs,hvv,hlen,hc,hr,hsep⟩:=ho
 have hv':=hv
 rw[hvv] at hv'
 rw[hv'] at hm
 simp only[Du,Ce,List.getElem?_cons_zero,Option.some.injEq] at hm
 subst hm
 rcases hc with⟨h01,h02,h03⟩|⟨h01,b,off,cap,cur,h2,h3,h4,h5,h6,h7⟩
 ·subst h01 h02 h03;exact .nil
 ·subst h01 h2
  have hb:¬fb' b:=hs b (by rw[hv'];exact⟨0,_,by rw[Ce];rfl,rfl⟩)
  have hlm:(OB ix rows).length=ix.length:=by simp[OB]
  rw[←hlm]
  refine A4.list (w:=w) (fb:=fb') (OB ix rows) 1 b off cap (fun i _=>cur.getD (off+i) undef) (by omega) h5 hb Nat.one_pos (fun x hx=>by
    simp only[OB,List.mem_map] at hx;obtain⟨j,_,rfl⟩:=hx;rfl) (fun x cc hx hcc=>by
    simp only[OB,List.mem_map] at hx;obtain⟨j,_,rfl⟩:=hx;simp[D.cells] at hcc;subst hcc;rfl) (fun i x q cc hi hq=>?_) (fun i x q cc hi hq=>?_)
  all_goals
   simp only[OB,List.getElem?_map,Option.map_eq_some_iff] at hi
   obtain⟨j,hj,rfl⟩:=hi
   obtain⟨uj,huj,hcj⟩:=h7 i j hj
   obtain⟨x,hx⟩:∃x,rows[j]?=some x:=⟨_,List.getElem?_eq_getElem (by have:=(List.getElem?_eq_some_iff.1 huj).1;omega)⟩
   cases q with
   |succ q=>simp[D.cells] at hq
   |zero =>
    simp[D.cells] at hq;subst hq
    first
    |rw[CJ h3];simp[Array.getD_eq_getD_getElem?,hcj]
    |simp only[Array.getD_eq_getD_getElem?,hcj,Option.getD_some,hx]
     exact R3 h hfb hg hx (.mref _ _ _ _ hlt (by rw[hv'];simp[Du,huj]) (hr j x uj hx huj).one) hs
theorem Oh (h:B0 E c β s tm w) {x:AV}{u:Value}{nl:Bool}{l:List D}(hx:AL w (c.bar β s.V) β s.V.cn x u) (hl:x.asList s.V=some (nl,l)):A4 w c.fb (.list nl l) u:=by
 have weak:∀{d:D}{u:Value},A4 w (c.bar β s.V) d u->A4 w c.fb d u:=fun h=>h.mono (A2.refl _ _) fun b _ hb=>MP hb
 unfold AV.asList at hl
 split at hl
 ·simp at hl;obtain⟨rfl,rfl⟩:=hl
  cases hx with|d _ _ hx=>exact weak hx
 ·simp at hl;obtain⟨rfl,rfl⟩:=hl
  cases hx with|ex _ a hx=>exact weak hx
 ·rename_i o g
  split at hl
  ·rename_i ety es nl l hg
   simp at hl;obtain⟨rfl,rfl⟩:=hl
   exact(PY h hx (by simp[AV.snap0,hg])).1
  ·cases hl
 ·rename_i o g
  split at hl
  ·rename_i e1 e2 nl ix rows hg
   simp at hl;obtain⟨rfl,rfl⟩:=hl
   exact UZ h (fun b hb=>MP hb) hg hx fun b hb=>(h.home _ _ _ b (AB.get_some hg) hb).2.2
  ·cases hl
 ·rename_i j o g
  split at hl
  ·rename_i e1 e2 nl0 ix rows hg
   exact R3 h (fun b hb=>MP hb) hg hl hx fun b hb=>(h.home _ _ _ b (AB.get_some hg) hb).2.2
  ·cases hl
 ·cases hl
theorem C_ {b:Nat}{es:Array MapEntry}{cl:Nat}(hb:w.heap[b]?=some (.map es cl)):(getObj b).run E.P w=.ok (.map es cl) w:=by
 simp[getObj,Sem.run,hb]
theorem Da {P:Program}{t:TypeId}{tys:Lv}(ht:C4 P t=some tys) {a:D}{fb:Nat->Prop}{u:Value}(ha:Iz tys a=true) (hu:A4 w fb a u) (emp:Bool) (n:Nat) :
  (Instr.checkKey emp (n+2) t u).run P w=.ok () w:=by
 unfold C4 at ht
 simp only[Iz,Bool.and_eq_true,beq_iff_eq] at ha
 have cell:∀{e:TypeId}{k:Option IntKind}(v:Value) (m:Nat),D1 P e=some k->(Instr.checkKey emp (m+1) e v).run P w=.ok () w:=by
  intro e k v m hk
  unfold D1 at hk
  split at hk
  ·rename_i k' hke;simp[Instr.checkKey,run_underlying hke]
  ·rename_i hke;simp[Instr.checkKey,run_underlying hke]
  ·cases hk
 split at ht
 ·rename_i k hk;exact cell (k:=some k) u (n+1) (by simp[D1,hk])
 ·rename_i hk;exact cell (k:=none) u (n+1) (by simp[D1,hk])
 ·rename_i fs hk
  split at ht
  ·rename_i hc
   cases hl:BD (fun f=>D1 P f.type) fs.toList with
   |none=>simp[hl] at ht
   |some l =>
    simp[hl] at ht;subst ht
    obtain⟨cs,rfl⟩:∃cs,a=.agg cs:=by cases a<;>simp_all[D.isAgg]
    cases hu with|agg _ us hl1 h11 hr1 =>
    have hall:=hc.2.2
    have htl:cs.length=fs.toList.length:=by have h1:=Bh ha.2;have h2:=Aw hl;simp only[D.cells] at h1;omega
    rw[Instr.checkKey]
    simp only[Sem.run_bind,run_underlying hk,Result.andThen_ok]
    rw[←Array.forIn_toList]
    have key:∀(gs:List Field) (ks:List (Option IntKind)) (i:Nat),i+gs.length<=us.size->BD (fun f=>D1 P f.type) gs=some ks->((gs.zipIdx i).all fun(f,i)=>f.name != "_" && f.offset == i)=true ->
      ((
       forIn (m:=Sem) gs PUnit.unit fun f r=>do
       if f.name ≠ "_" then do
        let x ←part f.type us f.offset
        Instr.checkKey emp (n+1) f.type x
        pure (.yield PUnit.unit)
       else pure (.yield PUnit.unit)):Sem PUnit).run P w=.ok PUnit.unit w:=by
     intro gs
     induction gs with
     |nil=>intro ks i _ _ _;simp
     |cons f gs ih =>
      intro ks i hlen hks hn
      simp only[BD] at hks
      split at hks
      ·cases hks
      ·rename_i k hkf
       split at hks
       ·cases hks
       ·rename_i ks' hks'
        simp only[List.zipIdx_cons,List.all_cons,Bool.and_eq_true,bne_iff_ne,ne_eq,beq_iff_eq] at hn
        obtain⟨⟨hn1,hn2⟩,hn3⟩:=hn
        simp only[List.length_cons] at hlen
        have hui:us[i]?=some us[i]:=Array.getElem?_eq_getElem (by omega)
        have:=ih ks' (i+1) (by omega) hks' hn3
        simp only[List.forIn_cons,Sem.run_bind]
        rw[if_pos hn1,hn2]
        simp only[Sem.run_bind,EK hkf hui,Result.andThen_ok,cell _ _ hkf,Sem.run_pure]
        exact this
    have:=key fs.toList l 0 (by omega) hl hall
    rw[this];rfl
  ·cases ht
 ·rename_i m e hk
  split at ht
  ·rename_i hc
   cases hke:D1 P e with
   |none=>simp[hke] at ht
   |some k =>
    simp[hke] at ht;subst ht
    obtain⟨cs,rfl⟩:∃cs,a=.agg cs:=by cases a<;>simp_all[D.isAgg]
    cases hu with|agg _ us hl1 h11 hr1 =>
    have htl:cs.length=m:=by simpa[D.cells] using Bh ha.2
    rw[Instr.checkKey]
    simp only[Sem.run_bind,run_underlying hk,Result.andThen_ok]
    rw[Std.Legacy.Range.forIn_eq_forIn_range']
    simp only[Std.Legacy.Range.size,Nat.sub_zero,Nat.add_sub_cancel,Nat.div_one]
    have key:∀(q i:Nat),i+q<=us.size ->
      ((
       forIn (m:=Sem) (List.range' i q) PUnit.unit fun j r=>do
       let s ←sizeOf e
       let x ←part e us (j*s)
       Instr.checkKey emp (n+1) e x
       pure (.yield PUnit.unit)):Sem PUnit).run P w=.ok PUnit.unit w:=by
     intro q
     induction q with
     |zero=>intro i _;simp
     |succ q ih =>
      intro i hlen
      have hui:us[i]?=some us[i]:=Array.getElem?_eq_getElem (by omega)
      simp only[List.range'_succ,List.forIn_cons,Sem.run_bind,Be hc.2,Result.andThen_ok,Nat.mul_one,EK hke hui,cell _ _ hke,Sem.run_pure]
      exact ih (i+1) (by omega)
    have:=key m 0 (by omega)
    rw[this];rfl
  ·cases ht
 ·cases ht
end
end Go.Pw
end
section
namespace Go.Pw
open Go.RowKit
theorem Ps (k:D):∀kvs:List (D×D),Ua k kvs=(F8 k kvs).bind fun j=>(kvs[j]?).map (·.2)
 |[]=>rfl
 |e::es=>by
  simp only[Ua,F8]
  split
  ·simp
  ·rw[Ps k es]
   cases F8 k es<;>simp
theorem RZ (k v:D):∀kvs:List (D×D),Yf k v kvs=match F8 k kvs with
  |some j=>(match kvs[j]? with|some e=>kvs.set j (e.1,v)|none=>kvs)
  |none=>kvs++[(k,v)]
 |[]=>rfl
 |e::es=>by
  simp only[Yf,F8]
  split
  ·simp
  ·rw[RZ k v es]
   cases h:F8 k es with
   |none=>simp
   |some j=>simp only[Option.map_some,List.getElem?_cons_succ];split<;>simp
theorem NU {k:D}:∀{kvs:List (D×D)}{j:Nat},F8 k kvs=some j->j<kvs.length
 |[],j,h=>by simp[F8] at h
 |e::es,j,h=>by
  simp only[F8] at h
  split at h
  ·simp at h;subst h;simp
  ·cases hi:F8 k es with
   |none=>simp[hi] at h
   |some i=>simp[hi] at h;subst h;have:=NU hi;simp;omega
section
variable {P:Program}{w:World}
def Q5 (w:World) (fb:Nat->Prop) (tys:Lv) (kvs:List (D×D)) (es:List MapEntry):Prop :=
 es.length=kvs.length/\∀(i:Nat) (kv:D×D) (e:MapEntry),kvs[i]?=some kv->es[i]?=some e->Iz tys kv.1=true/\A4 w fb kv.1 e.key/\A4 w fb kv.2 e.val
theorem Q5.tail {fb tys kv kvs e es} (h:Q5 w fb tys (kv::kvs) (e::es)):Q5 w fb tys kvs es :=
 ⟨by have:=h.1;simp at this;exact this,fun i a b ha hb=>h.2 (i+1) a b (by simpa using ha) (by simpa using hb)⟩
def Dp (k:D) (kvs:List (D×D)) (es:List MapEntry) (i:Nat):Option (Nat×Value):=(F8 k kvs).bind fun j=>(es[j]?).map fun e=>(i+j,e.val)
theorem Ie {k:D}{kv:D×D}{kvs:List (D×D)}{e:MapEntry}{es:List MapEntry}(h:Df k kv.1=false) (i:Nat):Dp k (kv::kvs) (e::es) i=Dp k kvs es (i+1):=by
 simp only[Dp,F8,h,Bool.false_eq_true,if_false]
 cases F8 k kvs with
 |none=>rfl
 |some j=>simp;cases es[j]?<;>simp;omega
theorem I8 {kt:TypeId}{tys:Lv}(ht:C4 P kt=some tys) {k:D}{fb fb2:Nat->Prop}{u:Value}(hk:Iz tys k=true) (hu:A4 w fb k u) :
  ∀(kvs:List (D×D)) (es:List MapEntry) (i:Nat),Q5 w fb2 tys kvs es->(Instr.findAsking kt u es i).run P w=.ok (Dp k kvs es i) w
 |[],[],i,_=>by simp[Instr.findAsking,Dp,F8]
 |[],e::es,i,h=>by have:=h.1;simp at this
 |kv::kvs,[],i,h=>by have:=h.1;simp at this
 |kv::kvs,e::es,i,h=>by
  obtain⟨h1,h2,h3⟩:=h.2 0 kv e (by simp) (by simp)
  have hall:∀{d v},A4 w fb2 d v->A4 w (fun _=>False) d v:=fun h=>h.mono (A2.refl _ _) (fun _ _ h=>h.elim)
  have hall':∀{d v},A4 w fb d v->A4 w (fun _=>False) d v:=fun h=>h.mono (A2.refl _ _) (fun _ _ h=>h.elim)
  simp only[Instr.findAsking,Sem.run_bind,IL ht hk h1 (hall' hu) (hall h2),Result.andThen_ok]
  cases hq:Df k kv.1
  ·simp only[Bool.false_eq_true,if_false]
   rw[I8 ht hk hu kvs es (i+1) h.tail,Ie hq]
  ·simp[Dp,F8,hq]
theorem JW {kt:TypeId}{tys:Lv}(ht:C4 P kt=some tys) {d:TypeDesc}(hd:P.underlying kt=some d) {k:D}{fb fb2:Nat->Prop}{u:Value}(hk:Iz tys k=true) (hu:A4 w fb k u) :
  ∀(kvs:List (D×D)) (es:List MapEntry) (i:Nat),Q5 w fb2 tys kvs es->Instr.findNow d u es i=some (Dp k kvs es i)\/Instr.findNow d u es i=none
 |[],[],i,_=>by simp[Instr.findNow,Dp,F8]
 |[],e::es,i,h=>by have:=h.1;simp at this
 |kv::kvs,[],i,h=>by have:=h.1;simp at this
 |kv::kvs,e::es,i,h=>by
  obtain⟨h1,h2,h3⟩:=h.2 0 kv e (by simp) (by simp)
  have ih:=JW ht hd hk hu kvs es (i+1) h.tail
  have hs:Instr.sameNow d u e.key=some (Df k kv.1)\/Instr.sameNow d u e.key=none:=by
   have hk':=hk;have h1':=h1
   simp only[Iz,Bool.and_eq_true,beq_iff_eq] at hk' h1'
   unfold C4 at ht
   rw[hd] at ht
   cases d<;>first|(simp at ht;done)|(right;cases u<;>rfl)|skip
   ·simp at ht;subst ht
    generalize e.key=v at *
    have e1:k.cells=[k]:=by cases k<;>simp_all[D.cells,D.isAgg]
    have e2:kv.1.cells=[kv.1]:=by cases hh:kv.1<;>simp_all[D.cells,D.isAgg]
    rw[e1] at hk';rw[e2] at h1'
    cases hu<;>simp[Dk] at hk'
    generalize kv.1=q at *
    cases h2<;>simp[Dk] at h1'
    left;simp[Instr.sameNow,Df,D.cells,EZ,FZ]
   ·rename_i kk
    simp at ht;subst ht
    generalize e.key=v at *
    have e1:k.cells=[k]:=by cases k<;>simp_all[D.cells,D.isAgg]
    have e2:kv.1.cells=[kv.1]:=by cases hh:kv.1<;>simp_all[D.cells,D.isAgg]
    rw[e1] at hk';rw[e2] at h1'
    cases hu<;>simp[Dk] at hk'
    generalize kv.1=q at *
    cases h2<;>simp[Dk] at h1'
    obtain⟨_,rfl⟩:=hk'
    obtain⟨_,rfl⟩:=h1'
    left;simp[Instr.sameNow,Df,D.cells,EZ,FZ,NS]
  simp only[Instr.findNow]
  rcases hs with hs|hs
  ·rw[hs]
   cases hq:Df k kv.1
   ·simp only;rw[Ie hq];exact ih
   ·left;simp[Dp,F8,hq]
  ·rw[hs];right;rfl
theorem MF {kt:TypeId}{tys:Lv}(ht:C4 P kt=some tys):∃d,P.underlying kt=some d:=by
 unfold C4 at ht
 cases h:P.underlying kt with
 |none=>simp[h] at ht
 |some d=>exact⟨d,rfl⟩
theorem G_ {kt:TypeId}{tys:Lv}(ht:C4 P kt=some tys) {k:D}{fb fb2:Nat->Prop}{u:Value}(hk:Iz tys k=true) (hu:A4 w fb k u)
  {kvs:List (D×D)}{es:List MapEntry}(he:Q5 w fb2 tys kvs es):(Instr.findKey kt u es).run P w=.ok (Dp k kvs es 0) w:=by
 obtain⟨d,hd⟩:=MF ht
 simp only[Instr.findKey,Sem.run_bind,run_underlying hd,Result.andThen_ok]
 rcases JW ht hd hk hu kvs es 0 he with h|h
 ·rw[h];rfl
 ·rw[h];exact I8 ht hk hu kvs es 0 he
end
section
variable {E:C2}{c:Dh}{β:Nat->Nat->Value}{s:BP}{tm:Array Value}{w:World}{K:AV->B6->Prop}
theorem PM {t:TypeId}{z:D}(h:Fh E.P t=some z) {fb}:∃v,(zeroValue t).run E.P w=.ok v w/\A4 w fb z v:=by
 unfold Fh at h
 cases hi:E.P.info? t with
 |none=>simp[hi] at h
 |some i =>
  simp only[hi,Option.bind_some] at h
  split at h
  ·rename_i cs hz
   cases hl:BD Ln cs.toList with
   |none=>simp[hl] at h
   |some l =>
    simp[hl] at h;subst h
    refine⟨.agg cs,by simp[zeroValue,typeInfo,hi,hz],.agg l cs (by rw[Aw hl];simp) (fun c hc=>?_) (fun i y v hy hv=>?_)⟩
    ·obtain⟨x,_,hx⟩:=Dj hl hc
     unfold Ln at hx
     split at hx<;>(try split at hx)<;>simp at hx<;>subst hx<;>rfl
    ·obtain⟨x,hx,hxy⟩:=BK hl hy
     have:x=v:=by simpa[Array.getElem?_toList,hv] using hx.symm
     subst this
     exact Gr hxy
  ·rename_i v _ hz
   exact⟨v,by simp[zeroValue,typeInfo,hi,hz],Gr h⟩
  ·cases h
theorem QM (h:B0 E c β s tm w) {t kt e:TypeId}{tys:Lv}{z:D}{ok:Bool}(ht:E.P.underlying t=some (.map kt e)) (hk:C4 E.P kt=some tys) (hz:Fh E.P e=some z)
  {m key:AV}{um uk:Value}{dst:Option Nat}(hm:AL w (c.bar β s.V) β s.V.cn m um) (hkey:AL w (c.bar β s.V) β s.V.cn key uk) (he:ev E dst s.V (.lookup ok tys z) [m,key] K) :
  Gx E c s tm K ((Instr.lookup t um uk ok).run E.P w):=by
 obtain⟨zv,hzv,hzr⟩:=PM (w:=w) (fb:=c.bar β s.V) hz
 have fin:∀(b:Bool) (d:D) (v:Value),A4 w (c.bar β s.V) d v->AL w (c.bar β s.V) β s.V.cn (if ok then .tup [.d d,.d (.bool b)] else .d d) (if ok then .tuple #[v,.bool b] else v):=by
  intro b d v hd
  cases ok
  ·exact .d _ _ hd
  ·simp only[if_true]
   refine .tup _ _ rfl fun i c v hc hv=>?_
   match i with
   |0=>simp at hc hv;subst hc hv;exact .d _ _ hd
   |1=>simp at hc hv;subst hc hv;exact HL
   |i+2=>simp at hc
 unfold ev at he
 simp only at he
 split at he
 ·rename_i o g key' heq
  simp only[List.cons.injEq,and_true] at heq;obtain⟨rfl,rfl⟩:=heq
  split at he
  ·rename_i tys' kvs k hg hd
   obtain⟨rfl,hty,he⟩:=he
   have hob:=AB.get_some hg
   obtain⟨hlt,ho⟩:=h.objs _ _ _ hob
   cases hm with|map _ _ _ _ =>
   generalize β o g=um at *
   cases ho with|map _ _ b es hb hl hent =>
   have hkr:=(CU hkey hd).1
   have hE:Q5 w (c.bar β s.V) tys kvs es.toList:=⟨by simpa using hl,fun i kv e h1 h2=>by
    obtain⟨a1,a2,a3,_⟩:=hent i kv e h1 (by simpa using h2)
    exact⟨a1,a2,a3⟩⟩
   rw[Ps] at he
   have hfind:=G_ hk hty hkr hE
   cases hi:F8 k kvs with
   |none =>
    simp[hi] at he
    refine Cf h he ?_ (fin false z zv hzr)
    simp only[Instr.lookup,Sem.run_bind,run_underlying ht,Result.andThen_ok,C_ hb,Sem.run_pure,Da hk hty hkr es.isEmpty 9998,hfind,Dp,hi,Option.bind_none,hzv]
   |some j =>
    have hj:=NU hi
    have hkj:kvs[j]?=some kvs[j]:=List.getElem?_eq_getElem hj
    have hej:es[j]?=some es[j]:=Array.getElem?_eq_getElem (by omega)
    simp[hi,hkj] at he
    refine Cf h he ?_ (fin true _ es[j].val (hent j _ _ hkj hej).2.2.1)
    have hej':es.toList[j]?=some es[j]:=by simpa using hej
    simp only[Instr.lookup,Sem.run_bind,run_underlying ht,Result.andThen_ok,C_ hb,Sem.run_pure,Da hk hty hkr es.isEmpty 9998,hfind,Dp,hi,Option.bind_some,hej',Option.map_some]
  ·exact he.elim
 ·rename_i key' heq
  simp only[List.cons.injEq,and_true] at heq;obtain⟨rfl,rfl⟩:=heq
  split at he
  ·rename_i k hd
   obtain⟨hty,he⟩:=he
   have hkr:=(CU hkey hd).1
   cases hm with|d _ _ hm=>cases hm with|nilmap =>
   refine Cf h he ?_ (fin false z zv hzr)
   have hfind:=G_ (w:=w) (fb2:=c.bar β s.V) hk hty hkr (kvs:=[]) (es:=[]) ⟨rfl,fun i kv e h1=>by simp at h1⟩
   simp only[Instr.lookup,Sem.run_bind,run_underlying ht,Result.andThen_ok,Sem.run_pure,Da hk hty hkr _ 9998,hfind,Dp,F8,Option.bind_none,hzv]
  ·exact he.elim
 ·exact he.elim
end
end Go.Pw
end
section
namespace Go.Pw
open Go.RowKit
section
variable {E:C2}{c:Dh}{β:Nat->Nat->Value}{s:BP}{tm:Array Value}{w:World}{K:AV->B6->Prop}
def YI (E:C2) (c:Dh) (s:BP) (tm:Array Value) (K:AV->B6->Prop) (r:Result Unit):Prop :=
 ∃w' ch β',r=.ok () w'/\K .undef ch/\B0 E c β' ⟨s.sl,s.V.app ch⟩ tm w'
def World.setObjAt (w:World) (r:Nat) (o:Obj):World:={ w with heap:=w.heap.setIfInBounds r o }
theorem Ee {P:Program}{b:Nat}{es:Array MapEntry}{cl:Nat}{o:Obj}(hb:w.heap[b]?=some (.map es cl)):(setObj b o).run P w=.ok () (World.setObjAt w b o):=by
 simp[setObj,Sem.run,hb,World.setObjAt]
theorem Mo {b:Nat}{o:Obj}:Gv (.map (some b)) w (World.setObjAt w b o):=by
 refine⟨rfl,rfl,rfl,by simp[World.setObjAt],fun k hk hne=>?_⟩
 simp only[World.setObjAt]
 rw[Array.getElem?_setIfInBounds_ne]
 intro h;subst h;exact hne rfl
theorem VA {b:Nat}{o:Obj}(hb:b<w.heap.size):(World.setObjAt w b o).heap[b]?=some o:=by
 simp[World.setObjAt,hb]
theorem K8 {P:Program}{tys:Lv}{a k:D}{fb fb2:Nat->Prop}{u v:Value}(ha:Iz tys a=true) (hk:Iz tys k=true) (hu:A4 w fb a u) (hv:A4 w fb2 k v) (he:Df k a=true) :
  (Instr.keyThatStays u v).run P w=.ok v w:=by
 have prim:∀{ks:Option IntKind}{x y:D}{p q:Value}(n:Nat),Dk [ks] [x]=true->Dk [ks] [y]=true->A4 w fb x p->A4 w fb2 y q->FZ y x=true->Instr.sameBits n p q=true:=by
  intro ks x y p q n hx hy hp hq hpe
  cases ks with
  |none =>
   cases hp<;>simp[Dk] at hx
   cases hq<;>simp[Dk] at hy
   simp[FZ] at hpe;subst hpe
   simp[Instr.sameBits]
  |some kk =>
   cases hp<;>simp[Dk] at hx
   cases hq<;>simp[Dk] at hy
   subst hx hy
   simp[FZ] at hpe;subst hpe
   simp[Instr.sameBits]
 have hs:Instr.sameBits 10000 u v=true:=by
  simp only[Iz,Bool.and_eq_true,beq_iff_eq] at ha hk
  by_cases hag:tys.1=true
  ·rw[hag] at ha hk
   obtain⟨cs,rfl⟩:∃cs,a=.agg cs:=by cases a<;>simp_all[D.isAgg]
   obtain⟨ds,rfl⟩:∃cs,k=.agg cs:=by cases k<;>simp_all[D.isAgg]
   cases hu with|agg _ us hl1 _ hr1 =>
   cases hv with|agg _ vs hl2 _ hr2 =>
   simp only[D.cells] at ha hk
   have e1:=Bh ha.2
   have e2:=Bh hk.2
   simp only[Instr.sameBits,Bool.and_eq_true,beq_iff_eq]
   refine⟨by omega,?_⟩
   have key:∀(ks:List (Option IntKind)) (cs ds:List D) (us vs:List Value),Dk ks cs=true->Dk ks ds=true->EZ ds cs=true->us.length=cs.length->vs.length=ds.length ->
     (∀(i:Nat) c v,cs[i]?=some c->us[i]?=some v->A4 w fb c v)->(∀(i:Nat) c v,ds[i]?=some c->vs[i]?=some v->A4 w fb2 c v)->((us.zip vs).all fun(x,y)=>Instr.sameBits 9999 x y)=true:=by
    intro ks
    induction ks with
    |nil =>
        intro cs ds us vs h1 h2 h3 h4 h5 _ _
        have:=Bh h1;simp at this;subst this
        simp at h4;subst h4;simp
    |cons k ks ih =>
     intro cs ds us vs h1 h2 h3 h4 h5 h6 h7
     have l1:=Bh h1;have l2:=Bh h2
     match cs,ds,us,vs,l1,l2,h4,h5 with
     |x::cs,y::ds,p::us,q::vs,_,_,h4,h5 =>
      simp only[EZ,Bool.and_eq_true] at h3
      simp only[List.zip_cons_cons,List.all_cons,Bool.and_eq_true]
      exact⟨prim 9999 (Cj h1).1 (Cj h2).1 (h6 0 x p (by simp) (by simp)) (h7 0 y q (by simp) (by simp)) h3.1,
       ih cs ds us vs (Cj h1).2 (Cj h2).2 h3.2 (by simpa using h4) (by simpa using h5) (fun i c v hc hv=>h6 (i+1) c v (by simpa using hc) (by simpa using hv)) (fun i c v hc hv=>h7 (i+1) c v (by simpa using hc) (by simpa using hv))⟩
   exact key tys.2 cs ds us.toList vs.toList ha.2 hk.2 he (by simpa using hl1) (by simpa using hl2) (fun i c v hc hv=>hr1 i c v hc (by simpa using hv)) (fun i c v hc hv=>hr2 i c v hc (by simpa using hv))
  ·simp only[Bool.not_eq_true] at hag
   rw[hag] at ha hk
   have e1:a.cells=[a]:=by cases a<;>simp_all[D.cells,D.isAgg]
   have e2:k.cells=[k]:=by cases k<;>simp_all[D.cells,D.isAgg]
   rw[e1] at ha;rw[e2] at hk
   have:=Bh ha.2
   match hts:tys.2,this with
   |[kk],_ =>
    rw[hts] at ha hk
    exact prim 10000 ha.2 hk.2 hu hv (by simpa[Df,e1,e2,EZ] using he)
 simp[Instr.keyThatStays,hs]
theorem LX {k:D}:∀{kvs:List (D×D)}{j:Nat}{e:D×D},F8 k kvs=some j->kvs[j]?=some e->Df k e.1=true
 |[],j,e,h,he=>by simp at he
 |e0::es,j,e,h,he=>by
  simp only[F8] at h
  split at h
  ·rename_i hq;simp at h;subst h;simp at he;subst he;exact hq
  ·cases hi:F8 k es with
   |none=>simp[hi] at h
   |some i=>simp[hi] at h;subst h;simp at he;exact LX hi he
theorem Se:∀{ks:List (Option IntKind)}{cs ds:List D},Dk ks cs=true->Dk ks ds=true->EZ ds cs=true->ds=cs
 |[],cs,ds,h1,h2,_=>by have l1:=Bh h1;have l2:=Bh h2;simp at l1 l2;subst l1 l2;rfl
 |k::ks,cs,ds,h1,h2,h3=>by
  have l1:=Bh h1;have l2:=Bh h2
  match cs,ds,l1,l2 with
  |x::cs,y::ds,_,_ =>
   simp only[EZ,Bool.and_eq_true] at h3
   rw[Se (Cj h1).2 (Cj h2).2 h3.2]
   have a1:=(Cj h1).1;have a2:=(Cj h2).1
   have:y=x:=by
    cases k<;>cases x<;>simp[Dk] at a1<;>cases y<;>simp[Dk] at a2<;>simp_all[FZ]
   rw[this]
theorem R9 {tys:Lv}{a k:D}(ha:Iz tys a=true) (hk:Iz tys k=true) (h:Df k a=true):k=a:=by
 simp only[Iz,Bool.and_eq_true,beq_iff_eq] at ha hk
 have:=Se ha.2 hk.2 h
 cases a<;>cases k<;>simp_all[D.cells,D.isAgg]
theorem MI (h:B0 E c β s tm w) {o g:Nat}{tys:Lv}{kvs:List (D×D)}{um:Value}(hg:s.V.get o g=some (.map tys kvs)) (hm:AL w (c.bar β s.V) β s.V.cn (.map o g) um) :
  ∃b es,um=.map (some b)/\β o g=.map (some b)/\s.V.ob o=some (g,.map tys kvs)/\w.heap[b]?=some (.map es kvs.length)/\es.size=kvs.length /\
   (∀(i:Nat) (kv:D×D) (e:MapEntry),kvs[i]?=some kv->es[i]?=some e->Iz tys kv.1=true/\A4 w (c.bar β s.V) kv.1 e.key/\A4 w (c.bar β s.V) kv.2 e.val/\e.born=i):=by
 have hob:=AB.get_some hg
 obtain⟨hlt,ho⟩:=h.objs _ _ _ hob
 cases hm with|map _ _ _ _ =>
 generalize hv:β o g=um at *
 cases ho with|map _ _ b es hb hl hent=>exact⟨b,es,rfl,rfl,hob,hb,hl,hent⟩
theorem JM (h:B0 E c β s tm w) {o g:Nat}{tys:Lv}{kvs kvs':List (D×D)}{b:Nat}{es es':Array MapEntry}(hβ:β o g=.map (some b)) (hob:s.V.ob o=some (g,.map tys kvs)) (hb:w.heap[b]?=some (.map es kvs.length))
  (hl':es'.size=kvs'.length) (hent':∀(i:Nat) (kv:D×D) (e:MapEntry),kvs'[i]?=some kv->es'[i]?=some e->Iz tys kv.1=true/\A4 w (c.bar β s.V) kv.1 e.key/\A4 w (c.bar β s.V) kv.2 e.val/\e.born=i) :
  B0 E c β ⟨s.sl,s.V.app (.keep o g (.map tys kvs'))⟩ tm (World.setObjAt w b (.map es' kvs'.length)):=by
 have hlt:b<w.heap.size:=(Array.getElem?_eq_some_iff.1 hb).1
 have hst:A2 (c.bar β s.V) w (World.setObjAt w b (.map es' kvs'.length)):=fun k hk hlt=>by
  have:=Mo (w:=w) (b:=b) (o:=.map es' kvs'.length)
  refine this.block k hlt fun he=>hk (.inr ⟨o,g,_,hob,by rw[hβ];exact he⟩)
 refine h.kept hob (by rw[hβ];exact Mo) fun fb' hf hfe=>?_
 rw[hβ]
 refine .map tys kvs' b es' (VA hlt) hl' fun i kv e h1 h2=>?_
 obtain⟨a1,a2,a3,a4⟩:=hent' i kv e h1 h2
 exact⟨a1,a2.mono hst hf,a3.mono hst hf,a4⟩
theorem QK (h:B0 E c β s tm w) {t kt e:TypeId}{tys:Lv}(ht:E.P.underlying t=some (.map kt e)) (hk:C4 E.P kt=some tys)
  {m key val:AV}{um uk uv:Value}{dst:Option Nat}(hm:AL w (c.bar β s.V) β s.V.cn m um) (hkey:AL w (c.bar β s.V) β s.V.cn key uk) (hval:AL w (c.bar β s.V) β s.V.cn val uv) (he:ev E dst s.V (.mapupd tys) [m,key,val] K) :
  YI E c s tm K ((Instr.mapUpdate t um uk uv).run E.P w):=by
 unfold ev at he
 simp only at he
 split at he
 ·rename_i o g key' val' heq
  simp only[List.cons.injEq,and_true] at heq;obtain⟨rfl,rfl,rfl⟩:=heq
  split at he
  ·rename_i tys' kvs k v hg hd hdv
   obtain⟨rfl,hv1,hty,he⟩:=he
   obtain⟨b,es,rfl,hβ,hob,hb,hl,hent⟩:=MI h hg hm
   have hkr:=(CU hkey hd).1
   have hvr:=(CU hval hdv).1
   have hE:Q5 w (c.bar β s.V) tys kvs es.toList:=⟨by rw[Array.length_toList];exact hl,fun i kv e h1 h2=>by
    obtain⟨a1,a2,a3,_⟩:=hent i kv e h1 (by simpa using h2)
    exact⟨a1,a2,a3⟩⟩
   rw[RZ] at he
   have hfind:=G_ hk hty hkr hE
   cases hi:F8 k kvs with
   |none =>
    simp only[hi] at he
    refine⟨_,_,β,?_,he,JM h hβ hob hb (es':=es.push ⟨uk,uv,kvs.length⟩) (by simp[hl]) ?_⟩
    ·simp only[Instr.mapUpdate,Sem.run_bind,run_underlying ht,Result.andThen_ok,C_ hb,Da hk hty hkr _ 9998,hfind,Dp,hi,Option.bind_none,Ee hb,List.length_append,List.length_cons,List.length_nil]
    ·intro i kv e h1 h2
     rw[Array.getElem?_push] at h2
     split at h2
     ·rename_i hi'
      simp at h2;subst h2
      rw[hi',hl] at h1
      simp at h1;subst h1
      exact⟨hty,hkr,hvr,by simp only;omega⟩
     ·have hlt:i<es.size:=(Array.getElem?_eq_some_iff.1 h2).1
      rw[List.getElem?_append_left (by omega)] at h1
      exact hent i kv e h1 h2
   |some j =>
    have hj:=NU hi
    have hkj:kvs[j]?=some kvs[j]:=List.getElem?_eq_getElem hj
    have hej:es[j]?=some es[j]:=Array.getElem?_eq_getElem (by omega)
    have hej':es.toList[j]?=some es[j]:=by rw[Array.getElem?_toList];exact hej
    simp only[hi,hkj] at he
    obtain⟨b1,b2,b3,b4⟩:=hent j _ _ hkj hej
    have hstay:=K8 (P:=E.P) b1 hty b2 hkr (LX hi hkj)
    have hlen:(kvs.set j (kvs[j].1,v)).length=kvs.length:=by simp
    refine⟨_,_,β,?_,he,JM h hβ hob hb (es':=es.modify j fun e=>{ e with key:=uk,val:=uv }) (by simp[hl]) ?_⟩
    ·rw[hlen]
     simp only[Instr.mapUpdate,Sem.run_bind,run_underlying ht,Result.andThen_ok,C_ hb,Da hk hty hkr _ 9998,hfind,Dp,hi,Option.bind_some,hej',Option.map_some,Nat.zero_add,hej,Option.getD_some,hstay,Ee hb]
    ·intro i kv e h1 h2
     rw[Array.getElem?_modify] at h2
     by_cases hij:j=i
     ·subst hij
      rw[if_pos rfl,hej] at h2
      simp at h2;subst h2
      simp[hj] at h1;subst h1
      refine⟨b1,?_,hvr,b4⟩
      rw[←R9 b1 hty (LX hi hkj)];exact hkr
     ·rw[if_neg hij] at h2
      rw[List.getElem?_set_ne hij] at h1
      exact hent i kv e h1 h2
  ·exact he.elim
 ·exact he.elim
theorem QL (h:B0 E c β s tm w) {t kt e:TypeId}{tys:Lv}{z:D}(ht:E.P.underlying t=some (.map kt e)) (hk:C4 E.P kt=some tys) (hz:Fh E.P e=some z) (hz1:z.one=true)
  {m key:AV}{um uk:Value}{dst:Option Nat}(hm:AL w (c.bar β s.V) β s.V.cn m um) (hkey:AL w (c.bar β s.V) β s.V.cn key uk) (he:ev E dst s.V (.mapent tys z) [m,key] K) :
  Gx E c s tm K ((Instr.mapEntry t um uk).run E.P w):=by
 obtain⟨zv,hzv,hzr⟩:=PM (w:=w) (fb:=c.bar β s.V) hz
 have fin:∀{w':World}{fb:Nat->Prop}{β':Nat->Nat->Value}{cn:Nat->Nat}(v:Value) (n:Nat),n<=maxLen->AL w' fb β' cn (.tup [.undef,.d (.int .i64 n)]) (.tuple #[v,goInt n]):=by
  intro w' fb β' cn v n hn
  refine .tup _ _ rfl fun i c v' hc hv=>?_
  match i with
  |0=>simp at hc hv;subst hc hv;exact .undef _
  |1=>simp at hc hv;subst hc hv;exact .d _ _ (.int _ _ (by simp only[Jg,maxLen] at *;simp[IntKind.min,IntKind.max,IntKind.signed,IntKind.bits];omega))
  |i+2=>simp at hc
 unfold ev at he
 simp only at he
 split at he
 ·rename_i o g key' heq
  simp only[List.cons.injEq,and_true] at heq;obtain⟨rfl,rfl⟩:=heq
  split at he
  ·rename_i tys' kvs k hg hd
   obtain⟨rfl,hty,hsz,he⟩:=he
   obtain⟨b,es,rfl,hβ,hob,hb,hl,hent⟩:=MI h hg hm
   have hkr:=(CU hkey hd).1
   have hE:Q5 w (c.bar β s.V) tys kvs es.toList:=⟨by rw[Array.length_toList];exact hl,fun i kv e h1 h2=>by
    obtain⟨a1,a2,a3,_⟩:=hent i kv e h1 (by simpa using h2)
    exact⟨a1,a2,a3⟩⟩
   have hfind:=G_ hk hty hkr hE
   cases hi:F8 k kvs with
   |none =>
    simp only[hi] at he
    refine⟨_,_,_,_,β,?_,he,JM h hβ hob hb (es':=es.push ⟨uk,zv,kvs.length⟩) (by simp[hl]) ?_,fin zv kvs.length (by unfold maxLen;unfold DS at hsz;omega)⟩
    ·simp only[Instr.mapEntry,Sem.run_bind,run_underlying ht,Result.andThen_ok,C_ hb,Da hk hty hkr _ 9998,hfind,Dp,hi,Option.bind_none,Ee hb,List.length_append,List.length_cons,List.length_nil,hzv,Sem.run_pure]
    ·intro i kv e h1 h2
     rw[Array.getElem?_push] at h2
     split at h2
     ·rename_i hi'
      simp at h2;subst h2
      rw[hi',hl] at h1
      simp at h1;subst h1
      exact⟨hty,hkr,hzr,by simp only;omega⟩
     ·have hlt:i<es.size:=(Array.getElem?_eq_some_iff.1 h2).1
      rw[List.getElem?_append_left (by omega)] at h1
      exact hent i kv e h1 h2
   |some j =>
    have hj:=NU hi
    have hkj:kvs[j]?=some kvs[j]:=List.getElem?_eq_getElem hj
    have hej:es[j]?=some es[j]:=Array.getElem?_eq_getElem (by omega)
    have hej':es.toList[j]?=some es[j]:=by rw[Array.getElem?_toList];exact hej
    simp only[hi] at he
    obtain⟨b1,b2,b3,b4⟩:=hent j _ _ hkj hej
    have hstay:=K8 (P:=E.P) b1 hty b2 hkr (LX hi hkj)
    have hrel:=JM h hβ hob hb (kvs':=kvs) (es':=es.modify j fun e=>{ e with key:=uk }) (by simp[hl]) (fun i kv e h1 h2=>by
     rw[Array.getElem?_modify] at h2
     by_cases hij:j=i
     ·subst hij
      rw[if_pos rfl,hej] at h2
      simp at h2;subst h2
      rw[hkj] at h1;simp at h1;subst h1
      exact⟨b1,by rw[←R9 b1 hty (LX hi hkj)];exact hkr,b3,b4⟩
     ·rw[if_neg hij] at h2
      exact hent i kv e h1 h2)
    have hV:s.V.app (.keep o g (.map tys kvs))=s.V:=by
     simp only[AB.app]
     have:BJ s.V.ob o (some (g,AI.map tys kvs))=s.V.ob:=by
      funext q;simp only[BJ];split
      ·rename_i hq;rw[hq,hob]
      ·rfl
     rw[this]
    rw[hV] at hrel
    refine⟨_,_,_,.none,β,?_,he,hrel,fin es[j].val j (by unfold maxLen;unfold DS at hsz;omega)⟩
    simp only[Instr.mapEntry,Sem.run_bind,run_underlying ht,Result.andThen_ok,C_ hb,Da hk hty hkr _ 9998,hfind,Dp,hi,Option.bind_some,hej',Option.map_some,Nat.zero_add,hej,Option.getD_some,hstay,Ee hb,Sem.run_pure,b4]
  ·exact he.elim
 ·exact he.elim
theorem RQ (h:B0 E c β s tm w) {t:TypeId}
  {m st val:AV}{um us uv:Value}{dst:Option Nat}(hm:AL w (c.bar β s.V) β s.V.cn m um) (hst:AL w (c.bar β s.V) β s.V.cn st us) (hval:AL w (c.bar β s.V) β s.V.cn val uv) (he:ev E dst s.V .entst [m,st,val] K) :
  YI E c s tm K ((Instr.entryStore t um us uv).run E.P w):=by
 unfold ev at he
 simp only at he
 split at he
 ·rename_i o g k i val' heq
  simp only[List.cons.injEq,and_true] at heq;obtain⟨rfl,rfl,rfl⟩:=heq
  split at he
  ·rename_i tys kvs v hg hdv
   obtain⟨h0,hv1,he⟩:=he
   split at he
   ·rename_i kv hkv
    obtain⟨rfl,_⟩:=Bb hst
    obtain⟨b,es,rfl,hβ,hob,hb,hl,hent⟩:=MI h hg hm
    have hvr:=(CU hval hdv).1
    have hj:i.toNat<kvs.length:=(List.getElem?_eq_some_iff.1 hkv).1
    have hfind:es.findIdx? (fun e=>(e.born:Int) == i)=some i.toNat:=by
     rw[Array.findIdx?_eq_some_iff_getElem]
     refine⟨by omega,?_,fun q hq=>?_⟩
     ·have:=(hent i.toNat kv _ hkv (Array.getElem?_eq_getElem (by omega))).2.2.2
      rw[this];simp;omega
     ·have:=(hent q kvs[q] _ (List.getElem?_eq_getElem (by omega)) (Array.getElem?_eq_getElem (by omega))).2.2.2
      rw[this];simp;omega
    have hlen:(kvs.set i.toNat (kv.1,v)).length=kvs.length:=by simp
    refine⟨_,_,β,?_,he,JM h hβ hob hb (es':=es.modify i.toNat fun e=>{ e with val:=uv }) (by simp[hl]) ?_⟩
    ·rw[hlen]
     simp only[Instr.entryStore,Sem.run_bind,Sem.run_pure,C_ hb,asInt,asIntOf,Result.andThen_ok,hfind,Ee hb]
    ·intro q kv' e h1 h2
     rw[Array.getElem?_modify] at h2
     by_cases hij:i.toNat=q
     ·subst hij
      have hej:es[i.toNat]?=some es[i.toNat]:=Array.getElem?_eq_getElem (by omega)
      obtain⟨b1,b2,b3,b4⟩:=hent _ _ _ hkv hej
      rw[if_pos rfl,hej] at h2
      simp at h2;subst h2
      simp[hj] at h1;subst h1
      exact⟨b1,b2,hvr,b4⟩
     ·rw[if_neg hij] at h2
      rw[List.getElem?_set_ne hij] at h1
      exact hent q kv' e h1 h2
   ·exact he.elim
  ·exact he.elim
 ·exact he.elim
end
end Go.Pw
end
section
namespace Go.Pw
open Go.RowKit
section
variable {E:C2}{c:Dh}{β:Nat->Nat->Value}{s:BP}{tm:Array Value}{w:World}{K:AV->B6->Prop}
theorem C0 (w:World) (o:Obj):Below w.heap.size w (w.alloc o):=(Below.refl _ _).alloc (Nat.le_refl _) o
theorem Oe (w:World):Below w.heap.size w w.drew:=(Below.refl _ _).drew
theorem Hq (w:World) (o:Obj):Below w.heap.size w (w.drew.alloc o):=((Below.refl _ _).drew).alloc (Nat.le_refl _) o
theorem Ft {v:Value}(h:v.oneCell'=true):v.cells=#[v]:=by cases v<;>first|rfl|simp[Value.oneCell'] at h
theorem IC {fb β' cn} {x:AV}{u:Value}{cs:List AV}(h:AL w fb β' cn x u) (hc:x.cells?=some cs):CQ (AL w fb β' cn) cs u.cells/\∀y,y∈cs->y.one=true:=by
 have one:∀{y:AV},AL w fb β' cn y u->y.one=true->CQ (AL w fb β' cn) [y] u.cells/\∀z,z∈[y]->z.one=true:=by
  intro y hy h1
  rw[Ft (hy.oneCell h1)]
  refine⟨⟨rfl,fun i c v hc hv=>?_⟩,by simpa using h1⟩
  match i with
  |0=>simp at hc hv;subst hc hv;exact hy
  |i+1=>simp at hc
 have dcase:∀ds:List D,x=.d (.agg ds)->CQ (AL w fb β' cn) (ds.map .d) u.cells/\∀y,y∈ds.map AV.d->y.one=true:=by
  intro ds hx
  subst hx
  obtain⟨vs,rfl,h2,h3⟩:=OZ h
  refine⟨⟨by simpa[Value.cells] using h2.1,fun i c v hc hv=>?_⟩,by simpa[AV.one] using h3⟩
  rw[List.getElem?_map] at hc
  cases hd:ds[i]? with
  |none=>simp[hd] at hc
  |some d=>simp[hd] at hc;subst hc;exact .d _ _ (h2.2 i d v hd hv)
 cases x with
 |agg cs' =>
  simp[AV.cells?] at hc;subst hc
  obtain⟨vs,rfl,h2,h3⟩:=Lu h
  exact⟨h2,h3⟩
 |d y =>
  cases y<;>simp[AV.cells?] at hc<;>subst hc<;>first|exact dcase _ rfl|exact one h rfl
 |tup=>simp[AV.cells?] at hc
 |undef=>simp[AV.cells?] at hc
 |_=>simp[AV.cells?] at hc;subst hc;exact one h rfl
theorem Ms (h:B0 E c β s tm w) {t:Nat}(hlim:t<BH) {cs:List AV}{cur:Array Value}{e:TypeId}(hR:CQ (AL w (c.bar β s.V) β s.V.cn) cs cur) (h1:∀y,y∈cs->y.one=true) :
  ∃β',B0 E c β' ⟨s.sl,s.V.app (.fresh t (.cells cs))⟩ tm (w.alloc (.cells cur e)) /\
   AL (w.alloc (.cells cur e)) (c.bar β' (s.V.app (.fresh t (.cells cs)))) β' (s.V.app (.fresh t (.cells cs))).cn (.ptr t (s.V.cn t) 0) (.pointer (some ⟨w.heap.size,0,none⟩)):=by
 refine⟨E4 β t (s.V.cn t) (.pointer (some ⟨w.heap.size,0,none⟩)),h.fresh hlim (.of_below _ (C0 w _)) (fun b hb=>?_) (fun β' fb' hβ' hfe hf=>?_),.ptr _ _ _ w.heap.size (Gt _ _ _) (B1 _ _ _ _)⟩
 ·simp[DK,BM] at hb;subst hb;exact⟨by simp,.inl (Nat.le_refl _)⟩
 ·refine .cells cs w.heap.size cur e (heap_alloc_new w _) hR.1 h1 fun i x u hx hu=>?_
  refine(hR.2 i x u hx hu).mono (.of_below (C0 w _)) hf (fun o g hg=>?_) (fun k=>?_)
  ·rw[hβ'];exact EW o g hg
  ·simp only[AB.app,BJ];split<;>simp_all
theorem U4 (h:B0 E c β s tm w) {t:Nat}{x:AV}{u:Value}{e:TypeId}(hx:AL w (c.bar β s.V) β s.V.cn x u) (he:ev E (some t) s.V .box [x] K) :
  Gx E c s tm K ((Instr.box e u).run E.P w):=by
 unfold ev at he
 simp only at he
 split at he
 ·rename_i cs hc
  obtain⟨h3,h4⟩:=IC hx hc
  obtain⟨β',h5,h6⟩:=Ms h (t:=t) he.1 (e:=e) h3 h4
  exact⟨_,_,_,_,β',by simp[Instr.box,newVar,newRow],he.2,h5,h6⟩
 ·exact he.elim
theorem Nc {t:TypeId}{z:List D}(h:Gc E.P t=some z):∃v,(zeroValue t).run E.P w=.ok v w/\∀fb,CQ (A4 w fb) z v.cells/\∀y,y∈z->y.one=true:=by
 unfold Gc at h
 cases hi:E.P.info? t with
 |none=>simp[hi] at h
 |some i =>
  simp only[hi,Option.bind_some] at h
  split at h
  ·rename_i v hz
   refine⟨v,by simp[zeroValue,typeInfo,hi,hz],fun fb=>⟨⟨by rw[Aw h];simp,fun i y u hy hu=>?_⟩,fun y hy=>?_⟩⟩
   ·obtain⟨x,hx,hxy⟩:=BK h hy
    have:x=u:=by simpa[Array.getElem?_toList,hu] using hx.symm
    subst this
    exact Gr hxy
   ·obtain⟨x,_,hx⟩:=Dj h hy
    unfold Ln at hx
    split at hx<;>(try split at hx)<;>simp at hx<;>subst hx<;>rfl
  ·cases h
theorem Oc {fb β' cn} {l:List D}{vs:Array Value}(h:CQ (A4 w fb) l vs):CQ (AL w fb β' cn) (l.map .d) vs:=by
 refine⟨by simpa using h.1,fun i c v hc hv=>?_⟩
 rw[List.getElem?_map] at hc
 cases hd:l[i]? with
 |none=>simp[hd] at hc
 |some d=>simp[hd] at hc;subst hc;exact .d _ _ (h.2 i d v hd hv)
theorem Sz (h:B0 E c β s tm w) {t:Nat}{e:TypeId}{z:List D}(hz:Gc E.P e=some z) (he:ev E (some t) s.V (.zero z) [] K) :
  Gx E c s tm K ((Instr.alloc e true (.tuple #[])).run E.P w):=by
 unfold ev at he
 simp only at he
 obtain⟨v,hv,hr⟩:=Nc (w:=w) hz
 obtain⟨hr,h1⟩:=hr (c.bar β s.V)
 obtain⟨β',h5,h6⟩:=Ms h (t:=t) he.1 (e:=e) (Oc hr) (by simpa[AV.one] using h1)
 exact⟨_,_,_,_,β',by simp[Instr.alloc,hv,newVar,newRow],he.2,h5,h6⟩
theorem RL (h:B0 E c β s tm w) {t:Nat}{e:TypeId}{tys:Lv}(he:ev E (some t) s.V (.mkmap tys) [] K) :
  Gx E c s tm K ((Instr.makeMap e none).run E.P w):=by
 unfold ev at he
 simp only at he
 refine⟨_,_,_,_,E4 β t (s.V.cn t) (.map (some w.heap.size)),run_makeMap _ _,he.2,h.fresh he.1 (.of_below _ (C0 w _)) (fun b hb=>?_) (fun β' fb' hβ' hfe hf=>?_),AL.map_new rfl (Gt _ _ _)⟩
 ·simp[DK,BM] at hb;subst hb;exact⟨by simp,.inl (Nat.le_refl _)⟩
 ·exact .map tys [] w.heap.size #[] (heap_alloc_new w _) rfl fun i kv e h1=>by simp at h1
theorem FT (h:B0 E c β s tm w) {t:Nat}(hlim:t<BH) {ety es:Nat}{nl:Bool}{l:List D}{vo:Value}{w':World}(hw:Below w.heap.size w w') (h1:vo.oneCell'=true)
  (hb:∀b,DK vo b->w.heap.size<=b/\b<w'.heap.size) (hr:∀fb',(∀b,b<w.heap.size->fb' b->c.bar β s.V b)->Cw w' fb' ety es nl l vo) :
  ∃β',B0 E c β' ⟨s.sl,s.V.app (.fresh t (.row ety es nl l))⟩ tm w'/\AL w' (c.bar β' (s.V.app (.fresh t (.row ety es nl l)))) β' (s.V.app (.fresh t (.row ety es nl l))).cn (.own t (s.V.cn t)) vo :=
 ⟨E4 β t (s.V.cn t) vo,h.fresh hlim (.of_below _ hw) (fun b hbb=>⟨(hb b hbb).2,.inl (hb b hbb).1⟩) (fun β' fb' hβ' hfe hf=>.row _ _ _ _ _ (hr fb' hf)),AL.own_new h1 (Gt _ _ _)⟩
def Bu (l:List D):List D:=l.flatMap D.cells
theorem Fr {es:Nat}:∀{l:List D},C9 es l->∀{i j:Nat}{x c:D},l[i]?=some x->x.cells[j]?=some c->(Bu l)[i*es+j]?=some c
 |[],_,i,j,x,c,hi,_=>by simp at hi
 |y::l,hu,0,j,x,c,hi,hj=>by
  simp at hi;subst hi
  simp only[Bu,List.flatMap_cons,Nat.zero_mul,Nat.zero_add]
  rw[List.getElem?_append_left (List.getElem?_eq_some_iff.1 hj).1];exact hj
 |y::l,hu,i+1,j,x,c,hi,hj=>by
  simp at hi
  have:=Fr (l:=l) (fun z hz=>hu z (by simp[hz])) hi hj
  have hy:=hu y (by simp)
  simp only[Bu,List.flatMap_cons] at this ⊢
  rw[List.getElem?_append_right (by rw[hy,Nat.add_mul];omega),hy,show (i+1)*es+j-es=i*es+j by rw[Nat.add_mul];omega]
  exact this
theorem Bz {es:Nat}:∀{l:List D},C9 es l->(Bu l).length=l.length*es
 |[],_=>by simp[Bu]
 |y::l,hu=>by
  have:=Bz (l:=l) (fun z hz=>hu z (by simp[hz]))
  have hy:=hu y (by simp)
  simp only[Bu,List.flatMap_cons,List.length_append,List.length_cons] at this ⊢
  rw[this,hy,Nat.add_mul];omega
theorem MA {w':World}{fb:Nat->Prop}{ety es:Nat}{l:List D}{b:Nat}{cap:Nat}{cur:Array Value}(hb:w'.heap[b]?=some (.cells cur ety (0,0))) (hlc:l.length<=cap) (hm:cap<=maxLen) (hsz:cap*es<=cur.size) (hes:0<es)
  (hu:C9 es l) (h1:∀x c,x∈l->c∈x.cells->c.one=true) (hR:∀(q:Nat) (x:D),(Bu l)[q]?=some x->∃u,cur[q]?=some u/\A4 w' fb x u) :
  Cw w' fb ety es false l (.slice (some ⟨b,0,none⟩) l.length cap) :=
 .inr ⟨rfl,b,0,cap,cur,rfl,hb,hlc,hm,by omega,hes,hu,h1,fun i x j cc hi hj=>by rw[Nat.zero_add];exact hR _ _ (Fr hu hi hj)⟩
theorem KL {z:Array Value}{n es i j:Nat}(hz:z.size=es) (hi:i<n) (hj:j<es):(madeCells z (n*es))[i*es+j]?=z[j]?:=by
 have hlt:i*es+j<n*es:=by
  have:(i+1)*es<=n*es:=Nat.mul_le_mul_right _ hi
  rw[Nat.add_mul] at this;omega
 have hm:(i*es+j)%z.size=j:=by rw[hz,Nat.mul_comm,Nat.mul_add_mod,Nat.mod_eq_of_lt hj]
 simp only[madeCells,Array.getElem?_map,Array.getElem?_range,hlt,if_true,Option.map_some,hm]
 rw[getElem!_pos z j (by omega),Array.getElem?_eq_getElem (by omega)]
theorem Jp {e:TypeId}{z:D}(h:Fh E.P e=some z):∃i v,E.P.info? e=some i/\i.zero=some v/\(∀w fb,A4 w fb z v)/\(∀x,x∈z.cells->x.one=true)/\v.cells.size=z.cells.length /\
  (∀w fb (j:Nat) (x:D),z.cells[j]?=some x->∃u,v.cells[j]?=some u/\A4 w fb x u):=by
 have dec1:∀{v:Value}{d:D},Ln v=some d->d.one=true:=by
  intro v d hx
  unfold Ln at hx
  split at hx<;>(try split at hx)<;>simp at hx<;>subst hx<;>rfl
 unfold Fh at h
 cases hi:E.P.info? e with
 |none=>simp[hi] at h
 |some i =>
  simp only[hi,Option.bind_some] at h
  split at h
  ·rename_i cs hz
   cases hl:BD Ln cs.toList with
   |none=>simp[hl] at h
   |some l =>
    simp[hl] at h;subst h
    have hr:∀w fb (j:Nat) (x:D),l[j]?=some x->∃u,cs[j]?=some u/\A4 w fb x u:=by
     intro w fb j x hj
     obtain⟨u,hu,hd⟩:=BK hl hj
     exact⟨u,by rwa [Array.getElem?_toList] at hu,Gr hd⟩
    have h1:∀x,x∈l->x.one=true:=fun x hx=>by
     obtain⟨u,_,hd⟩:=Dj hl hx
     exact dec1 hd
    refine⟨i,.agg cs,rfl,hz,fun w fb=>.agg l cs (by rw[Aw hl];simp) h1 (fun j x u hj hu=>?_),h1,by simp[Value.cells,D.cells,Aw hl],hr⟩
    obtain⟨u',hu',hd⟩:=hr w fb j x hj
    rw[hu] at hu';simp at hu';subst hu';exact hd
  ·rename_i v hnv hz
   have h1:=dec1 h
   have hrep:∀w fb,A4 w fb z v:=fun w fb=>Gr h
   have hv1:=(hrep default (fun _=>False)).oneCell h1
   have hc:z.cells=[z]:=by cases z<;>first|rfl|simp[D.one] at h1
   refine⟨i,v,rfl,hz,hrep,by rw[hc];simpa using h1,by rw[hc,Ft hv1];rfl,fun w fb j x hj=>?_⟩
   rw[hc] at hj
   match j with
   |0=>simp at hj;subst hj;exact⟨v,by rw[Ft hv1];rfl,hrep w fb⟩
   |j+1=>simp at hj
  ·cases h
theorem GI {z:D}{n q:Nat}{x:D}{es:Nat}(hz:z.cells.length=es) (hes:0<es) (h:(Bu (List.replicate n z))[q]?=some x):q/es<n/\z.cells[q%es]?=some x:=by
 have hu:C9 es (List.replicate n z):=fun y hy=>by rw[List.eq_of_mem_replicate hy];exact hz
 have hlt:q<n*es:=by
  have:=(List.getElem?_eq_some_iff.1 h).1
  rw[Bz hu] at this;simpa using this
 have hi:q/es<n:=Nat.div_lt_of_lt_mul (by rw[Nat.mul_comm];exact hlt)
 have hj:q%es<es:=Nat.mod_lt _ hes
 obtain⟨c,hc⟩:∃c,z.cells[q%es]?=some c:=⟨_,List.getElem?_eq_getElem (by omega)⟩
 have:=Fr hu (i:=q/es) (j:=q%es) (x:=z) (c:=c) (by simp[hi]) hc
 rw[Nat.mul_comm,Nat.div_add_mod] at this
 rw[h] at this;simp at this;subst this
 exact⟨hi,hc⟩
theorem Gu (h:B0 E c β s tm w) {b:Nat}(hb:c.bar β s.V b):b<w.heap.size:=by
 rcases hb with hb|⟨o,g,x,h1,h2⟩
 ·exact Nat.lt_of_lt_of_le (h.low b hb).1 h.keep.size
 ·exact(h.home o g x b h1 h2).1
theorem S1 (h:B0 E c β s tm w) {t:Nat}{ty e:TypeId}{i:TypeInfo}{z:D}{own:Bool}(ht:E.P.underlying ty=some (.slice e)) (hi:E.P.info? e=some i) (hz:Fh E.P e=some z)
  (hpos:0<i.size) (hby:i.bytes<=131072) (hzl:z.cells.length=i.size)
  {x y:AV}{u v:Value}(hx:AL w (c.bar β s.V) β s.V.cn x u) (hy:AL w (c.bar β s.V) β s.V.cn y v) (he:ev E (some t) s.V (.mksl e i.size z own) [x,y] K) :
  Gx E c s tm K ((Instr.makeSlice ty u v).run E.P w):=by
 unfold ev at he
 simp only at he
 split at he
 ·rename_i t' n m h1 h2
  simp only[Option.some.injEq,List.cons.injEq,and_true] at h1 h2
  obtain rfl:=h1
  obtain⟨rfl,rfl⟩:=h2
  obtain⟨rfl,h0,hn,he⟩:=he
  obtain⟨rfl,_⟩:=Bb hx
  obtain⟨rfl,_⟩:=Bb hy
  obtain⟨i',zv,hi',hzv,hzr,hz1,hzs,hzc⟩:=Jp hz
  rw[hi] at hi';simp at hi';subst hi'
  have hbd:n<=1073741824:=hn
  have hrun:=run_make (P:=E.P) w ty e i zv ht hi hzv .i64 .i64 n n h0 (Int.le_refl _) (by
   have h1:(i.bytes:Int)*n<=131072*1073741824:=Int.mul_le_mul (by omega) hbd h0 (by omega)
   omega) (by omega)
  have hlen:(List.replicate n.toNat z).length=n.toNat:=by simp
  have hrow:∀fb',(∀b,b<w.heap.size->fb' b->c.bar β s.V b)->Cw (w.alloc (.cells (madeCells zv.cells (n.toNat * i.size)) e)) fb' e i.size false (List.replicate n.toNat z) (.slice (some ⟨w.heap.size,0,none⟩) n.toNat n.toNat):=by
   intro fb' _
   have:=MA (w':=w.alloc (.cells (madeCells zv.cells (n.toNat * i.size)) e)) (fb:=fb') (ety:=e) (es:=i.size) (l:=List.replicate n.toNat z) (b:=w.heap.size) (cap:=n.toNat) (heap_alloc_new w _) (by simp) (by unfold maxLen;omega) (by rw[size_madeCells];omega) hpos
    (fun y hy=>by rw[List.eq_of_mem_replicate hy];exact hzl) (fun y cc hy hc=>by rw[List.eq_of_mem_replicate hy] at hc;exact hz1 _ hc) (fun q y hq=>by
     obtain⟨a1,a2⟩:=GI hzl hpos hq
     obtain⟨u,hu,hd⟩:=hzc (w.alloc (.cells (madeCells zv.cells (n.toNat * i.size)) e)) fb' _ _ a2
     refine⟨u,?_,hd⟩
     have:=KL (z:=zv.cells) (n:=n.toNat) (es:=i.size) (by omega) a1 (Nat.mod_lt q hpos)
     rw[Nat.mul_comm (q/i.size),Nat.div_add_mod] at this
     rw[this];exact hu)
   rwa [hlen] at this
  cases own with
  |true =>
   simp only[if_true] at he
   obtain⟨β',h5,h6⟩:=FT h (t:=t) he.1 (C0 w _) (vo:=.slice (some ⟨w.heap.size,0,none⟩) n.toNat n.toNat) rfl (fun b hb=>by simp[DK,BM] at hb;subst hb;exact⟨Nat.le_refl _,by simp⟩) hrow
   exact⟨_,_,_,_,β',hrun,he.2,h5,h6⟩
  |false =>
   simp only[Bool.false_eq_true,if_false] at he
   have hrel:=h.grow (C0 w (.cells (madeCells zv.cells (n.toNat * i.size)) e))
   refine⟨_,_,_,.none,β,hrun,he,hrel,.d _ _ (Cs (hrow _ fun b _ hb=>hb) fun b hb hbar=>?_)⟩
   simp[DK,BM] at hb;subst hb
   have:=Gu h hbar;omega
 ·exact he.elim
end
end Go.Pw
end
section
namespace Go.Pw
open Go.RowKit
theorem CX {α:Type}{cs vs:List α}{off:Nat}(h:off+vs.length<=cs.length):(Ba cs off vs).length=cs.length:=by
 simp[Ba];omega
theorem Ci {α:Type}{cs vs:List α}{off:Nat}(h:off+vs.length<=cs.length) (i:Nat) :
  (Ba cs off vs)[i]?=if i<off then cs[i]? else if i<off+vs.length then vs[i-off]? else cs[i]?:=by
 unfold Ba
 split
 ·rename_i hi
  rw[List.append_assoc,List.getElem?_append_left (by simp;omega),List.getElem?_take,if_pos hi]
 ·rename_i hi
  split
  ·rename_i hi2
   rw[List.append_assoc,List.getElem?_append_right (by simp;omega),List.length_take,Nat.min_eq_left (by omega),List.getElem?_append_left (by omega)]
  ·rename_i hi2
   rw[List.getElem?_append_right (by simp;omega),List.getElem?_drop]
   congr 1
   simp;omega
theorem Hx {α:Type}{cs vs:List α}{off:Nat}{x:α}(h:x∈Ba cs off vs):x∈cs\/x∈vs:=by
 simp only[Ba,List.mem_append] at h
 rcases h with(h|h)|h
 ·exact .inl (List.mem_of_mem_take h)
 ·exact .inr h
 ·exact .inl (List.mem_of_mem_drop h)
section
variable {E:C2}{c:Dh}{β:Nat->Nat->Value}{s:BP}{tm:Array Value}{w:World}{K:AV->B6->Prop}
theorem QG {α:Type}{R:α->Value->Prop}{cs vs:List α}{us ws:Array Value}{off:Nat}(h1:CQ R cs us) (h2:CQ R vs ws) (h:off+vs.length<=cs.length) :
  CQ R (Ba cs off vs) (Ba us.toList off ws.toList).toArray:=by
 have e1:=h1.1;have e2:=h2.1
 have hh:off+ws.toList.length<=us.toList.length:=by simp;omega
 refine⟨by rw[List.size_toArray,CX hh,CX h];simp;omega,fun i x v hx hv=>?_⟩
 rw[List.getElem?_toArray] at hv
 rw[Ci h] at hx
 rw[Ci hh] at hv
 have e3:ws.toList.length=vs.length:=by simp;omega
 rw[e3] at hv
 split at hx
 ·rename_i hi;rw[if_pos hi] at hv;exact h1.2 i x v hx (by simpa using hv)
 ·rename_i hi;rw[if_neg hi] at hv
  split at hx
  ·rename_i hi2;rw[if_pos hi2] at hv;exact h2.2 _ x v hx (by simpa using hv)
  ·rename_i hi2;rw[if_neg hi2] at hv;exact h1.2 i x v hx (by simpa using hv)
theorem DL {b:Nat}{cur:Array Value}{v:Value}(hv:DK v b):Gv v w (w.setRow b cur):=by
 refine⟨rfl,rfl,rfl,by simp[World.setRow],fun k hk hne=>setRow_other w b k _ (fun h=>hne (h ▸ hv))⟩
theorem Em {t:TypeId}{n:Nat}(hsz:D8 E.P t=some n) {b off:Nat}{cur:Array Value}{e:TypeId}(hb:w.heap[b]?=some (.cells cur e (0,0))) {u:Value}(hu:u.cells.size=n) (h1:∀v,v∈u.cells.toList->v.oneCell'=true) (hfit:off+n<=cur.size) :
  (Instr.storeAt t (.pointer (some ⟨b,off,none⟩)) u).run E.P w=.ok () (w.setRow b (Ba cur.toList off u.cells.toList).toArray):=by
 have:=run_storeCells_at E.P b off e u.cells.toList 0 cur w hb (by simp;omega) h1
 simp only[Nat.add_zero] at this
 simp[Instr.storeAt,Instr.sureAddr,storeVar,Be hsz,hu,this,Ba]
theorem F5 {α:Type}{R:α->Value->Prop}{one:α->Bool}{cs:List α}{us:Array Value}(h:CQ R cs us) (h1:∀y,y∈cs->one y=true) (h2:∀y v,one y=true->R y v->v.oneCell'=true):∀v,v∈us.toList->v.oneCell'=true:=by
 intro v hv
 obtain⟨i,hi⟩:=List.getElem?_of_mem hv
 have hi':us[i]?=some v:=by simpa using hi
 have hlt:i<us.size:=(Array.getElem?_eq_some_iff.1 hi').1
 obtain⟨y,hy⟩:∃y,cs[i]?=some y:=⟨_,List.getElem?_eq_getElem (by have:=h.1;omega)⟩
 exact h2 y v (h1 y (List.mem_of_getElem? hy)) (h.2 i y v hy hi')
theorem Nl {fb β' cn} {x:AV}{u:Value}{d:D}(h:AL w fb β' cn x u) (hd:x.toD1=some d):CQ (A4 w fb) d.cells u.cells/\∀y,y∈d.cells->y.one=true:=by
 obtain⟨hr,_⟩:=CU h hd
 have hne:(∀l,d≠.tup l)/\d≠.junk:=by
  unfold AV.toD1 at hd
  split at hd
  ·split at hd<;>simp at hd;subst hd;exact⟨fun _=>by simp,by simp⟩
  ·split at hd<;>simp at hd;subst hd;exact⟨fun _=>by simp,by simp⟩
  ·unfold AV.toD0 at hd
   split at hd
   ·cases hd
   ·cases hd
   ·simp at hd;subst hd;exact⟨fun l hl=>by simp_all,fun hj=>by simp_all⟩
   ·simp at hd;subst hd;exact⟨fun _=>by simp,by simp⟩
   ·split at hd
    ·cases hd
    ·simp at hd;subst hd;exact⟨fun _=>by simp,by simp⟩
   ·cases hd
 have single:d.one=true->d.cells=[d]->CQ (A4 w fb) d.cells u.cells/\∀y,y∈d.cells->y.one=true:=by
  intro h1 hc
  rw[hc,Ft (hr.oneCell h1)]
  refine⟨⟨rfl,fun i c v hc hv=>?_⟩,by simpa using h1⟩
  match i with
  |0=>simp at hc hv;subst hc hv;exact hr
  |i+1=>simp at hc
 cases d with
 |agg cs=>cases hr with|agg _ vs hl h1 hc=>exact⟨⟨hl,hc⟩,h1⟩
 |tup l=>exact absurd rfl (hne.1 l)
 |junk=>exact absurd rfl hne.2
 |_=>exact single rfl rfl
theorem RI (h:B0 E c β s tm w) {t:TypeId}{n:Nat}(hsz:D8 E.P t=some n) (hn:0<n) {dst:Option Nat}{p x:AV}{up ux:Value}
  (hp:AL w (c.bar β s.V) β s.V.cn p up) (hx:AL w (c.bar β s.V) β s.V.cn x ux) (he:ev E dst s.V (.store n) [p,x] K) :
  YI E c s tm K ((Instr.storeAt t up ux).run E.P w):=by
 unfold ev at he
 simp only at he
 split at he
 ·rename_i o g off x' heq
  simp only[List.cons.injEq,and_true] at heq;obtain⟨rfl,rfl⟩:=heq
  split at he
  ·rename_i cs vs hg hc
   obtain⟨hvn,hfit,he⟩:=he
   have hob:=AB.get_some hg
   obtain⟨hlt,ho⟩:=h.objs _ _ _ hob
   cases hp with|ptr _ _ _ b hlt hβ =>
   rw[hβ] at ho
   cases ho with|cells _ _ cur e hb hl h1 hr =>
   obtain⟨h3,h4⟩:=IC hx hc
   have hones:=F5 (one:=AV.one) h3 h4 fun y v h1 h2=>h2.oneCell h1
   have hun:ux.cells.size=n:=by have:=h3.1;omega
   refine⟨_,_,β,Em hsz hb hun hones (by omega),he,h.kept hob (by rw[hβ];exact DL rfl) fun fb' hf hfe=>?_⟩
   have hst:A2 (c.bar β s.V) w (w.setRow b (Ba cur.toList off ux.cells.toList).toArray):=fun k hk hlt=>by
    refine setRow_other w b k _ fun hkb=>hk (.inr ⟨o,g,_,hob,by rw[hβ,hkb];exact rfl⟩)
   rw[hβ]
   have hsp:=QG (off:=off) ⟨hl,hr⟩ h3 (by omega)
   refine .cells _ b _ e (setRow_heap w b cur _ e _ hb) hsp.1 (fun y hy=>(Hx hy).elim (h1 y) (h4 y)) fun i y u hy hu=>?_
   exact(hsp.2 i y u hy hu).mono hst hf (fun _ _ _=>rfl) (fun _=>Nat.le_refl _)
  ·exact he.elim
 ·rename_i o g es0 i off q p' heq
  simp only[List.cons.injEq,and_true] at heq;obtain⟨rfl,rfl⟩:=heq
  obtain⟨hq1,hq2⟩:=IC hx (show AV.cells? (.own q p')=some [.own q p'] from rfl)
  have hones:=F5 (one:=AV.one) hq1 hq2 fun y v h1 h2=>h2.oneCell h1
  have hu0:∃u,ux.cells.toList=[u]/\AL w (c.bar β s.V) β s.V.cn (.own q p') u:=by
   have h1:=hq1.1
   simp at h1
   refine⟨ux.cells[0]'(by omega),?_,hq1.2 0 _ _ (by simp) (Array.getElem?_eq_getElem (by omega))⟩
   apply List.ext_getElem
   ·simpa using h1
   ·intro j h2 h3
    simp at h3;subst h3;simp
  obtain⟨u0,hu1,hu2⟩:=hu0
  cases hu2 with|own _ _ hpl hpo =>
  have key:∀(l:List D) (b b0 cap:Nat) (ety:Nat) (cur:Array Value),β o g=.slice (some ⟨b,b0,none⟩) l.length cap->w.heap[b]?=some (.cells cur ety (0,0))->l.length<=cap->cap<=maxLen->b0+cap*1<=cur.size ->
    (∀x,x∈l->x.cells.length=1)->(∀x c,x∈l->c∈x.cells->c.one=true)->i<l.length ->
    (∀(j:Nat) (x:D) (cc:D),j≠i->l[j]?=some x->x.cells[0]?=some cc->∃u,cur[b0+j]?=some u/\A4 w (c.bar β s.V) cc u) ->
    (∃y,s.V.ob o=some (g,y))->es0=1->off=0->n=1->up=.pointer (some ⟨b,b0+i*es0+off,none⟩)->K .undef (.keep o g (.rowH ety l i q p'))->YI E c s tm K ((Instr.storeAt t up ux).run E.P w):=by
   intro l b b0 cap ety cur hβ h3 h4 h5 h6 h8 h10 hi h9 hobe hes hoff hn1 hup hK
   obtain⟨yy,hob⟩:=hobe
   subst hes hoff hn1 hup
   have hun:ux.cells.size=1:=by have:=congrArg List.length hu1;simpa using this
   refine⟨_,_,β,Em hsz h3 hun hones (by omega),hK,h.kept hob (by rw[hβ];exact DL rfl) fun fb' hf hfe=>?_⟩
   have hst:A2 (c.bar β s.V) w (w.setRow b (Ba cur.toList (b0+i*1+0) ux.cells.toList).toArray):=fun k hk hlt=>by
    refine setRow_other w b k _ fun hkb=>hk (.inr ⟨o,g,_,hob,by rw[hβ,hkb];exact rfl⟩)
   have hfit':(b0+i*1+0)+ux.cells.toList.length<=cur.toList.length:=by rw[hu1];simp;omega
   refine .rowH _ _ _ _ _ _ ⟨b,b0,cap,_,by rw[hβ],setRow_heap w b cur _ _ _ h3,h4,h5,by rw[List.size_toArray,CX hfit'];simpa using h6,h8,h10,⟨hi,?_,hpl,hpo⟩,fun j x cc hj hx hc=>?_⟩
   ·rw[List.getElem?_toArray,Ci hfit',hu1]
    rw[if_neg (by omega),if_pos (by simp)]
    simp
   ·obtain⟨u,hu,hd⟩:=h9 j x cc hj hx hc
    refine⟨u,?_,hd.mono hst hf⟩
    rw[List.getElem?_toArray,Ci hfit',hu1]
    by_cases hji:b0+j<b0+i*1+0
    ·rw[if_pos hji];simpa using hu
    ·rw[if_neg hji,if_neg (by simp;omega)];simpa using hu
  split at he
  ·rename_i ety es nl l hg
   obtain⟨hes,hes2,hnl,hoff,hn1,hi,hK⟩:=he
   subst hes2
   have hob:=AB.get_some hg
   obtain⟨hlt,ho⟩:=h.objs _ _ _ hob
   cases hp with|rptr _ _ _ _ _ b b0 len cap hlt hβ =>
   rw[hβ] at ho
   cases ho with|row _ _ _ _ _ ho =>
   rcases ho with⟨_,_,h3⟩|⟨_,b',off',cap',cur,h2,h3,h4,h5,h6,h7,h8,h10,h9⟩
   ·cases h3
   ·simp only[Value.slice.injEq,Option.some.injEq,Addr.mk.injEq] at h2
    obtain⟨⟨rfl,rfl,_⟩,rfl,rfl⟩:=h2
    refine key l b b0 cap ety cur hβ h3 h4 h5 h6 h8 h10 hi (fun j x cc _ hx hc=>?_) ⟨_,hob⟩ hes hoff hn1 rfl hK
    obtain⟨u,hu,hd⟩:=h9 j x 0 cc hx hc
    exact⟨u,by simpa using hu,hd⟩
  ·rename_i ety l k q1 p1 hg
   obtain⟨hes,hoff,hn1,hik,hK⟩:=he
   subst hik
   have hob:=AB.get_some hg
   obtain⟨hlt,ho⟩:=h.objs _ _ _ hob
   cases hp with|rptr _ _ _ _ _ b b0 len cap hlt hβ =>
   rw[hβ] at ho
   cases ho with|rowH _ _ _ _ _ _ ho =>
   obtain⟨b',off',cap',cur,h2,h3,h4,h5,h6,h8,h10,⟨k1,k2,k3,k4⟩,h9⟩:=ho
   simp only[Value.slice.injEq,Option.some.injEq,Addr.mk.injEq] at h2
   obtain⟨⟨rfl,rfl,_⟩,rfl,rfl⟩:=h2
   exact key l b b0 cap ety cur hβ h3 h4 h5 h6 h8 h10 k1 h9 ⟨_,hob⟩ hes hoff hn1 rfl hK
  ·exact he.elim
 ·rename_i o g es0 i off x' hno heq
  simp only[List.cons.injEq,and_true] at heq;obtain⟨rfl,rfl⟩:=heq
  split at he
  ·rename_i ety es nl l y hg hd
   obtain⟨rfl,he⟩:=he
   split at he
   ·rename_i z hz
    obtain⟨hyn,hfit,hcase,he⟩:=he
    have hob:=AB.get_some hg
    obtain⟨hlt,ho⟩:=h.objs _ _ _ hob
    cases hp with|rptr _ _ _ _ _ b b0 len cap hlt hβ =>
    rw[hβ] at ho
    cases ho with|row _ _ _ _ _ ho =>
    rcases ho with⟨_,_,h3⟩|⟨hnl,b',off',cap',cur,h2,h3,h4,h5,h6,h7,h8,h10,h9⟩
    ·cases h3
    ·simp only[Value.slice.injEq,Option.some.injEq,Addr.mk.injEq] at h2
     obtain⟨⟨rfl,rfl,_⟩,rfl,rfl⟩:=h2
     obtain⟨hyr,hy1⟩:=Nl hx hd
     have hones:=F5 (one:=D.one) hyr hy1 fun y v h1 h2=>h2.oneCell h1
     have hun:ux.cells.size=n:=by have:=hyr.1;omega
     have hzl:z.cells.length=es0:=h8 z (List.mem_of_getElem? hz)
     have hi:i<l.length:=(List.getElem?_eq_some_iff.1 hz).1
     have hbig:b0+i*es0+off+n<=cur.size:=by
      have:(i+1)*es0<=cap*es0:=Nat.mul_le_mul_right _ (by omega)
      rw[Nat.add_mul] at this;omega
     generalize hz':(if n=es0 then y else D.agg (Ba z.cells off y.cells))=z' at he
     have hz'c:z'.cells=Ba z.cells off y.cells:=by
      rw[←hz']
      split
      ·rename_i hne
       have:off=0:=by omega
       subst this
       simp[Ba,hzl,hyn,hne]
      ·rfl
     have hz'l:z'.cells.length=es0:=by rw[hz'c,CX (by omega)];exact hzl
     refine⟨_,_,β,Em hsz h3 hun hones hbig,he,h.kept hob (by rw[hβ];exact DL rfl) fun fb' hf hfe=>?_⟩
     have hst:A2 (c.bar β s.V) w (w.setRow b (Ba cur.toList (b0+i*es0+off) ux.cells.toList).toArray):=fun k hk hlt=>by
      refine setRow_other w b k _ fun hkb=>hk (.inr ⟨o,g,_,hob,by rw[hβ,hkb];exact rfl⟩)
     rw[hβ]
     have hfit':(b0+i*es0+off)+ux.cells.toList.length<=cur.toList.length:=by simp;omega
     refine .row _ _ _ _ _ (.inr ⟨hnl,b,b0,cap,_,by simp,setRow_heap w b cur _ _ _ h3,by simpa using h4,h5,by rw[List.size_toArray,CX hfit'];simpa using h6,h7,fun q hq=>?_,fun q cc hq hc=>?_,fun k q j cc hk hj=>?_⟩)
     ·rcases List.mem_or_eq_of_mem_set hq with hq|rfl
      ·exact h8 q hq
      ·exact hz'l
     ·rcases List.mem_or_eq_of_mem_set hq with hq|rfl
      ·exact h10 q cc hq hc
      ·rw[hz'c] at hc
       exact(Hx hc).elim (h10 z cc (List.mem_of_getElem? hz)) (hy1 cc)
     ·rw[List.getElem?_toArray,Ci hfit']
      have hlen:ux.cells.toList.length=n:=by simpa using hun
      rw[hlen]
      have hjlt:j<q.cells.length:=(List.getElem?_eq_some_iff.1 hj).1
      by_cases hki:i=k
      ·subst hki
       simp[hi] at hk;subst hk
       rw[hz'l] at hjlt
       rw[hz'c,Ci (by omega),hyn] at hj
       by_cases hj1:j<off
       ·rw[if_pos hj1] at hj
        rw[if_pos (by omega)]
        obtain⟨u,hu,hd⟩:=h9 i z j cc hz hj
        exact⟨u,by simpa using hu,hd.mono hst hf⟩
       ·rw[if_neg hj1] at hj
        rw[if_neg (by omega)]
        by_cases hj2:j<off+n
        ·rw[if_pos hj2] at hj
         rw[if_pos (by omega),show b0+i*es0+j-(b0+i*es0+off)=j-off by omega]
         obtain⟨u,hu⟩:∃u,ux.cells[j-off]?=some u:=⟨_,Array.getElem?_eq_getElem (by omega)⟩
         exact⟨u,by simpa using hu,(hyr.2 _ cc u hj hu).mono hst hf⟩
        ·rw[if_neg hj2] at hj
         rw[if_neg (by omega)]
         obtain⟨u,hu,hd⟩:=h9 i z j cc hz hj
         exact⟨u,by simpa using hu,hd.mono hst hf⟩
      ·rw[List.getElem?_set_ne hki] at hk
       rw[h8 q (List.mem_of_getElem? hk)] at hjlt
       obtain⟨u,hu,hd⟩:=h9 k q j cc hk hj
       have hout:¬(b0+i*es0+off<=b0+k*es0+j/\b0+k*es0+j<b0+i*es0+off+n):=by
        rintro⟨g1,g2⟩
        rcases Nat.lt_or_ge k i with hlt|hge
        ·have:(k+1)*es0<=i*es0:=Nat.mul_le_mul_right _ hlt
         rw[Nat.add_mul] at this;omega
        ·have:(i+1)*es0<=k*es0:=Nat.mul_le_mul_right _ (by omega)
         rw[Nat.add_mul] at this;omega
       refine⟨u,?_,hd.mono hst hf⟩
       split
       ·simpa using hu
       ·rw[if_neg (by omega)];simpa using hu
   ·exact he.elim
  ·exact he.elim
 ·rename_i i o g j o' g' heq
  simp only[List.cons.injEq,and_true] at heq;obtain⟨rfl,rfl⟩:=heq
  split at he
  ·rename_i e1 e2 nl ix rows hg
   obtain⟨rfl,rfl,rfl,hi,hj,hK⟩:=he
   have hob:=AB.get_some hg
   obtain⟨hlt,ho⟩:=h.objs _ _ _ hob
   obtain⟨v,hv⟩:∃v,β o' g'=v:=⟨_,rfl⟩
   cases hp with|mref _ _ _ _ _ hm _ =>
   cases hx with|mref _ _ _ _ _ hmx hux1 =>
   rw[hv] at ho
   cases ho with|mat _ _ _ _ _ _ ho =>
   obtain⟨v0,vs,hvv,hlen,h0,hr,hsep⟩:=ho
   have hv':=hv
   rw[hvv] at hv'
   rw[hv'] at hm hmx
   simp only[Du,Ce,List.getElem?_cons_succ] at hmx
   rcases h0 with⟨_,h01,_⟩|⟨hnl,b,off,cap,cur,h2,h3,h4,h5,h6,h7⟩
   ·rw[h01] at hi;simp at hi
   ·subst h2
    simp only[Du,Ce,List.getElem?_cons_zero,Option.bind_some,Np,Option.some.injEq] at hm
    subst hm
    have hcs:=Ft hux1
    have hblk:DK (β o' g') b:=by rw[hv'];exact⟨0,_,by rw[Ce];rfl,rfl⟩
    refine⟨_,_,β,Em (n:=1) hsz h3 (by rw[hcs];rfl) (fun v hv=>by rw[hcs] at hv;simp at hv;subst hv;exact hux1) (by omega),hK,h.kept hob (DL hblk) fun fb' hf hfe=>?_⟩
    have hst:A2 (c.bar β s.V) w (w.setRow b (Ba cur.toList (off+i) ux.cells.toList).toArray):=fun k hk hlt=>by
     refine setRow_other w b k _ fun hkb=>hk (.inr ⟨_,_,_,hob,hkb ▸ hblk⟩)
    rw[hv']
    have hfit:off+i+[ux].length<=cur.toList.length:=by simp;omega
    refine .mat _ _ _ _ _ _ ⟨_,vs,rfl,hlen,.inr ⟨hnl,b,off,cap,_,by simp,setRow_heap w b cur _ _ _ h3,by simpa using h4,h5,?_,fun p q hp=>?_⟩,fun q y u hy hu=>?_,hsep⟩
    ·rw[hcs,List.size_toArray,CX (by simpa using hfit)];simpa using h6
    ·rw[hcs,List.getElem?_toArray,show (#[ux]:Array Value).toList=[ux] from rfl,Ci hfit]
     have hpl:p<ix.length:=by have:=(List.getElem?_eq_some_iff.1 hp).1;simpa using this
     by_cases hpi:p=i
     ·subst hpi
      rw[List.getElem?_set_self hi] at hp
      simp at hp;subst hp
      exact⟨ux,hmx,by rw[if_neg (by omega),if_pos (by simp)];simp⟩
     ·rw[List.getElem?_set_ne (Ne.symm hpi)] at hp
      obtain⟨u,hu1,hu2⟩:=h7 p q hp
      refine⟨u,hu1,?_⟩
      by_cases hlt2:p<i
      ·rw[if_pos (by omega)];simpa using hu2
      ·rw[if_neg (by omega),if_neg (by simp;omega)];simpa using hu2
    ·have hrow:=hr q y u hy hu
     refine hrow.mono hst hf fun b' hb' _=>setRow_other w b b' _ fun hbb=>?_
     have:=hsep 0 (q+1) _ u b rfl (by simpa using hu) rfl (hbb ▸ hrow.blk hb')
     omega
  ·exact he.elim
 ·rename_i i o g q p' heq
  simp only[List.cons.injEq,and_true] at heq;obtain⟨rfl,rfl⟩:=heq
  split at he
  ·rename_i e1 e2 nl ix rows e2' es2 nl2 l2 hg hg2
   obtain⟨rfl,hol,hql,hoq,he1,he2,hi,hK⟩:=he
   subst he1 he2
   have hob:=AB.get_some hg
   have hob2:=AB.get_some hg2
   obtain⟨hlt,ho⟩:=h.objs _ _ _ hob
   obtain⟨hlt2,ho2⟩:=h.objs _ _ _ hob2
   obtain⟨v,hv⟩:∃v,β o g=v:=⟨_,rfl⟩
   obtain⟨uq,hvq⟩:∃u,β q p'=u:=⟨_,rfl⟩
   cases hp with|mref _ _ _ _ _ hm _ =>
   have hux:ux=uq/\uq.oneCell'=true:=by cases hx with|own _ _ _ h1=>exact⟨hvq,hvq ▸ h1⟩
   obtain⟨rfl,hux1⟩:=hux
   rw[hvq] at ho2
   cases ho2 with|row _ _ _ _ _ ho2 =>
   rw[hv] at ho
   cases ho with|mat _ _ _ _ _ _ ho =>
   obtain⟨v0,vs,hvv,hlen,h0,hr,hsep⟩:=ho
   have hv':=hv
   rw[hvv] at hv'
   rw[hv'] at hm
   rcases h0 with⟨_,h01,_⟩|⟨hnl,b,off,cap,cur,h2,h3,h4,h5,h6,h7⟩
   ·rw[h01] at hi;simp at hi
   ·subst h2
    simp only[Du,Ce,List.getElem?_cons_zero,Option.bind_some,Np,Option.some.injEq] at hm
    subst hm
    have hcs:=Ft hux1
    have hblk0:DK (.tuple (.slice (some ⟨b,off,none⟩) ix.length cap::vs).toArray) b:=⟨0,_,by rw[Ce];rfl,rfl⟩
    have hblk:DK (β o g) b:=by rw[hv'];exact hblk0
    have hrun:=Em (n:=1) hsz h3 (off:=off+i) (u:=ux) (by rw[hcs];rfl) (fun v hv=>by rw[hcs] at hv;simp at hv;subst hv;exact hux1) (by omega)
    have hblkr:∀{j u b},vs[j]?=some u->BM u=some b->DK (β o g) b:=fun {j u b} hj hb=>by rw[hv'];exact⟨j+1,u,by simpa using hj,hb⟩
    have hblkq:∀{b},BM ux=some b->DK (β q p') b:=fun {b} hb=>by
     rw[hvq]
     rcases ho2 with⟨_,_,h⟩|⟨_,_,_,_,_,h,_⟩
     ·rw[h] at hb;cases hb
     ·rw[h] at hb ⊢;exact hb
    have hsepq:∀{b},DK (β o g) b->BM ux=some b->False:=fun {b} hb hq=>hoq (h.sep _ _ _ _ _ _ b hob hob2 hb (hblkq hq))
    have hst:A2 (c.bar β s.V) w (w.setRow b (Ba cur.toList (off+i) ux.cells.toList).toArray):=fun k hk hlt=>by
     refine setRow_other w b k _ fun hkb=>hk (.inr ⟨_,_,_,hob,hkb ▸ hblk⟩)
    have hfit:off+i+[ux].length<=cur.toList.length:=by simp;omega
    have hpart:∀{j u},(Value.slice (some ⟨b,off,none⟩) ix.length cap::(vs++[ux]))[j]?=some u->(j=0/\u=.slice (some ⟨b,off,none⟩) ix.length cap)\/(∃j',j=j'+1/\vs[j']?=some u)\/(j=vs.length+1/\u=ux):=fun {j u} hj=>by
     cases j with
     |zero=>simp at hj;exact .inl ⟨rfl,hj.symm⟩
     |succ j =>
      simp only[List.getElem?_cons_succ] at hj
      by_cases hjl:j<vs.length
      ·rw[List.getElem?_append_left hjl] at hj;exact .inr (.inl ⟨j,rfl,hj⟩)
      ·rw[List.getElem?_append_right (by omega)] at hj
       have:=(List.getElem?_eq_some_iff.1 hj).1
       simp at this
       have hjj:j=vs.length:=by omega
       subst hjj
       simp at hj;exact .inr (.inr ⟨rfl,hj.symm⟩)
    have hrel1:=h.absorb (us:=[ux]) (x:=.mat e1 e2' nl (ix.set i rows.length) (rows++[(nl2,l2)])) hob hob2 hoq hol hv' (DL (cur:=(Ba cur.toList (off+i) ux.cells.toList).toArray) hblk0) (fun b' u hu hb'=>by
     simp at hu;subst hu;exact hblkq hb') fun β' fb' hf=>by
      refine .mat _ _ _ _ _ _ ⟨_,vs++[ux],rfl,by simp[hlen],.inr ⟨hnl,b,off,cap,_,by simp,setRow_heap w b cur _ _ _ h3,by simpa using h4,h5,?_,fun p j hp=>?_⟩,fun j x u hx hu=>?_,fun a a' u u' b' ha ha' hu hu'=>?_⟩
      ·rw[hcs,List.size_toArray,CX (by simpa using hfit)];simpa using h6
      ·rw[hcs,List.getElem?_toArray,show (#[ux]:Array Value).toList=[ux] from rfl,Ci hfit]
       have hpl:p<ix.length:=by have:=(List.getElem?_eq_some_iff.1 hp).1;simpa using this
       by_cases hpi:p=i
       ·subst hpi
        rw[List.getElem?_set_self hi] at hp
        simp at hp;subst hp
        exact⟨ux,by rw[←hlen];simp,by rw[if_neg (by omega),if_pos (by simp)];simp⟩
       ·rw[List.getElem?_set_ne (Ne.symm hpi)] at hp
        obtain⟨u,hu1,hu2⟩:=h7 p j hp
        refine⟨u,by rw[List.getElem?_append_left (List.getElem?_eq_some_iff.1 hu1).1];exact hu1,?_⟩
        by_cases hlt2:p<i
        ·rw[if_pos (by omega)];simpa using hu2
        ·rw[if_neg (by omega),if_neg (by simp;omega)];simpa using hu2
      ·by_cases hjl:j<vs.length
       ·rw[List.getElem?_append_left hjl] at hu
        rw[List.getElem?_append_left (by omega)] at hx
        have hrow:=hr j x u hx hu
        refine hrow.mono hst hf fun b' hb' _=>setRow_other w b b' _ fun hbb=>?_
        have:=hsep 0 (j+1) _ u b rfl (by simpa using hu) rfl (hbb ▸ hrow.blk hb')
        omega
       ·rw[List.getElem?_append_right (by omega)] at hu
        rw[List.getElem?_append_right (by omega)] at hx
        have:=(List.getElem?_eq_some_iff.1 hu).1
        simp at this
        have hjj:j=vs.length:=by omega
        subst hjj
        simp at hu;subst hu
        rw[hlen] at hx;simp at hx;subst hx
        exact ho2.mono hst hf fun b' hb' _=>setRow_other w b b' _ fun hbb=>hsepq hblk (hbb ▸ ho2.blk hb')
      ·rcases hpart ha with⟨rfl,rfl⟩|⟨j,rfl,hj⟩|⟨rfl,rfl⟩<;>rcases hpart ha' with⟨rfl,rfl⟩|⟨j',rfl,hj'⟩|⟨rfl,rfl⟩
       ·rfl
       ·exact hsep 0 (j'+1) _ u' b' rfl (by simpa using hj') hu hu'
       ·simp[BM] at hu;subst hu;exact(hsepq hblk hu').elim
       ·exact hsep (j+1) 0 u _ b' (by simpa using hj) rfl hu hu'
       ·exact hsep (j+1) (j'+1) u u' b' (by simpa using hj) (by simpa using hj') hu hu'
       ·exact(hsepq (hblkr hj hu) hu').elim
       ·simp[BM] at hu';subst hu';exact(hsepq hblk hu).elim
       ·exact(hsepq (hblkr hj' hu') hu).elim
       ·rfl
    have hrel2:=hrel1.fresh (o:=q) (x:=.row e2' 1 true []) hql (vo:=.slice none 0 0) (Gv.of_below _ (Below.refl _ _)) (fun b hb=>by simp[DK,BM] at hb) fun β' fb' _ _ _=>.row _ _ _ _ _ (.inl ⟨rfl,rfl,rfl⟩)
    have hV:(AB.app (AB.app (AB.mk (BJ s.V.ob q none) s.V.cn) (.keep o g (.mat e1 e2' nl (ix.set i rows.length) (rows++[(nl2,l2)])))) (.fresh q (.row e2' 1 true [])))=s.V.app (.seq (.keep o g (.mat e1 e2' nl (ix.set i rows.length) (rows++[(nl2,l2)]))) (.fresh q (.row e2' 1 true []))):=by
     simp only[AB.app]
     congr 1
     funext z
     by_cases h1:z=q<;>by_cases h2:z=o<;>simp[BJ,h1,h2]
    exact⟨_,_,_,hrun,hK,hV ▸ hrel2⟩
  ·exact he.elim
 ·rename_i j k o g x' heq
  simp only[List.cons.injEq,and_true] at heq;obtain⟨rfl,rfl⟩:=heq
  split at he
  ·rename_i e1 e2 nl ix rows y hg hd
   split at he
   ·rename_i x0 hx0
    obtain⟨rfl,hy1,hk,hK⟩:=he
    have hob:=AB.get_some hg
    obtain⟨hlt,ho⟩:=h.objs _ _ _ hob
    obtain⟨v,hv⟩:∃v,β o g=v:=⟨_,rfl⟩
    cases hp with|mref _ _ _ _ _ hm _ =>
    rw[hv] at ho
    cases ho with|mat _ _ _ _ _ _ ho =>
    obtain⟨v0,vs,hvv,hlen,h0,hr,hsep⟩:=ho
    have hv':=hv
    rw[hvv] at hv'
    rw[hv'] at hm
    obtain⟨uj,huj⟩:∃u,vs[j]?=some u:=⟨_,List.getElem?_eq_getElem (by have:=(List.getElem?_eq_some_iff.1 hx0).1;omega)⟩
    rcases hr j x0 uj hx0 huj with⟨_,h01,_⟩|⟨hnl,b,off,cap,cur,h2,h3,h4,h5,h6,h7,h8,h10,h9⟩
    ·rw[h01] at hk;simp at hk
    ·subst h2
     simp only[Du,Ce,List.getElem?_cons_succ,huj,Option.bind_some,Np,Option.some.injEq] at hm
     subst hm
     obtain⟨hyr,hyo⟩:=Nl hx hd
     have hones:=F5 (one:=D.one) hyr hyo fun y v h1 h2=>h2.oneCell h1
     have hun:ux.cells.size=1:=by have:=hyr.1;omega
     obtain⟨uy,huy⟩:∃uy,ux.cells.toList=[uy]:=by
      refine⟨ux.cells[0]'(by omega),?_⟩
      apply List.ext_getElem
      ·simpa using hun
      ·intro j h2 h3;simp at h3;subst h3;simp
     have hblk:DK (β o g) b:=by rw[hv'];exact⟨j+1,_,by simpa using huj,rfl⟩
     refine⟨_,_,β,Em (n:=1) hsz h3 hun hones (by omega),hK,h.kept hob (DL hblk) fun fb' hf hfe=>?_⟩
     have hst:A2 (c.bar β s.V) w (w.setRow b (Ba cur.toList (off+k) ux.cells.toList).toArray):=fun k hk hlt=>by
      refine setRow_other w b k _ fun hkb=>hk (.inr ⟨_,_,_,hob,hkb ▸ hblk⟩)
     rw[hv']
     have hfit:off+k+[uy].length<=cur.toList.length:=by simp;omega
     refine .mat _ _ _ _ _ _ ⟨_,vs,rfl,by simpa using hlen,?_,fun q y' u hy' hu=>?_,hsep⟩
     ·rcases h0 with h0|⟨k0,b',off',cap',cur',k2,k3,k4,k5,k6,k7⟩
      ·exact .inl h0
      ·refine .inr ⟨k0,b',off',cap',cur',k2,?_,k4,k5,k6,k7⟩
       rw[setRow_other w b b' _ fun hbb=>?_];exact k3
       subst k2
       have:=hsep 0 (j+1) _ _ b rfl (by simpa using huj) (by rw[←hbb];rfl) rfl
       omega
     ·by_cases hqj:q=j
      ·subst hqj
       rw[List.getElem?_set_self (List.getElem?_eq_some_iff.1 hx0).1] at hy'
       simp at hy';subst hy'
       rw[huj] at hu;simp at hu;subst hu
       refine .inr ⟨hnl,b,off,cap,_,by simp,setRow_heap w b cur _ _ _ h3,by simpa using h4,h5,?_,h7,fun z hz=>?_,fun z cc hz hc=>?_,fun p z m cc hp hm=>?_⟩
       ·rw[huy,List.size_toArray,CX hfit];simpa using h6
       ·rcases List.mem_or_eq_of_mem_set hz with hz|rfl
        ·exact h8 z hz
        ·exact hy1
       ·rcases List.mem_or_eq_of_mem_set hz with hz|rfl
        ·exact h10 z cc hz hc
        ·exact hyo cc hc
       ·have hget:∀q,(Ba cur.toList (off+k) ux.cells.toList).toArray[q]?=if q<off+k then cur.toList[q]? else if q<off+k+[uy].length then [uy][q-(off+k)]? else cur.toList[q]?:=fun q=>by
         rw[huy,List.getElem?_toArray,Ci hfit]
        rw[hget]
        by_cases hpk:p=k
        ·subst hpk
         simp only[List.getElem?_set_self hk,Option.some.injEq] at hp
         subst hp
         have hm0:m=0:=by have:=(List.getElem?_eq_some_iff.1 hm).1;omega
         subst hm0
         refine⟨uy,by rw[if_neg (by omega),if_pos (by simp)];simp,(hyr.2 0 cc uy hm ?_).mono hst hf⟩
         rw[←Array.getElem?_toList,huy];rfl
        ·simp only[List.getElem?_set_ne (Ne.symm hpk)] at hp
         have hm0:m=0:=by have:=(List.getElem?_eq_some_iff.1 hm).1;have:=h8 z (List.mem_of_getElem? hp);omega
         subst hm0
         obtain⟨u,hu1,hu2⟩:=h9 p z 0 cc hp hm
         refine⟨u,?_,hu2.mono hst hf⟩
         by_cases hlt2:p<k
         ·rw[if_pos (by omega)];simpa using hu1
         ·rw[if_neg (by omega),if_neg (by simp;omega)];simpa using hu1
      ·rw[List.getElem?_set_ne (Ne.symm hqj)] at hy'
       have hrow:=hr q y' u hy' hu
       refine hrow.mono hst hf fun b' hb' _=>setRow_other w b b' _ fun hbb=>?_
       have:=hsep (j+1) (q+1) _ u b (by simpa using huj) (by simpa using hu) rfl (hbb ▸ hrow.blk hb')
       omega
   ·exact he.elim
  ·exact he.elim
 ·exact he.elim
end
end Go.Pw
end
