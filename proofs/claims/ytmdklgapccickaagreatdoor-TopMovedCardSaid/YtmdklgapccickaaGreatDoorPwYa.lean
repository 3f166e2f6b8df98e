/- Part. -/
import Derived.Test.YtmdklgapccickaaGreatDoorPwY
set_option linter.all false
namespace Go.Pw
open Go.RowKit
def Xy(els:Us):Option (Nat×AY)->Prop
 |some (_,.hist e n st)=>e=els/\(st=true\/els.fin n)
 |_=>False
abbrev Og(els:List (List D)):Option (Nat×AY)->Prop:=Xy els
def tD(E:CW)(rs:List RT)(o:Nat)(els:Us):Bk->BG->Prop
 |.exit _,_=>False
 |_,s=>GL E s rs (fun _=>True)/\Xy els (s.V.ob o)
abbrev tC(E:CW)(rs:List RT)(o:Nat)(els:List (List D)):Bk->BG->Prop:=tD E rs o els
variable {E:CW}
theorem Le{f:FuncId}{p:PC}{rs:List RT}{n:Nat}{pre post:List D}{els:Us}(hf:Br E f p rs n)(hm:E.P.follows .mixedOrders=true)(hnr:p.noR=true)(hn:pre.length+1+post.length<=n)
  (h:(∀d,d∈pre->d.WF)->(∀d,d∈post->d.WF)->pw E p (tD E rs (900000+pre.length) els) (BG.enterM [(900000+pre.length,0,.hist els 0 false)] (pre.map .d++.own (900000+pre.length) 0::post.map .d))):WY E f pre post els:=by
 obtain⟨fl,fn,code,hfn,hb,hr,hnn,hp⟩:=hf;subst hnn;intro l J w fb G vs hab hyi hJ hfb hG hg hv hvy hd1 hd2
 have hwf1:∀d,d∈pre->d.WF:=fun d hdm=>by
  obtain⟨i,hi⟩:=List.getElem?_of_mem hdm;have hlt:i<vs.size:=by have:=(List.getElem?_eq_some_iff.1 hi).1;omega
  exact(hd1 i d _ hi (Array.getElem?_eq_getElem hlt)).wf
 have hwf2:∀d,d∈post->d.WF:=fun d hdm=>by
  obtain⟨i,hi⟩:=List.getElem?_of_mem hdm;have hlt:pre.length+1+i<vs.size:=by have:=(List.getElem?_eq_some_iff.1 hi).1;omega
  exact(hd2 i d _ hi (Array.getElem?_eq_getElem hlt)).wf
 obtain⟨c,hc⟩:∃c:EG,c={ w0:=w,fb:=fb,mine:=fun _=>False,b0:=fun _=>.func (.yield l) #[] #[],may:=G,els:=els,yl:=l,hn:=900000+pre.length,J:=J,nr:=true }:=⟨_,rfl⟩
 obtain⟨β,hβ⟩:∃β:Nat->Nat->Value,β=fun _ _=>.func (.yield l) #[] #[]:=⟨_,rfl⟩
 obtain⟨xs,hxs⟩:∃xs:List AV,xs=pre.map .d++.own (900000+pre.length) 0::post.map .d:=⟨_,rfl⟩
 rw[←hxs]at h
 have hbar:∀b,c.bar β (BG.enterM [(900000+pre.length,0,.hist els 0 false)] xs).V b->fb b:=fun b hb=>by
  rcases hb with hb|⟨o,g,x,_,h2⟩
  ·subst hc;exact hb
  ·subst hβ;simp[C4,A9]at h2
 have hob:∀o g x,(BG.enterM [(900000+pre.length,0,.hist els 0 false)] xs).V.ob o=some (g,x)->o=900000+pre.length/\g=0/\x=.hist els 0 false:=fun o g x h=>by
  have:=E_ h;simpa using this
 have hrel:BZ E c β (BG.enterM [(900000+pre.length,0,.hist els 0 false)] xs) (vs++Array.replicate (fn.ntmps-vs.size) undef) w:=by
  refine⟨by subst hc;exact(Di.refl _ _).keep,fun b hb=>by subst hc;exact⟨hfb b hb,id⟩,fun gg cs hgg=>(hg gg cs hgg).mono (Aq.refl _ _) fun b _ hb=>hbar b hb,fun t=>?_,fun o g x hx=>?_,fun o o' g g' x x' b hx hx' hb hb'=>?_,fun o g x b hx hb=>?_,fun o g x hl hx=>by subst hc;subst hβ;rfl,fun o g e k st hx=>?_⟩
  ·have hu:∃u,(vs++Array.replicate (fn.ntmps-vs.size) undef).getD t undef=u/\∀d,xs[t]?=some d->vs[t]?=some u:=by
    refine⟨_,rfl,fun d hd=>?_⟩;have hlen:xs.length=pre.length+1+post.length:=by subst hxs;simp;omega
    have hlt:t<vs.size:=by rw[hv,←hlen];exact(List.getElem?_eq_some_iff.1 hd).1
    simp[Array.getD_eq_getD_getElem?,Array.getElem?_append_left hlt,hlt]
   obtain⟨u,hu,hut⟩:=hu;rw[hu];show AP w _ β _ (match xs[t]? with|some x=>x|none=>.undef) u
   cases hxt:xs[t]? with
   |none=>exact .undef u
   |some x =>
    have hvt:=hut x hxt;show AP w _ β _ x u;rw[hxs]at hxt
    by_cases ht:t<pre.length
    ·rw[List.getElem?_append_left (by simpa using ht),List.getElem?_map]at hxt;simp only[Option.map_eq_some_iff]at hxt;obtain⟨d,h1,rfl⟩:=hxt;exact .d _ _ ((hd1 t d u h1 hvt).mono (Aq.refl _ _) fun b _ hb=>hbar b hb)
    ·rw[List.getElem?_append_right (by simp;omega)]at hxt;simp only[List.length_map]at hxt
     by_cases ht2:t=pre.length
     ·subst ht2;simp at hxt;subst hxt;rw[hvy]at hvt;simp at hvt;subst hvt;have:=AP.own (w:=w) (fb:=c.bar β (BG.enterM [(900000+pre.length,0,.hist els 0 false)] xs).V) (β:=β) (cn:=fun _=>1) (900000+pre.length) 0 (by simp) (by subst hβ;rfl);rw[hβ]at this ⊢;exact this
     ·obtain⟨i,hi⟩:∃i,t=pre.length+1+i:=⟨t-pre.length-1,by omega⟩
      subst hi;rw[show pre.length+1+i-pre.length=i+1 by omega,List.getElem?_cons_succ,List.getElem?_map]at hxt;simp only[Option.map_eq_some_iff]at hxt;obtain⟨d,h1,rfl⟩:=hxt;exact .d _ _ ((hd2 i d u h1 hvt).mono (Aq.refl _ _) fun b _ hb=>hbar b hb)
  ·obtain⟨rfl,rfl,rfl⟩:=hob o g x hx;exact⟨by simp[BG.enterM],by subst hβ;exact .hist _ _ _ _⟩
  ·subst hβ;simp[C4,A9]at hb
  ·subst hβ;simp[C4,A9]at hb
  ·obtain⟨h1,rfl,h2⟩:=hob o g _ hx;simp only[AY.hist.injEq]at h2;obtain⟨rfl,rfl,rfl⟩:=h2;subst hc;subst hβ;exact⟨rfl,rfl,hJ,h1⟩
 have hy:Z_ E c:=by subst hc;exact⟨hab,hyi,hG,fun b hb=>hb.elim,fun b hb=>hb.elim⟩
 refine callsIn_wide.1 (callsIn_of_wp_marks (n:=0) hfn hb trivial (bZ hm hp none 0 hrel hy (fun _=>hnr) (fun e=>by cases e) (by simp;omega) (h hwf1 hwf2) fun e s' β' c' tm' Ds w' hk he hy' hmk hr' htm=>?_));have hD:Ds=[]:=hmk.none (by subst hc;rfl);subst hD
 have fin:GL E s' rs (fun _=>True)/\Xy els (s'.V.ob (900000+pre.length))->LeavesInM Fence.wide 0 E.P fn tm' (fun e w'=>∃v n st G',e=.returned v/\(st=true\/els.fin n)/\J n st w' (fun _=>False) G'/\Di G w w'/\∀k,G' k->(G k\/w.heap.size<=k)/\k<w'.heap.size) ([].map J4++[]) .returning w':=fun⟨hres,hend⟩=>by
  obtain⟨vs',us,h1,h2,h3⟩:=Jq hr' hr hres;show ∃v,_/\_;refine⟨_,h3,?_⟩
  cases hx:s'.V.ob (900000+pre.length)with
  |none=>rw[hx]at hend;exact hend.elim
  |some q =>
   obtain⟨g,x⟩:=q;rw[hx]at hend
   cases x with
   |hist e k st =>
    obtain⟨rfl,hend⟩:=hend;obtain⟨_,_,hj,_⟩:=hr'.hist _ _ _ _ _ hx;have hj2:=hy'.abide _ _ _ _ _ w' (fun _=>False) hj hr'.keep.upto (fun _ h=>h.elim) (fun _ h=>h.elim);rw[he.J]at hj2;have hup:=he.keep w' (hr'.keep.upto.mono fun i _ hi=>.inl hi);refine⟨_,k,st,c'.may,rfl,hend,by subst hc;exact hj2,?_,fun b hb=>⟨?_,?_⟩⟩
    ·subst hc;exact hup.mono fun i _ hi=>hi.elim False.elim id
    ·have:=he.may b hb;subst hc;exact this
    ·exact Nat.lt_of_lt_of_le (hr'.low b (hy'.mayfb b hb)).1 hr'.keep.size
   |_=>exact hend.elim
 cases e with
 |normal=>exact fin hk
 |ret=>exact fin hk
 |exit id=>exact hk.elim
end Go.Pw
