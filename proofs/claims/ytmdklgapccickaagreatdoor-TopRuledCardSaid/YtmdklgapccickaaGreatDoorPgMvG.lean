/- A part of the proof. -/
import Derived.Test.YtmdklgapccickaaGreatDoorPgMvA
import Derived.Test.YtmdklgapccickaaGreatDoorPgMvH
import Derived.Shelf.Slices.Delete
import Derived.Test.YtmdklgapccickaaGreatDoorMvI
set_option linter.all false
section
open Go Go.Pw Go.Proofs Go.Lib Go.Sort
namespace Go.Pw
def qv:Go.Shelf.Ren:=⟨fun _=>GC,fun t=>if t=22 then 29 else t,fun x=>x⟩
theorem ph:Lays2.n23 E0.P qv:=⟨by kernel_rfl,Tryz.func132.trans (congrArg some (by kernel_rfl)),Tryz.underlying0,Tryz.isAgg0,Tryz.sizeOf0,Tryz.zeroValue0,Tryz.underlying3,Tryz.isAgg3,Tryz.sizeOf3,Tryz.zeroValue3,Tryz.underlying4,Tryz.isAgg4,Tryz.sizeOf4,Tryz.zeroValue4,Tryz.underlying29,Tryz.isAgg29,Tryz.sizeOf29,Tryz.zeroValue29,by kernel_rfl⟩
theorem Wx {l:List Int}{i:Nat}(h:i<l.length):(Pl l i).length=l.length-1:=by
 unfold Pl;rw[List.length_append,List.length_take,List.length_drop];omega
theorem iI (l:List Int) (i:Nat) (hi:i<l.length) :
  Ft E0 GC [(800000,0,.row 3 1 false (BU l))] [.own 800000 0,.d (.int .i64 (i:Int)),.d (.int .i64 ((i+1:Nat):Int))] [(800000,1,.row 3 1 true [])] (.d (.list false (BU (Pl l i)))):=by
 intro w fb β vs hfb hg hat hsz hvs
 obtain⟨vl⟩:=vs
 match vl,hsz,hvs with
 |[v0,v1,v2],_,hvs =>
 have hv0:=hvs 0 _ v0 rfl rfl
 have hv1:=hvs 1 _ v1 rfl rfl
 have hv2:=hvs 2 _ v2 rfl rfl
 obtain⟨_,ho⟩:=hat.objs 800000 0 _ (List.mem_singleton.2 rfl)
 have hhome:=hat.home 800000 0 (.row 3 1 false (BU l))
 have e0:v0=β 800000 0:=by cases hv0 with|own=>rfl
 have e1:v1=.int .i64 (i:Int):=by cases hv1 with|d _ _ h=>cases h with|int=>rfl
 have e2:v2=.int .i64 ((i+1:Nat):Int):=by cases hv2 with|d _ _ h=>cases h with|int=>rfl
 subst e1 e2
 obtain⟨v,hv⟩:∃v,β 800000 0=v:=⟨_,rfl⟩
 rw[hv] at ho e0
 subst e0
 cases ho with|row _ _ _ _ _ hr =>
 rcases hr with⟨h,_⟩|⟨_,b,off,cap,cur,hval,hheap,hlen,hcap,hoff,_,_,_,hcell⟩
 ·cases h
 subst hval
 have hb:=hhome b (List.mem_singleton.2 rfl) (by rw[hv];rfl)
 rw[CR] at hlen
 have hcur:∀j,j<l.length->cur[off+j]?=some (.int .i64 (l[j]?.getD 0)):=fun j hj=>by
  obtain⟨u,hu,hd⟩:=hcell j (.int .i64 (l[j]?.getD 0)) 0 (.int .i64 (l[j]?.getD 0)) (by simp[BU,hj]) rfl
  rw[show off+j=off+j*1+0 by omega,hu]
  cases hd with|int=>rfl
 have hin:∀y,y∈l->K4 .i64 y:=fun y hy=>by
  obtain⟨j,hj,rfl⟩:=List.getElem_of_mem hy
  obtain⟨u,hu,hd⟩:=hcell j (.int .i64 l[j]) 0 (.int .i64 l[j]) (by simp[BU,hj]) rfl
  cases hd with|int _ _ h=>exact h
 have hH:Holds (Value.int .i64) w b off l.toArray:=fun j hj=>by
  have hj':j<l.length:=by simpa using hj
  refine⟨?_,?_⟩
  ·unfold World.cell?
   rw[hheap]
   have:=hcur j hj'
   simp[hj'] at this ⊢
   exact this
  ·unfold World.frozen?
   rw[hheap];simp
 have hc:=Any.slices_Delete_int ph b off cap i (i+1) l w hH hlen hcap (by omega) (by omega)
 rw[CR]
 refine Calls.mono hc fun e w' ⟨he,q,hw'⟩=>?_
 have hd:(l.take i++l.drop (i+1)++List.replicate (i+1-i) 0).length=l.length:=by
  simp only[List.length_append,List.length_take,List.length_drop,List.length_replicate];omega
 refine⟨_,fun _ _=>.slice none 0 0,fun _=>2,he,by rw[hw'];rfl,by rw[hw'];rfl,by rw[hw'];rfl,by rw[hw'];simp,fun k hk hn=>?_,⟨fun o g x h=>?_,fun o g x o' g' x' b _ _ h=>(by cases h),fun o g x b _ h=>(by cases h)⟩,fun o g x h hl=>?_,fun o g x b _ h=>(by cases h),?_⟩
 ·have hkb:k≠b:=fun h=>hn ⟨800000,0,_,List.mem_singleton.2 rfl,by rw[hv,h];rfl⟩
  rw[hw']
  simp[putRow,mapBlock,Array.getElem?_modify,Ne.symm hkb]
 ·have:=List.mem_singleton.1 h
  simp only[Prod.mk.injEq] at this
  obtain⟨rfl,rfl,rfl⟩:=this
  exact⟨by decide,.row _ _ _ _ _ (.inl ⟨rfl,rfl,rfl⟩)⟩
 ·have:=List.mem_singleton.1 h
  simp only[Prod.mk.injEq] at this
  rw[this.1] at hl;exact absurd hl (by simp[C_])
 ·refine .d _ _ ?_
  have hll:l.length-(i+1-i)=(BU (Pl l i)).length:=by rw[CR,Wx hi];omega
  rw[hll]
  refine .list _ 1 b off cap (fun j _=>.int .i64 ((Pl l i)[j]?.getD 0)) (by rw[←hll];omega) hcap (fun h=>?_) (by decide) (fun x hx=>?_) (fun x c hx hc=>?_) (fun j x m c hj hm=>?_) (fun j x m c hj hm=>?_)
  ·rcases h with h|⟨_,_,_,_,h⟩
   ·exact hb.2 h
   ·cases h
  ·obtain⟨y,_,rfl⟩:=List.mem_map.1 hx;rfl
  ·obtain⟨y,_,rfl⟩:=List.mem_map.1 hx
   have:=List.mem_singleton.1 hc
   rw[this];rfl
  ·have hjl:j<(Pl l i).length:=by have:=(List.getElem?_eq_some_iff.1 hj).1;rwa [CR] at this
   have hm0:m=0:=by
    obtain⟨y,_,rfl⟩:=List.mem_map.1 (List.mem_of_getElem? hj)
    have:=(List.getElem?_eq_some_iff.1 hm).1
    simp[D.cells] at this;exact this
   subst hm0
   have hp:=cell?_putRow (Value.int .i64) (Sort.ahead w q) b off l.toArray (l.take i++l.drop (i+1)++List.replicate (i+1-i) 0).toArray hH (by simpa using hd) j (by rw[List.size_toArray,hd];rw[Wx hi] at hjl;omega)
   rw[hw',show off+j*1+0=off+j by omega,hp]
   congr 2
   show ((Pl l i)++List.replicate (i+1-i) 0).toArray[j]! = _
   rw[List.getElem!_toArray,List.getElem!_eq_getElem?_getD,List.getElem?_append_left hjl]
   rfl
  ·obtain⟨y,hy,hyx⟩:∃y,(Pl l i)[j]?=some y/\D.int .i64 y=x:=by
    unfold BU at hj
    rw[List.getElem?_map,Option.map_eq_some_iff] at hj
    exact hj
   subst hyx
   have hcc:c=.int .i64 y:=by
    have:=List.mem_of_getElem? hm
    exact List.mem_singleton.1 this
   subst hcc
   show Az _ _ _ (.int .i64 ((Pl l i)[j]?.getD 0))
   rw[hy]
   exact .int _ _ (hin y (by
    have:=List.mem_of_getElem? hy
    unfold Pl at this
    rcases List.mem_append.1 this with h|h
    ·exact List.mem_of_mem_take h
    ·exact List.mem_of_mem_drop h))
end Go.Pw
end
section
open Go Go.Pw Go.Proofs
namespace Go.Pw
set_option maxRecDepth 100000
set_option maxHeartbeats 6400000
theorem Zr (n:Int):n.fdiv (2^min 1 64)=n/2:=by rw[show (2:Int)^min 1 64=2 from rfl];exact Int.fdiv_eq_ediv_of_nonneg _ (by omega)
attribute [local congr] Bm BC BD Ak Bn Aq Au Ar Aj Af AY AU Am AZ BR BS BP Ao An Ad Ap Ae BH BZ Ab BM BN BI BJ BL BK BF BG BB Bq BE Al Aa Ba Ag Av BQ
attribute [local irreducible] IntKind.wrap A0 Option.getD and or
theorem LH (f:F1) (h:f.d.ok=true) (x y z:D) :
  iC E0 HT [.ptr [.int .i64 f.d.heads,.int .i64 f.d.turn,.list f.d.zn (Kx f.d.zones),.int .i64 f.d.hskew,.int .i64 f.d.cskew,.int .i64 f.d.hlo,.int .i64 f.d.hhi,.int .i64 f.d.clo,.int .i64 f.d.chi,.int .i64 f.sp,.list f.np (BU f.pr),.list f.ng (CE f.gr),x,y,z]] 172 2 (decide (f.d.zones.length=0)) (Kx (Su f.d f.d.zones.length)):=by
 refine NH K0 Ay (by simp) fun hwf=>?_
 have gd:=MQ h
 have hz4:=gd.z2
 rw[AP];unfold Gw
 refine' K5 @Bp
 all_goals try exact Ca
 refine B4 (α:=Nat×Int×(List Zp)×Bool) (l0:=?l1) (m0:=?m1) (fun x=>[(15,.d (.int .i64 (x.1:Int))),(4,.d (.int .i64 x.2.1))]) (fun x=>[(38,.row 172 2 x.2.2.2 (Kx x.2.2.1))]) (fun x=>x.1<=f.d.zones.length/\x.2.1=MF f.d x.1/\x.2.2.1=Su f.d x.1/\x.2.2.2=decide (x.1=0)) (fun x=>f.d.zones.length-x.1) (0,0,[],true) ?h01 ?he1 ?he21 ?hI1 ?step1
 case h01=>(simp -implicitDefEqProofs only[go_sem,Bp];rfl)
 case he1=>rfl
 case he21=>rfl
 case' step1=>(rintro⟨i,a,out,b⟩ hI;try dsimp only at hI)
 case' hI1=>try dsimp only
 ·exact⟨by omega,rfl,rfl,rfl⟩
 ·obtain⟨h1,h2,h3,h4⟩:=hI
  have hb:=UM h i h1
  by_cases hi:i<f.d.zones.length
  ·have hi':(i:Int)<(f.d.zones.length:Int):=by omega
   have wi:=Mi (i:=i) (by omega)
   have hzb:=UL h i hi
   have hst:MF f.d (i+1)=MF f.d i+f.d.heads*(f.d.zones[i]?.getD default).1*(f.d.zones[i]?.getD default).2:=rfl
   have hsn:=l8 f.d i
   obtain⟨p,hp⟩:∃p,f.d.zones[i]?.getD default=p:=⟨_,rfl⟩
   rw[hp] at hzb hst
   have w1:IntKind.i64.wrap (f.d.heads*p.1)=f.d.heads*p.1:=Bd _ (by omega)
   have w2:IntKind.i64.wrap (f.d.heads*p.1*p.2)=f.d.heads*p.1*p.2:=Bd _ (by omega)
   obtain⟨m,hm⟩:∃m,f.d.heads*p.1*p.2=m:=⟨_,rfl⟩
   rw[hm] at w2 hst hzb
   have w3:IntKind.i64.wrap (a+m)=a+m:=Bd _ (by omega)
   have hol:out.length=i:=by rw[h3,D2]
   have hn:out++[(a,a+m)]=Su f.d (i+1):=by rw[h3,←hsn,hst,h2]
   have hsn2:Kx out++[.agg [.int .i64 a,.int .i64 (a+m)]]=Kx (out++[(a,a+m)]):=by simp[Kx,qR]
   refine' PB @Bp @Dy @Di @G9 hi' hi hp (aI hm (aI w1 (aI w2 (aI w3 (aI wi hsn2)))))
   all_goals first|omega|rfl|exact .inl True.intro|exact hn|trace_state
  ·have hi':¬(i:Int)<(f.d.zones.length:Int):=by omega
   have hie:i=f.d.zones.length:=by omega
   rw[hie] at h3 h4
   refine' fY @Bp hi' h3 h4
   all_goals first|omega|rfl|exact .inl True.intro|trace_state
theorem ZI (nl:Bool) (l:List Int) (s:Int) (hl:l.length<=10000):Cc E0 GP [.list nl (BU l),.int .i64 s] (.int .i64 (match l.findIdx? (fun x=>decide (x=s)) with|some i=>i|none=>-1)):=by
 refine AN Iw Ay (by simp) fun hwf=>?_
 rw[AP];unfold F4
 refine' HO
 all_goals try exact Ca
 refine Bh (α:=Nat) (fun x=>[(8,.d (.int .i64 (x:Int)))]) (fun x=>[]) (fun x=>x<=l.length/\∀(j:Nat) (hj:j<l.length),j<x->l[j]≠s) (fun x=>l.length-x) 0 ?hI2 ?step2
 case' step2=>(rintro i hI;try dsimp only at hI)
 case' hI2=>try dsimp only
 ·exact⟨by omega,fun j _ h=>absurd h (Nat.not_lt_zero j)⟩
 ·obtain⟨h1,h2⟩:=hI
  by_cases hi:i<l.length
  ·have hi':(i:Int)<(l.length:Int):=by omega
   have wi:=Mi (i:=i) (by omega)
   have hg:l[i]?.getD 0=l[i]:=by rw[List.getElem?_eq_getElem hi,Option.getD_some]
   by_cases he:s=l[i]
   ·have hf:l.findIdx? (fun x=>decide (x=s))=some i:=by
     rw[List.findIdx?_eq_some_iff_getElem]
     exact⟨hi,by simp[he],fun j hj=>by simpa using h2 j (by omega) hj⟩
    rw[hf]
    have heT:(s=l[i])=True:=eq_true he
    refine' fY hi' hi hg heT
    all_goals first|omega|rfl|trace_state
   ·have hnx:∀(j:Nat) (hj:j<l.length),j<i+1->l[j]≠s:=fun j hj hlt=>by
     by_cases hji:j=i
     ·subst hji;exact fun e=>he e.symm
     ·exact h2 j hj (by omega)
    refine' Zg hi' hi hg he wi
    all_goals first|omega|rfl|exact hnx|exact hnx _ (by assumption) (by assumption)|trace_state
  ·have hi':¬(i:Int)<(l.length:Int):=by omega
   have hf:l.findIdx? (fun x=>decide (x=s))=none:=by
    rw[List.findIdx?_eq_none_iff]
    intro x hx
    obtain⟨j,hj,rfl⟩:=List.getElem_of_mem hx
    simpa using h2 j hj (by omega)
   rw[hf]
   refine' K5 hi'
   all_goals first|omega|rfl|trace_state
theorem PJ (x:Int):Cc E0 H3 [.int .i64 x] (.bool false):=by
 refine AN Li Ay (by simp) fun hwf=>?_
 rw[AP];unfold HJ
 refine' HO
 all_goals first|rfl|trace_state
theorem TB (x:Int):Cc E0 Ku [.int .i64 x] (.bool false):=by
 refine AN Oc Ay (by simp) fun hwf=>?_
 rw[AP];unfold JQ
 refine' HO
 all_goals first|rfl|trace_state
theorem VJ (x y:Int):Cc E0 L_ [.int .i64 x,.int .i64 y] (.bool (decide (x<y))):=by
 have c1:=TB x
 refine AN P5 Ay (by simp) fun hwf=>?_
 rw[AP];unfold Kd
 refine' H9;repeat' first|(refine' CQ;(first|refine AG c1 ?_)<;>refine' H9)|refine' CP|done
 all_goals first|rfl|(simp_all;done)|trace_state
theorem ZN (nl:Bool) (l:List Int) (s:Int) (hl:l.length<=10000) (hs:l.Pairwise (· < ·)):Cc E0 En [.list nl (BU l),.int .i64 s] (.tup [.int .i64 (WI l s),.bool (decide (s∈l))]):=by
 have c2:=PJ
 have hmono:∀p q,p<q->q<l.length->l[p]?.getD 0<l[q]?.getD 0:=fun p q h1 h2=>by
  rw[List.pairwise_iff_getElem] at hs
  rw[List.getElem?_eq_getElem (show p<l.length by omega),List.getElem?_eq_getElem h2,Option.getD_some,Option.getD_some]
  exact hs p q (by omega) h2 h1
 refine AN GW Ay (by simp) fun hwf=>?_
 rw[AP];unfold Ee
 refine' HO
 all_goals try exact Ca
 refine Bh (α:=Nat×Nat) (fun x=>[(7,.d (.int .i64 (x.1:Int))),(8,.d (.int .i64 (x.2:Int)))]) (fun x=>[]) (fun x=>(x.1<=x.2/\x.2<=l.length)/\(∀p,p<x.1->l[p]?.getD 0<s)/\(∀p,x.2<=p->p<l.length->s<=l[p]?.getD 0)) (fun x=>x.2-x.1) (0,l.length) ?hI3 ?step3
 case' step3=>(rintro⟨i,j⟩ hI;try dsimp only at hI)
 case' hI3=>try dsimp only
 ·exact⟨⟨by omega,Nat.le_refl _⟩,fun p h=>absurd h (Nat.not_lt_zero p),fun p h1 h2=>by omega⟩
 ·obtain⟨⟨h1,h1'⟩,h2,h3⟩:=hI
  by_cases hij:i<j
  ·have hij':(i:Int)<(j:Int):=by omega
   have w1:IntKind.i64.wrap ((i:Int)+(j:Int))=((i+j:Nat):Int):=by rw[Bd _ (by omega)];omega
   obtain⟨m,hm⟩:∃m,(i+j)/2=m:=⟨_,rfl⟩
   have w2:((i+j:Nat):Int)/2=(m:Int):=by omega
   have wu:IntKind.u64.wrap ((i+j:Nat):Int)=((i+j:Nat):Int):=ZQ _ (by omega)
   have w3:IntKind.i64.wrap (m:Int)=(m:Int):=Bd _ (by omega)
   have hml:m<l.length:=by omega
   have hml':(m:Int)<(l.length:Int):=by omega
   have wm:=Mi (i:=m) (by omega)
   obtain⟨v,hv⟩:∃v,l[m]?.getD 0=v:=⟨_,rfl⟩
   have c1:=VJ v s
   by_cases hlt:v<s
   ·rw[decide_eq_true hlt] at c1
    have hnx:∀p,p<m+1->l[p]?.getD 0<s:=fun p hp=>by
     by_cases hpm:p=m
     ·subst hpm;omega
     ·have:=hmono p m (by omega) hml;omega
    refine' Gr hij' w1 wu @Zr w2 w3 hml (aI hml' (aI hv wm));repeat' first|(refine' CQ;(first|refine AG c1 ?_)<;>refine' Gr hij' w1 wu @Zr w2 w3 hml (aI hml' (aI hv wm)))|refine' CP|done
    all_goals first|omega|rfl|exact hnx|exact hnx _ (by assumption)|exact h3 _ (by assumption) (by assumption)|trace_state
   ·rw[decide_eq_false hlt] at c1
    have hnx:∀p,m<=p->p<l.length->s<=l[p]?.getD 0:=fun p hp hpl=>by
     by_cases hpm:p=m
     ·subst hpm;omega
     ·have:=hmono m p (by omega) hpl;omega
    refine' Gr hij' w1 wu @Zr w2 w3 hml (aI hml' hv);repeat' first|(refine' CQ;(first|refine AG c1 ?_)<;>refine' Gr hij' w1 wu @Zr w2 w3 hml (aI hml' hv))|refine' CP|done
    all_goals first|omega|rfl|exact hnx|exact hnx _ (by assumption) (by assumption)|exact h2 _ (by assumption)|trace_state
  ·have hij':¬(i:Int)<(j:Int):=by omega
   have hje:j=i:=by omega
   subst hje
   rw[jZ h1' h2 h3]
   have hno:(∀p,p<l.length->l[p]?.getD 0≠s)->decide (s∈l)=false:=fun hh=>decide_eq_false fun hm=>by
    obtain⟨p,hp,he⟩:=List.getElem_of_mem hm
    have:=hh p hp
    rw[List.getElem?_eq_getElem hp,Option.getD_some] at this
    exact this he
   by_cases hl2:j<l.length
   ·have hl2':(j:Int)<(l.length:Int):=by omega
    obtain⟨v,hv⟩:∃v,l[j]?.getD 0=v:=⟨_,rfl⟩
    have h3j:=h3 j (Nat.le_refl _) hl2
    by_cases he:v=s
    ·have hin:decide (s∈l)=true:=decide_eq_true (by
      rw[←he,←hv,List.getElem?_eq_getElem hl2,Option.getD_some];exact List.getElem_mem hl2)
     rw[hin]
     have heT:(v=s)=True:=eq_true he
     refine' lz hij' hl2 hl2' hv heT;repeat' first|(refine' CQ;(first|refine AG (c2 _) ?_)<;>refine' lz hij' hl2 hl2' hv heT)|refine' CP|done
     all_goals first|omega|rfl|exact .inl True.intro|trace_state
    ·rw[hno (fun p hp=>by
      by_cases hpj:p<j
      ·have:=h2 p hpj;omega
      ·by_cases hpe:p=j
       ·subst hpe;rw[hv];exact he
       ·have:=hmono j p (by omega) hp;omega)]
     refine' lz hij' hl2 hl2' hv he;repeat' first|(refine' CQ;(first|refine AG (c2 _) ?_)<;>refine' lz hij' hl2 hl2' hv he)|refine' CP|done
     all_goals first|omega|rfl|exact .inl True.intro|trace_state
   ·have hl2':¬(j:Int)<(l.length:Int):=by omega
    rw[hno (fun p hp=>by have:=h2 p (by omega);omega)]
    refine' HR hij' hl2';repeat' first|(refine' CQ;(first|refine AG (c2 _) ?_)<;>refine' HR hij' hl2')|refine' CP|done
    all_goals first|omega|rfl|exact .inl True.intro|trace_state
theorem ZM (xs:List Int) (hl:xs.length<=10000) (hne:0<xs.length):Ft E0 C6 [] [.d (.list false (BU xs))] [(7,1,.row 3 1 false (BU xs))] (.own 7 1):=by
 refine CT Da Ay (by simp) (by simp[Jv,Dt,C_]) (by simp[It]) fun hwf hwo=>?_
 rw[Cg];unfold Cv
 have hn:¬xs=[]:=by intro h;rw[h] at hne;simp at hne
 refine' K5 hn
 all_goals first|omega|rfl|trace_state
end Go.Pw
end
section
open Go Go.Pw Go.Proofs
namespace Go.Pw
set_option maxRecDepth 100000
set_option maxHeartbeats 12800000
abbrev Fr:=Bool×List Int
def Lb (l:List Fr):List D:=l.map fun p=>.list p.1 (BU p.2)
theorem Fl (l:List Fr):(Lb l).length=l.length:=by simp[Lb]
theorem FW (l:List Fr):C0 1 (Lb l)=True:=K7 fun _=>rfl
theorem FP {l:List Fr}{i:Nat}{A:D->Prop}:BW (Lb l)[i]? A=(i<l.length/\A (.list (l[i]?.getD (true,[])).1 (BU (l[i]?.getD (true,[])).2))):=by
 unfold Lb
 rw[List.getElem?_map]
 cases h:l[i]? with
 |none=>simp[BW];intro hi;rw[List.getElem?_eq_none_iff] at h;omega
 |some x=>have:=(List.getElem?_eq_some_iff.1 h).1;simp[BW,this]
theorem Zo (l:List Fr) (i:Nat) (b:Bool) (x:List Int):(Lb l).set i (.list b (BU x))=Lb (l.set i (b,x)):=by simp[Lb,List.map_set]
def QW (gv:List (Int×Int)):List (D×D):=gv.map fun q=>(.int .i64 q.1,.int .i64 q.2)
theorem Zl (gv:List (Int×Int)) (s:Int):(CG (.int .i64 s) (QW gv)=none/\GE gv s=0)\/CG (.int .i64 s) (QW gv)=some (.int .i64 (GE gv s)):=by
 induction gv with
 |nil=>exact .inl ⟨rfl,rfl⟩
 |cons q l ih =>
  by_cases h:s=q.1
  ·refine .inr ?_
   simp[QW,CG,Jz,GE,h]
  ·simp only[QW] at ih
   simp only[QW,List.map_cons,CG,Jz,GE,decide_eq_false h,if_neg h,Bool.false_eq_true,if_false]
   exact ih
theorem fw (gv:List (Int×Int)) (s:Int):Qo (.int .i64 s) (.int .i64 (GE gv s+1)) (QW gv)=QW (Ir gv s)/\CG (.int .i64 s) (QW (Ir gv s))=some (.int .i64 (GE gv s+1)):=by
 induction gv with
 |nil=>simp[QW,Qo,Ir,GE,CG,Jz]
 |cons q l ih =>
  by_cases h:s=q.1
  ·simp[QW,Qo,Ir,GE,CG,Jz,h]
  ·simp only[QW] at ih
   simp[QW,Qo,Ir,GE,CG,Jz,h,ih.1,ih.2]
theorem U5 {gv:List (Int×Int)}{s:Int}(hp:∀q∈gv,1<=q.2) (h:GE gv s=0):CG (.int .i64 s) (QW gv)=none:=by
 induction gv with
 |nil=>rfl
 |cons q l ih =>
  have hq:=hp q (List.mem_cons_self ..)
  by_cases e:s=q.1
  ·rw[GE,if_pos e] at h;omega
  ·rw[GE,if_neg e] at h
   have i1:=ih (fun q hq=>hp q (List.mem_cons_of_mem _ hq)) h
   simp only[QW] at i1
   simp only[QW,List.map_cons,CG,Jz,decide_eq_false e,Bool.false_eq_true,if_false]
   exact i1
def qz (f:F1) (p:dg):List (Nat×Nat×AW) :=
 [(900000,0,.cells [.d (.int .i64 f.d.heads),.d (.int .i64 f.d.turn),.d (.list f.d.zn (Kx f.d.zones)),.d (.int .i64 f.d.hskew),.d (.int .i64 f.d.cskew),.d (.int .i64 f.d.hlo),.d (.int .i64 f.d.hhi),.d (.int .i64 f.d.clo),.d (.int .i64 f.d.chi),.d (.int .i64 f.sp),.d (.list f.np (BU f.pr)),.d (.list f.ng (CE f.gr)),.own 901000 0,.own 902000 0,.map 903000 0]),
  (901000,0,.row 3 1 p.bl.isEmpty (BU p.bl)),(902000,0,.row 29 1 false (Lb p.fr)),(903000,0,.map TP (QW p.gv))]
theorem Ff (f:F1) (p:dg):qz f p=[(900000,0,.cells [.d (.int .i64 f.d.heads),.d (.int .i64 f.d.turn),.d (.list f.d.zn (Kx f.d.zones)),.d (.int .i64 f.d.hskew),.d (.int .i64 f.d.cskew),.d (.int .i64 f.d.hlo),.d (.int .i64 f.d.hhi),.d (.int .i64 f.d.clo),.d (.int .i64 f.d.chi),.d (.int .i64 f.sp),.d (.list f.np (BU f.pr)),.d (.list f.ng (CE f.gr)),.own 901000 0,.own 902000 0,.map 903000 0]),
 (901000,0,.row 3 1 p.bl.isEmpty (BU p.bl)),(902000,0,.row 29 1 false (Lb p.fr)),(903000,0,.map TP (QW p.gv))]:=rfl
structure qc (f:F1) (p:dg):Prop where
 n:p.fr.length=f.d.zones.length
 bl:p.bl.length<=5200
 ps:∀q∈p.gv,1<=q.2
 cn:∀t:Int,0<=GE p.gv t/\GE p.gv t<=1000
 srt:∀k:Nat,(p.fr[k]?.getD ((true,[]):Fr)).2.Pairwise (fun a b:Int=>a<b)
 len:∀k:Nat,(p.fr[k]?.getD ((true,[]):Fr)).2.length<=5200
 nl:∀k:Nat,(p.fr[k]?.getD ((true,[]):Fr)).1=true->(p.fr[k]?.getD ((true,[]):Fr)).2=[]
theorem primL_zps (l:List Zp):KI (Kx l)=true:=by
 unfold KI;rw[List.all_eq_true];intro x hx;obtain⟨y,_,rfl⟩:=List.mem_map.1 hx;rfl
theorem nD {l:List Int}{s:Int}(h:s∈l):WI l s<l.length:=by
 unfold WI
 exact List.length_filter_lt_length_iff_exists.2 ⟨s,h,by simp⟩
theorem nK (d:AX) (s:Int) (k:Nat):Ky d s (k+1)=if MF d k<=s/\s<MF d (k+1) then k else Ky d s k:=rfl
theorem Wf (fr:List Fr) (own k:Nat):Lc fr own (k+1)=match Lc fr own k with
 |some j=>some j
 |none=>if (fr[(own+k)%fr.length]?.getD (true,[])).2.length=0 then none else some ((own+k)%fr.length):=rfl
theorem QY {fr:List Fr}{own k j:Nat}(h:Lc fr own k=some j):∀n,k<=n->Lc fr own n=some j
 |0,hn=>by
    have:k=0:=by omega
    subst this;exact h
 |n+1,hn=>by
  by_cases hk:k=n+1
  ·subst hk;exact h
  ·rw[Wf,QY h n (by omega)]
theorem Zk (l:List Int) (i:Nat) (x:Int):(l.set i x).isEmpty=l.isEmpty:=by cases l<;>cases i<;>rfl
attribute [local congr] Bm BC BD Ak Bn Aq Au Ar Aj Af AY AU Am AZ BR BS BP Ao An Ad Ap Ae BH BZ Ab BM BN BI BJ BL BK BF BG BB Bq BE Al Aa Ba Ag Av BQ
attribute [local irreducible] IntKind.wrap A0 Option.getD and or
theorem WJ (f:F1) (h:f.d.ok=true) (p:dg) (hp:qc f p) (s:Int) :
  Ft E0 H5 (qz f p) [.ptr 900000 0 0,.d (.int .i64 s)] (qz f (Zm f.d p s)) (.tup []):=by
 have gd:=MQ h
 have hz4:=gd.z2;have hz1:=gd.z1
 have hn:=hp.n;have hbl:=hp.bl
 have hcn:=hp.cn s
 obtain⟨g1,g2⟩:=fw p.gv s
 have g3:=Zl p.gv s
 have hgr:Zm f.d p s=if 0<GE p.gv s then ⟨p.bl,p.fr,Ir p.gv s⟩ else
   if s∈(p.fr[Ky f.d s f.d.zones.length]?.getD (true,[])).2 then ⟨p.bl,p.fr.set (Ky f.d s f.d.zones.length) (false,Pl (p.fr[Ky f.d s f.d.zones.length]?.getD (true,[])).2 (WI (p.fr[Ky f.d s f.d.zones.length]?.getD (true,[])).2 s)),Ir p.gv s⟩ else
   match p.bl.findIdx? (fun x=>decide (x=s)) with
   |none=>⟨p.bl,p.fr,Ir p.gv s⟩
   |some b=>match Lc p.fr (Ky f.d s f.d.zones.length) p.fr.length with
    |none=>⟨p.bl.set b (-1),p.fr,Ir p.gv s⟩
    |some k=>⟨p.bl.set b ((p.fr[k]?.getD (true,[])).2[0]?.getD 0),p.fr.set k ((p.fr[k]?.getD (true,[])).1,(p.fr[k]?.getD (true,[])).2.drop 1),Ir p.gv s⟩:=rfl
 have hown:=Zb f.d s f.d.zones.length (by omega)
 obtain⟨c,hc⟩:∃c,GE p.gv s=c:=⟨_,rfl⟩
 obtain⟨gv',hgv⟩:∃gv',Ir p.gv s=gv':=⟨_,rfl⟩
 obtain⟨own,how⟩:∃own,Ky f.d s f.d.zones.length=own:=⟨_,rfl⟩
 rw[hc,hgv] at g1 g2
 rw[hc] at g3 hcn
 rw[hc,hgv,how] at hgr
 rw[how] at hown
 have w1:IntKind.i64.wrap (c+1)=c+1:=Bd _ (by omega)
 have t1:=XY s
 have cZ:=LH f h (.list p.bl.isEmpty (BU p.bl)) (.list false (Lb p.fr)) (.map TP (QW gv'))
 have hz0:decide (f.d.zones.length=0)=false:=decide_eq_false (by omega)
 rw[hz0] at cZ
 refine CT Lk Ay (by simp) (by simp[Jv,Dt,C_,AW.isHist,Ff]) (by simp[It,C_,Ff]) fun hwf hwo=>?_
 rw[Cg];unfold HL
 by_cases hc0:0<c
 ·rw[hgr,if_pos hc0]
  have hc1:1<c+1:=by omega
  have g3':CG (.int .i64 s) (QW p.gv)=some (.int .i64 c):=by
   rcases g3 with⟨_,h0⟩|h1
   ·omega
   ·exact h1
  refine' rv @Ff g1 g2 g3' w1 t1 hc1
  all_goals first|omega|rfl|exact .inl True.intro|trace_state
 rw[if_neg hc0] at hgr
 have hce:c=0:=by omega
 subst hce
 have hc1:¬(1:Int)<0+1:=by omega
 have hfirst:∀(K:AV->B3->Prop),True:=fun _=>trivial
 have g4:=U5 hp.ps hc
 rw[Int.zero_add] at g1 g2
 have w1:IntKind.i64.wrap 1=1:=Bd _ (by omega)
 refine' Gr @Ff g1 g2 g4 w1 t1 @Bp @D2;repeat' first|(refine' CQ;(first|refine RN (cZ) (by simp[C_]) (by first|exact primL_ints _|exact primL_map (fun _=>rfl) _|exact Hk _|exact primL_zps _|simp[KI,D.cells,D.prim]) ?_)<;>refine' Gr @Ff g1 g2 g4 w1 t1 @Bp @D2)|refine' CP|done
 ·all_goals try exact Ca
  refine B4 (α:=Nat×Nat) (l0:=?l1) (m0:=?m1) (fun x=>[(29,.d (.int .i64 (x.1:Int))),(4,.d (.int .i64 (x.2:Int)))]) (fun x=>[]) (fun x=>x.1<=f.d.zones.length/\x.2=Ky f.d s x.1) (fun x=>f.d.zones.length-x.1) (0,0) ?h01 ?he1 ?he21 ?hI1 ?step1
  case h01=>(simp -implicitDefEqProofs only[go_sem,Bp,D2,Dy];rfl)
  case he1=>rfl
  case he21=>rfl
  case' step1=>(rintro⟨i,o⟩ hI;try dsimp only at hI)
  case' hI1=>try dsimp only
  ·exact⟨by omega,rfl⟩
  ·obtain⟨h1,h2⟩:=hI
   by_cases hi:i<f.d.zones.length
   ·have hi':(i:Int)<(f.d.zones.length:Int):=by omega
    have wi:=Mi (i:=i) (by omega)
    have hg:=VY (d:=f.d) hi
    have hs:=nK f.d s i
    rw[←h2] at hs
    refine' PB @Bp @Dy @Di @G9 @D2 hi' hi (aI hg wi)
    all_goals first|omega|rfl|exact .inl True.intro|(rw[hs];simp_all;done)|(rw[hs];split<;>omega)|trace_state
   ·have hi':¬(i:Int)<(f.d.zones.length:Int):=by omega
    have hie:i=f.d.zones.length:=by omega
    rw[hie,how] at h2
    subst h2
    obtain⟨q,hq⟩:∃q,p.fr[o]?.getD (true,[])=q:=⟨_,rfl⟩
    have q1:=hp.srt o;have q2:=hp.len o;have q3:=hp.nl o
    rw[hq] at q1 q2 q3 hgr
    have hof:o<p.fr.length:=by omega
    have hof':(o:Int)<(p.fr.length:Int):=by omega
    have cB:=ZN q.1 q.2 s (by omega) q1
    by_cases hin:s∈q.2
    ·rw[if_pos hin] at hgr
     rw[hgr]
     rw[decide_eq_true hin] at cB
     have hlt:=nD hin
     obtain⟨k,hk⟩:∃k,WI q.2 s=k:=⟨_,rfl⟩
     rw[hk] at cB hlt
     rw[hk]
     have hq1:q.1=false:=by
      cases e:q.1 with
      |false=>rfl
      |true=>rw[q3 e] at hlt;exact absurd hlt (Nat.not_lt_zero _)
     rw[hq1] at cB
     have cC:=ZM q.2 (by omega) (by omega)
     have cD:=iI q.2 k hlt
     have wk:=Mi (i:=k) (by omega)
     have hfs:=Zo p.fr o false (Pl q.2 k)
     refine' Gr @Ff @Bp @D2 hi' @Fl @FW @FP (aI hq (aI hq1 (aI hof (aI hof' (aI wk hfs)))));repeat' first|(refine' CQ;(first|refine AG cB ?_|refine Cz ([]) ([((7,1),(71,1))]) (cC) ?_|refine Cz ([((800000,0),(71,1))]) ([((800000,1),(71,2))]) (cD) ?_)<;>refine' Gr @Ff @Bp @D2 hi' @Fl @FW @FP (aI hq (aI hq1 (aI hof (aI hof' (aI wk hfs))))))|refine' CP|done
     all_goals first|omega|rfl|exact .inl True.intro|trace_state
    ·rw[if_neg hin] at hgr
     rw[decide_eq_false hin] at cB
     have cI:=ZI p.bl.isEmpty p.bl s (by omega)
     cases hb:p.bl.findIdx? (fun x=>decide (x=s)) with
     |none =>
      rw[hb] at hgr cI
      simp only[] at hgr cI
      rw[hgr]
      refine' Gr @Ff @Bp @D2 hi' @Fl @FW @FP (aI hq (aI hof hof'));repeat' first|(refine' CQ;(first|refine AG cB ?_|refine AG cI ?_)<;>refine' Gr @Ff @Bp @D2 hi' @Fl @FW @FP (aI hq (aI hof hof')))|refine' CP|done
      all_goals first|omega|rfl|exact .inl True.intro|trace_state
     |some b =>
      rw[hb] at hgr cI
      simp only[] at hgr cI
      have hbl':b<p.bl.length:=(List.findIdx?_eq_some_iff_getElem.1 hb).1
      have hbb:(b:Int)<(p.bl.length:Int):=by omega
      have hb0:¬(b:Int)<0:=by omega
      have hse:=Zk p.bl b (-1)
      refine' Gr @Ff @Bp @D2 hi' @Fl @FW @FP (aI hq (aI hof (aI hof' (aI hbl' (aI hbb (aI hb0 @N'))))));repeat' first|(refine' CQ;(first|refine AG cB ?_|refine AG cI ?_)<;>refine' Gr @Ff @Bp @D2 hi' @Fl @FW @FP (aI hq (aI hof (aI hof' (aI hbl' (aI hbb (aI hb0 @N')))))))|refine' CP|done
      ·omega
      ·omega
      ·exact .inl True.intro
      ·all_goals try exact Ca
       refine B4 (α:=Nat) (l0:=?l2) (m0:=?m2) (fun x=>[(96,.d (.int .i64 (x:Int)))]) (fun x=>[]) (fun x=>x<=p.fr.length/\Lc p.fr o x=none) (fun x=>p.fr.length-x) 0 ?h02 ?he2 ?he22 ?hI2 ?step2
       case h02=>(simp -implicitDefEqProofs only[go_sem,Ff,Fl,FW];rfl)
       case he2=>rfl
       case he22=>rfl
       case' step2=>(rintro i hI2;try dsimp only at hI2)
       case' hI2=>try dsimp only
       ·exact⟨by omega,rfl⟩
       ·obtain⟨h1,h2⟩:=hI2
        by_cases hi:i<p.fr.length
        ·have hi':(i:Int)<(p.fr.length:Int):=by omega
         have wi:=Mi (i:=i) (by omega)
         have wo:IntKind.i64.wrap ((o:Int)+(i:Int))=((o+i:Nat):Int):=by rw[Bd _ (by omega)];omega
         obtain⟨k,hk⟩:∃k,(o+i)%p.fr.length=k:=⟨_,rfl⟩
         have hkl:k<p.fr.length:=by rw[←hk];exact Nat.mod_lt _ (by omega)
         have hkl':(k:Int)<(p.fr.length:Int):=by omega
         have hkn:((o+i:Nat):Int).tmod (p.fr.length:Int)=(k:Int):=by rw[Int.tmod_eq_emod_of_nonneg (by omega),←hk];rfl
         have hn0:¬((p.fr.length:Int)=0):=by omega
         have hfa:=Wf p.fr o i
         rw[h2,hk] at hfa
         simp only[] at hfa
         obtain⟨r,hr⟩:∃r,p.fr[k]?.getD (true,[])=r:=⟨_,rfl⟩
         have r2:=hp.len k
         rw[hr] at hfa r2
         by_cases hz:r.2.length=0
         ·rw[if_pos hz] at hfa
          have hzz:¬(0:Int)<(r.2.length:Int):=by omega
          refine' PB @Ff @Fl @FW @FP hi' hi wi (aI wo (aI hkn (aI hn0 (aI hkl (aI hkl' (aI hr hzz))))))
          all_goals first|omega|rfl|exact hfa|exact .inl True.intro|trace_state
         ·rw[if_neg hz] at hfa
          rw[QY hfa _ (by omega)] at hgr
          simp only[] at hgr
          rw[hr] at hgr
          rw[hgr]
          have hzz:(0:Int)<(r.2.length:Int):=by omega
          have hz0:0<r.2.length:=by omega
          have hzn:r.2≠[]:=by intro e;rw[e] at hz0;simp at hz0
          have hss:(p.bl.set b (-1)).set b (r.2[0]?.getD 0)=p.bl.set b (r.2[0]?.getD 0):=List.set_set ..
          have hfs:=Zo p.fr k r.1 (r.2.drop 1)
          have hse2:=Zk p.bl b (r.2[0]?.getD 0)
          refine' PB @Ff @Fl @FW @FP hi' hi wi (aI wo (aI hkn (aI hn0 (aI hkl (aI hkl' (aI hr (aI hzz (aI hz0 (aI hbl' (aI hbb (aI @N' (aI @Gh (aI hss (aI hfs (aI hse2 @List.length_set.{0})))))))))))))))
          all_goals first|omega|rfl|exact .inl True.intro|trace_state
        ·have hi':¬(i:Int)<(p.fr.length:Int):=by omega
         have hie:i=p.fr.length:=by omega
         rw[←hie,h2] at hgr
         simp only[] at hgr
         rw[hgr]
         refine' Pb @Ff hi' hse
         all_goals first|omega|rfl|exact .inl True.intro|trace_state
end Go.Pw
end
section
open Go Go.Pw Go.Proofs
namespace Go.Pw
set_option maxRecDepth 100000
set_option maxHeartbeats 12800000
theorem kC {l:List Int}{s:Int}(h:s∉l):Ir (l.map fun x=>(x,(1:Int))) s=(l++[s]).map fun x=>(x,(1:Int)):=by
 induction l with
 |nil=>rfl
 |cons y l ih =>
  have h1:s≠y:=fun e=>h (e ▸ List.mem_cons_self ..)
  have h2:s∉l:=fun e=>h (List.mem_cons_of_mem _ e)
  simp only[List.map_cons,Ir,if_neg h1,ih h2,List.cons_append]
theorem kn {l:List Int}{s:Int}(h:s∉l):GE (l.map fun x=>(x,(1:Int))) s=0:=by
 induction l with
 |nil=>rfl
 |cons y l ih =>
  have h1:s≠y:=fun e=>h (e ▸ List.mem_cons_self ..)
  have h2:s∉l:=fun e=>h (List.mem_cons_of_mem _ e)
  simp only[List.map_cons,GE,if_neg h1,ih h2]
theorem lG {l:List Int}{lo hi:Int}(h:TF l lo hi=true) {i:Nat}(hi':i<l.length):VN l lo hi i=true:=by
 unfold TF at h;exact List.all_eq_true.1 h i (List.mem_range.2 hi')
theorem gy {l:List Int}{lo hi:Int}(h:TF l lo hi=true):∀(j i:Nat),i<j->j<l.length->l[i]?.getD 0<l[j]?.getD 0
 |j+1,i,h1,h2=>by
  have a:=lG h h2
  simp only[VN,Bool.and_eq_true,Bool.or_eq_true,decide_eq_true_eq,Nat.add_sub_cancel] at a
  have b:l[j]?.getD 0<l[j+1]?.getD 0:=by omega
  by_cases e:i=j
  ·subst e;exact b
  ·have:=gy h j i (by omega) (by omega);omega
theorem dS {l:List Int}{lo hi:Int}(h:TF l lo hi=true) {i:Nat}(h2:i<l.length):l[i]?.getD 0∉l.take i:=fun hm=>by
 obtain⟨p,hp,he⟩:=List.getElem_of_mem hm
 rw[List.length_take] at hp
 have:=gy h i p (by omega) h2
 rw[List.getElem?_eq_getElem (show p<l.length by omega),Option.getD_some] at this
 rw[List.getElem_take] at he
 omega
theorem kG (gv:List (Int×Int)) (s:Int) (h:GE gv s=0):Qo (.int .i64 s) (.int .i64 1) (QW gv)=QW (Ir gv s):=by
 have:=(fw gv s).1
 rw[h] at this;exact this
theorem f9 (l:List Fr) (b:Bool) (x:List Int):Lb l++[.list b (BU x)]=Lb (l++[(b,x)]):=by simp[Lb]
theorem nq (f:F1) (n:Nat):Yc f n++[((Mv f n).isEmpty,(Mv f n).drop (dC f n))]=Yc f (n+1):=by simp[Yc,List.range_succ]
theorem f_ (f:F1) (n:Nat):(Yc f n).length=n:=by simp[Yc]
theorem gw (f:F1) (k:Nat):ZC f (k+1)=ZC f k++(Mv f k).take (dC f k):=rfl
theorem Zn (pr:List Int) (a:Int) (n:Nat):OE pr a (n+1)=if GE (pr.map fun x=>(x,1)) (a+n)=0 then OE pr a n++[a+n] else OE pr a n:=rfl
theorem Ph (pr:List Int) (a:Int):∀n,(OE pr a n).length<=n
 |0=>Nat.le_refl _
 |n+1=>by have:=Ph pr a n;rw[Zn];split<;>simp<;>omega
theorem XA {f:F1}(h:f.d.ok=true):∀k,k<=f.d.zones.length->(ZC f k).length<=k*1280
 |0,_=>by simp[ZC]
 |k+1,hk=>by
  have h1:=XA h k (by omega)
  have hz:=UL h k (by omega)
  have hs:MF f.d (k+1)=MF f.d k+f.d.heads*(f.d.zones[k]?.getD default).1*(f.d.zones[k]?.getD default).2:=rfl
  have h2:(Mv f k).length<=(MF f.d (k+1)-MF f.d k).toNat:=Ph ..
  rw[gw,List.length_append,List.length_take];omega
theorem kA {b:Bool}{B x:List Int}(h:b=B.isEmpty):(b && x.isEmpty)=(B++x).isEmpty:=by rw[h];cases B<;>simp
def qY (f:F1) (p:dg):List (Nat×Nat×AW) :=
 [(24,0,.cells [.d (.int .i64 f.d.heads),.d (.int .i64 f.d.turn),.d (.list f.d.zn (Kx f.d.zones)),.d (.int .i64 f.d.hskew),.d (.int .i64 f.d.cskew),.d (.int .i64 f.d.hlo),.d (.int .i64 f.d.hhi),.d (.int .i64 f.d.clo),.d (.int .i64 f.d.chi),.d (.int .i64 f.sp),.d (.list f.np (BU f.pr)),.d (.list f.ng (CE f.gr)),.own 80 0,.own 92 0,.map 22 0]),
  (80,0,.row 3 1 p.bl.isEmpty (BU p.bl)),(92,0,.row 29 1 false (Lb p.fr)),(22,0,.map TP (QW p.gv))]
attribute [local congr] Bm BC BD Ak Bn Aq Au Ar Aj Af AY AU Am AZ BR BS BP Ao An Ad Ap Ae BH BZ Ab BM BN BI BJ BL BK BF BG BB Bq BE Al Aa Ba Ag Av BQ
attribute [local irreducible] IntKind.wrap A0 Option.getD and or
theorem pi (f:F1) (h:f.Base) (hm:f.gr.any (fun x=>!Mt f x)=false) (h0:0<f.gr.length) (h12:f.gr.length<=12) (hd:f.gr.Pairwise fun a b=>a.id≠b.id)
  (s1 s2:List Bu) (hp1:s1.Perm f.gr) (hs1:s1.Pairwise fun a b=>a.id<b.id) (hp2:s2.Perm s1) (hs2:s2.Pairwise fun a b=>a.st<b.st) (hpo:∀n,n<=s2.length->qc f (LX f s2 n)) :
  Ft E0 O9 [] [.d (Yi f)] (qY f (LX f s2 s2.length)) (.tup [.ptr 24 0 0,.d (.int .i64 0)]):=by
 have gd:=MQ h.d
 have hz4:=gd.z2;have hz1:=gd.z1
 have hgl:=h.gl;have hpl:=h.pl;have hsp:=h.sp
 have cK:=Pf f h hd
 rw[hm,if_neg (by simp),DG,DH] at cK
 have cZ:=LH f h.d (.list true []) (.list true []) (.map TP (QW (lE f).gv))
 have hz0:decide (f.d.zones.length=0)=false:=decide_eq_false (by omega)
 rw[hz0] at cZ
 have hfl:flat [(f.ng,f.gr)]=f.gr:=by simp[flat]
 have cC:=Qc false [(f.ng,f.gr)] (by simp) (by rw[hfl];omega) (by rw[hfl];exact hd)
 rw[hfl] at cC
 change Cc E0 _ [.list false [.list f.ng (CE f.gr)]] _ at cC
 refine CT SL Ay (by simp) (by simp[Jv,Dt,C_]) (by simp[It]) fun hwf hwo=>?_
 rw[Cg];unfold Mo
 refine' HR @DG @DH;repeat' first|(refine' CQ;(first|refine AG cK ?_)<;>refine' HR @DG @DH)|refine' CP|done
 all_goals try exact Ca
 refine Bh (α:=Nat×(List (Int×Int))) (fun x=>[(28,.d (.int .i64 (x.1:Int)))]) (fun x=>[(22,.map TP (QW x.2))]) (fun x=>x.1<=f.pr.length/\x.2=(f.pr.take x.1).map (fun x=>(x,1))) (fun x=>f.pr.length-x.1) (0,[]) ?hI1 ?step1
 case' step1=>(rintro⟨i,gv⟩ hI;try dsimp only at hI)
 case' hI1=>try dsimp only
 ·exact⟨by omega,rfl⟩
 ·obtain⟨h1,h2⟩:=hI
  by_cases hi:i<f.pr.length
  ·have hi':(i:Int)<(f.pr.length:Int):=by omega
   have wi:=Mi (i:=i) (by omega)
   have hni:=dS h.pr hi
   have hts:f.pr.take (i+1)=f.pr.take i++[f.pr[i]?.getD 0]:=by
    rw[List.take_succ,List.getElem?_eq_getElem hi,Option.getD_some];rfl
   obtain⟨s,hs⟩:∃s,f.pr[i]?.getD 0=s:=⟨_,rfl⟩
   rw[hs] at hni hts
   have hc0:GE gv s=0:=by rw[h2];exact kn hni
   have g1:=U5 (gv:=gv) (s:=s) (fun q hq=>by
    rw[h2] at hq;obtain⟨y,_,rfl⟩:=List.mem_map.1 hq;exact Int.le_refl _) hc0
   have g2:=kG gv s hc0
   have g3:Ir gv s=(f.pr.take (i+1)).map (fun x=>(x,1)):=by rw[h2,kC hni,hts]
   have t1:=XY s
   have w1:IntKind.i64.wrap 1=1:=Bd _ (by omega)
   refine' PB hi' hi wi hs g1 g2 t1 w1
   all_goals first|omega|rfl|exact .inl True.intro|exact g3|trace_state
  ·have hi':¬(i:Int)<(f.pr.length:Int):=by omega
   have hie:i=f.pr.length:=by omega
   rw[hie,List.take_length] at h2
   subst h2
   (try (simp -implicitDefEqProofs only[go_sem,hi',lE,Bp,D2]));repeat' first|(with_reducible first|exact tI|refine aI ?_ ?_|intro _)|((first|with_reducible refine Gs ?_ ?_<;>intro _|(with_reducible refine isCall ?_);first|refine RN (cZ) (by simp[C_]) (by first|exact primL_ints _|exact primL_map (fun _=>rfl) _|exact Hk _|exact primL_zps _|simp[KI,D.cells,D.prim]) ?_)<;>try (simp -implicitDefEqProofs only[go_sem,hi',lE,Bp,D2]))|simp (disch:=omega) only[IE]|((with_reducible refine Zj ?_);refine⟨(_,_),rfl,?_,?_⟩)
   all_goals try exact Ca
   refine B4 (α:=Nat×(List Int)×(List Fr)×Bool×Bool) (l0:=?l2) (m0:=?m2) (fun x=>[(43,.d (.int .i64 (x.1:Int)))]) (fun x=>[(80,.row 3 1 x.2.2.2.1 (BU x.2.1)),(92,.row 29 1 x.2.2.2.2 (Lb x.2.2.1))]) (fun x=>(x.1<=f.d.zones.length/\x.2.1=ZC f x.1/\x.2.2.1=Yc f x.1)/\x.2.2.2.1=x.2.1.isEmpty/\x.2.2.2.2=decide (x.1=0)) (fun x=>f.d.zones.length-x.1) (0,[],[],true,true) ?h02 ?he2 ?he22 ?hI2 ?step2
   case h02=>(simp -implicitDefEqProofs only[go_sem,Bp,D2];rfl)
   case he2=>rfl
   case he22=>rfl
   case' step2=>(rintro⟨i,B,F,b1,b2⟩ hI2;try dsimp only at hI2)
   case' hI2=>try dsimp only
   ·exact⟨⟨by omega,rfl,rfl⟩,rfl,rfl⟩
   ·obtain⟨⟨h1,h2,h3⟩,h4,h5⟩:=hI2
    by_cases hi:i<f.d.zones.length
    ·have hi':(i:Int)<(f.d.zones.length:Int):=by omega
     have wi:=Mi (i:=i) (by omega)
     have hg:=VY (d:=f.d) hi
     have hb0:=UM h.d i (by omega)
     have hb1:=UM h.d (i+1) (by omega)
     have hzb:=UL h.d i hi
     have hgz:Mv f i=OE f.pr (MF f.d i) (MF f.d (i+1)-MF f.d i).toNat:=rfl
     have hcz:dC f i=(max 0 (((Mv f i).length:Int)-f.sp)).toNat:=rfl
     have hbs:=gw f i
     have hfs:=nq f i
     have hBl:=XA h.d i h1
     rw[←h2] at hBl
     have hst:MF f.d (i+1)=MF f.d i+f.d.heads*(f.d.zones[i]?.getD default).1*(f.d.zones[i]?.getD default).2:=rfl
     obtain⟨m,hm⟩:∃m,f.d.heads*(f.d.zones[i]?.getD default).1*(f.d.zones[i]?.getD default).2=m:=⟨_,rfl⟩
     rw[hm] at hzb hst
     obtain⟨N,hN⟩:∃N:Nat,(MF f.d (i+1)-MF f.d i).toNat=N:=⟨_,rfl⟩
     rw[hN] at hgz
     obtain⟨a,ha⟩:∃a,MF f.d i=a:=⟨_,rfl⟩
     obtain⟨e,he⟩:∃e,MF f.d (i+1)=e:=⟨_,rfl⟩
     rw[ha,he] at hg hst
     rw[ha] at hb0 hgz
     rw[he] at hb1
     rw[ha,he] at hN
     refine' PB @Bp @Dy @Di @G9 @D2 hi' hi hg
     ·omega
     ·all_goals try exact Ca
      refine Bh (α:=Int×(List Int)×Bool) (fun x=>[(11,.d (.int .i64 x.1))]) (fun x=>[(65,.row 3 1 x.2.2 (BU x.2.1))]) (fun x=>((a<=x.1/\x.1<=e)/\x.2.1=OE f.pr a (x.1-a).toNat)/\x.2.2=x.2.1.isEmpty) (fun x=>(e-x.1).toNat) (a,[],true) ?hI3 ?step3
      case' step3=>(rintro⟨s,out,b3⟩ hI3;try dsimp only at hI3)
      case' hI3=>try dsimp only
      ·exact⟨⟨⟨by omega,by omega⟩,by rw[Int.sub_self];rfl⟩,rfl⟩
      ·obtain⟨⟨⟨n0,n1⟩,n3⟩,n4⟩:=hI3
       obtain⟨n,hnn⟩:∃n:Nat,(s-a).toNat=n:=⟨_,rfl⟩
       have n2:a+(n:Int)=s:=by omega
       have hn1:(s+1-a).toNat=n+1:=by omega
       rw[hnn] at n3
       have hol:=Ph f.pr a n
       rw[←n3] at hol
       have hgs:=Zn f.pr a n
       rw[←n3,n2] at hgs
       by_cases hn:n<N
       ·have hn':s<e:=by omega
        have ws:IntKind.i64.wrap (s+1)=s+1:=Bd _ (by omega)
        by_cases hc0:GE (f.pr.map fun x=>(x,1)) s=0
        ·rw[if_pos hc0] at hgs
         have g1:=U5 (gv:=f.pr.map fun x=>(x,1)) (s:=s) (fun q hq=>by
          obtain⟨y,_,rfl⟩:=List.mem_map.1 hq;exact Int.le_refl _) hc0
         have hsn:BU out++[.int .i64 s]=BU (out++[s]):=by simp[BU]
         refine' Zg hn' g1 ws hsn n4
         all_goals first|omega|rfl|exact .inl True.intro|exact(by rw[hn1];exact hgs.symm)|(simp;done)|trace_state
        ·rw[if_neg hc0] at hgs
         have g1:CG (.int .i64 s) (QW (f.pr.map fun x=>(x,1)))=some (.int .i64 (GE (f.pr.map fun x=>(x,1)) s)):=by
          rcases Zl (f.pr.map fun x=>(x,1)) s with⟨_,h⟩|h
          ·exact absurd h hc0
          ·exact h
         refine' Zg hn' g1 ws hc0 n4
         all_goals first|omega|rfl|exact .inl True.intro|exact(by rw[hn1];exact n3.trans hgs.symm)|exact(by rw[hn1];exact hgs.symm)|(simp;done)|trace_state
       ·have hn':¬s<e:=by omega
        have hne:n=N:=by omega
        rw[hne,←hgz] at n3
        rw[hne] at hol
        have hcut:max 0 ((out.length:Int)-f.sp)=(dC f i:Int):=by rw[hcz,n3];omega
        have wl:IntKind.i64.wrap ((out.length:Int)-f.sp)=(out.length:Int)-f.sp:=Bd _ (by omega)
        refine' PB hn' wi wl hcut n4 @He @Gh @f9
        all_goals first|omega|rfl|exact .inl True.intro|(rw[hbs,h2,n3];done)|(rw[←hfs,h3,n3];done)|exact kA h4|(rw[Fl,h3,f_];omega)|(rw[List.length_take];omega)|trace_state
    ·have hi':¬(i:Int)<(f.d.zones.length:Int):=by omega
     have hie:i=f.d.zones.length:=by omega
     rw[hie] at h2 h3 h5
     rw[hz0] at h5
     subst h4 h5 h2 h3
     have cM:=fun c=>Qw f.gr s1 c h0 h12 (fun x hx=>by
      have:=List.any_eq_false.1 hm x hx
      simp only[Bool.not_eq_true',Bool.not_eq_false] at this
      have:=(Tq.1 this).1;omega) hp1 hs1
     have hst:∀x,x∈s1->0<=x.st/\x.st<=1000000:=fun x hx=>by
      have:=List.any_eq_false.1 hm x (hp1.mem_iff.1 hx)
      simp only[Bool.not_eq_true',Bool.not_eq_false] at this
      have:=(Tq.1 this).2.1;omega
     have cS:=dX s1 s2 (by rw[hp1.length_eq];omega) (·.st) GS Nh (fun x y hx hy=>bd x y (hst x hx) (hst y hy)) hp2 hs2
     have hsl:s2.length=f.gr.length:=by rw[hp2.length_eq,hp1.length_eq]
     refine' Gb hi' @Bo @Nh;repeat' first|(refine' CQ;(first|refine AG cC ?_|refine RN (cM _) (by simp[C_]) (by first|exact primL_ints _|exact primL_map (fun _=>rfl) _|exact Hk _|exact primL_zps _|simp[KI,D.cells,D.prim]) ?_|refine Cz ([((900000,0),(100,1))]) ([((900000,0),(100,1))]) (cS) ?_)<;>refine' Gb hi' @Bo @Nh)|refine' CP|done
     all_goals try exact Ca
     refine B4 (α:=Nat) (l0:=?l4) (m0:=?m4) (fun x=>[(105,.d (.int .i64 (x:Int)))]) (fun x=>[(80,.row 3 1 (LX f s2 x).bl.isEmpty (BU (LX f s2 x).bl)),(92,.row 29 1 false (Lb (LX f s2 x).fr)),(22,.map TP (QW (LX f s2 x).gv))]) (fun x=>x<=s2.length) (fun x=>s2.length-x) 0 ?h04 ?he4 ?he24 ?hI4 ?step4
     case h04=>(simp -implicitDefEqProofs only[go_sem,Bo];rfl)
     case he4=>rfl
     case he24=>rfl
     case' step4=>(rintro i hI4;try dsimp only at hI4)
     case' hI4=>try dsimp only
     ·omega
     ·by_cases hi:i<s2.length
      ·have hi':(i:Int)<(s2.length:Int):=by omega
       have wi:=Mi (i:=i) (by omega)
       have hnx:LX f s2 (i+1)=Zm f.d (LX f s2 i) (s2[i]?.getD default).sec:=rfl
       obtain⟨x,hx⟩:∃x,s2[i]?.getD default=x:=⟨_,rfl⟩
       rw[hx] at hnx
       have cG:=WJ f h.d (LX f s2 i) (hpo i (by omega)) x.sec
       rw[←hnx] at cG
       simp only[Ff] at cG
       refine' Gr hi' hi wi @Bo @ES @Em @EA (aI @EB hx);repeat' first|(refine' CQ;(first|refine Cz ([((900000,0),(24,0)),((901000,0),(80,0)),((902000,0),(92,0)),((903000,0),(22,0))]) ([((900000,0),(24,0)),((901000,0),(80,0)),((902000,0),(92,0)),((903000,0),(22,0))]) (cG) ?_)<;>refine' Gr hi' hi wi @Bo @ES @Em @EA (aI @EB hx))|refine' CP|done
       all_goals first|omega|rfl|exact .inl True.intro|trace_state
      ·have hi':¬(i:Int)<(s2.length:Int):=by omega
       have hie:i=s2.length:=by omega
       subst hie
       (try (simp -implicitDefEqProofs only[go_sem,hi',qY]));repeat' first|(with_reducible first|exact tI|refine aI ?_ ?_|intro _)|((first|with_reducible refine Gs ?_ ?_<;>intro _)<;>try (simp -implicitDefEqProofs only[go_sem,hi',qY]))|simp (disch:=omega) only[IE]|((with_reducible refine ff ?_);refine⟨(_,_,_,_,_),rfl,?_,?_⟩)|((with_reducible refine fg ?_);refine⟨(_,_,_),rfl,?_,?_⟩)|((with_reducible refine Zj ?_);refine⟨(_,_),rfl,?_,?_⟩)|((with_reducible refine pp ?_);refine⟨_,rfl,?_,?_⟩)
       all_goals first|omega|rfl|exact .inl True.intro|trace_state
end Go.Pw
end
