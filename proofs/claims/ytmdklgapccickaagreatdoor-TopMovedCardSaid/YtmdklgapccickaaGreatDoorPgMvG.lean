/- Part. -/
import Derived.Test.YtmdklgapccickaaGreatDoorPgMvA
import Derived.Test.YtmdklgapccickaaGreatDoorPgMvH
import Derived.Shelf.Slices.Delete
import Derived.Test.YtmdklgapccickaaGreatDoorMvI
set_option linter.all false
open List renaming mem_singleton->aa,getElem?_eq_getElem->ax,mem_map->az,length_take->ck,getElem_of_mem->cp,map_cons->c8,length_append->ea,replicate->eb,getElem?_eq_some_iff->et,mem_of_getElem?->f0,mem_cons_self->hY,mem_cons_of_mem->i5,length_drop->i7,getElem?_map->j0,findIdx?_eq_some_iff_getElem->j4,all_eq_true->kk,any_eq_false->la
open Option renaming getD_some->ay,getD->hU,map_eq_some_iff->lb
open Nat renaming le_refl->cw,not_lt_zero->hX
section
open Go Go.Pw Go.Proofs Go.Lib Go.Sort
namespace Go.Pw
def ABh:Go.Shelf.Ren:=⟨fun _=>Ge,fun t=>if t=22 then 29 else t,fun x=>x⟩
theorem AAq:Lays2.n23 E0.P ABh:=⟨by kernel_rfl,Tryz.func132.trans (congrArg some (by kernel_rfl)),Tryz.underlying0,Tryz.isAgg0,Tryz.sizeOf0,Tryz.zeroValue0,Tryz.underlying3,Tryz.isAgg3,Tryz.sizeOf3,Tryz.zeroValue3,Tryz.underlying4,Tryz.isAgg4,Tryz.sizeOf4,Tryz.zeroValue4,Tryz.underlying29,Tryz.isAgg29,Tryz.sizeOf29,Tryz.zeroValue29,by kernel_rfl⟩
theorem dK{l:List Int}{i:Nat}(h:i<l.length):(K9 l i).length=l.length-1:=by
 unfold K9;rw[ea,ck,i7];omega
theorem sD(l:List Int)(i:Nat)(hi:i<l.length) :
  Eg E0 Ge [(800000,0,.row 3 1 false (Ad l))] [.own 800000 0,.d (.int .i64 (i:Int)),.d (.int .i64 ((i+1:Nat):Int))] [(800000,1,.row 3 1 true [])] (.d (.list false (Ad (K9 l i)))):=by
 intro w fb β vs α hg G O r;obtain⟨vl⟩:=vs
 match vl,O,r with
 |[v0,v1,v2],_,r =>
 have U:=r 0 _ v0 rfl rfl;have S:=r 1 _ v1 rfl rfl;have T:=r 2 _ v2 rfl rfl;obtain⟨_,ho⟩:=G.objs 800000 0 _ (aa.2 rfl);have t:=G.home 800000 0 (.row 3 1 false (Ad l));have Z:v0=β 800000 0:=by cases U with|own=>rfl
 have e1:v1=.int .i64 (i:Int):=by cases S with|d _ _ h=>cases h with|int=>rfl
 have e2:v2=.int .i64 ((i+1:Nat):Int):=by cases T with|d _ _ h=>cases h with|int=>rfl
 subst e1 e2;obtain⟨v,hv⟩:∃v,β 800000 0=v:=⟨_,rfl⟩
 rw[hv]at ho Z;subst Z
 cases ho with|row _ _ _ _ _ hr =>
 rcases hr with⟨h,_⟩|⟨_,b,off,cap,cur,hval,hheap,hlen,hcap,hoff,_,_,_,hcell⟩
 ·cases h
 subst hval;have hb:=t b (aa.2 rfl) (by rw[hv];rfl);rw[Bq]at hlen
 have A:∀j,j<l.length->cur[off+j]?=some (.int .i64 (l[j]?.getD 0)):=fun j p=>by
  obtain⟨u,hu,hd⟩:=hcell j (.int .i64 (l[j]?.getD 0)) 0 (.int .i64 (l[j]?.getD 0)) (by simp[Ad,p]) rfl;rw[show off+j=off+j*1+0 by omega,hu]
  cases hd with|int=>rfl
 have R:∀y,y∈l->N7 .i64 y:=fun y L=>by
  obtain⟨j,p,rfl⟩:=cp L;obtain⟨u,hu,hd⟩:=hcell j (.int .i64 l[j]) 0 (.int .i64 l[j]) (by simp[Ad,p]) rfl
  cases hd with|int _ _ h=>exact h
 have hH:Holds (Value.int .i64) w b off l.toArray:=fun j p=>by
  have z:j<l.length:=by simpa using p
  refine⟨?_,?_⟩
  ·unfold World.cell?;rw[hheap];have:=A j z;simp[z]at this ⊢;exact this
  ·unfold World.frozen?;rw[hheap];simp
 have hc:=Any.slices_Delete_int AAq b off cap i (i+1) l w hH hlen hcap (by omega) (by omega);rw[Bq];refine Calls.mono hc fun e w' ⟨he,q,n⟩=>?_
 have hd:(l.take i++l.drop (i+1)++eb (i+1-i) 0).length=l.length:=by
  simp only[ea,ck,i7,List.length_replicate];omega
 refine⟨_,fun _ _=>.slice none 0 0,fun _=>2,he,by rw[n];rfl,by rw[n];rfl,by rw[n];rfl,by rw[n];simp,fun k hk hn=>?_,⟨fun o g x h=>?_,fun o g x o' g' x' b _ _ h=>(by cases h),fun o g x b _ h=>(by cases h)⟩,fun o g x h hl=>?_,fun o g x b _ h=>(by cases h),?_⟩
 ·have N:k≠b:=fun h=>hn ⟨800000,0,_,aa.2 rfl,by rw[hv,h];rfl⟩
  rw[n];simp[putRow,mapBlock,Array.getElem?_modify,Ne.symm N]
 ·have:=aa.1 h;simp only[Prod.mk.injEq]at this;obtain⟨rfl,rfl,rfl⟩:=this;exact⟨by decide,.row _ _ _ _ _ (.inl ⟨rfl,rfl,rfl⟩)⟩
 ·have:=aa.1 h;simp only[Prod.mk.injEq]at this;rw[this.1]at hl;exact absurd hl (by simp[Cr])
 ·refine .d _ _ ?_;have B:l.length-(i+1-i)=(Ad (K9 l i)).length:=by rw[Bq,dK hi];omega
  rw[B];refine .list _ 1 b off cap (fun j _=>.int .i64 ((K9 l i)[j]?.getD 0)) (by rw[←B];omega) hcap (fun h=>?_) (by decide) (fun x hx=>?_) (fun x c hx hc=>?_) (fun j x m c p hm=>?_) (fun j x m c p hm=>?_)
  ·rcases h with h|⟨_,_,_,_,h⟩
   ·exact hb.2 h
   ·cases h
  ·obtain⟨y,_,rfl⟩:=az.1 hx;rfl
  ·obtain⟨y,_,rfl⟩:=az.1 hx;have:=aa.1 hc;rw[this];rfl
  ·have J:j<(K9 l i).length:=by have:=(et.1 p).1;rwa [Bq]at this
   have X:m=0:=by
    obtain⟨y,_,rfl⟩:=az.1 (f0 p);have:=(et.1 hm).1;simp[D.cells]at this;exact this
   subst X;have hp:=cell?_putRow (Value.int .i64) (Sort.ahead w q) b off l.toArray (l.take i++l.drop (i+1)++eb (i+1-i) 0).toArray hH (by simpa using hd) j (by rw[List.size_toArray,hd];rw[dK hi]at J;omega);rw[n,show off+j*1+0=off+j by omega,hp];congr 2;show((K9 l i)++eb (i+1-i) 0).toArray[j]! = _;rw[List.getElem!_toArray,List.getElem!_eq_getElem?_getD,List.getElem?_append_left J];rfl
  ·obtain⟨y,L,Y⟩:∃y,(K9 l i)[j]?=some y/\D.int .i64 y=x:=by
    unfold Ad at p;rw[j0,lb]at p;exact p
   subst Y
   have M:c=.int .i64 y:=by
    have:=f0 hm;exact aa.1 this
   subst M;show Ar _ _ _ (.int .i64 ((K9 l i)[j]?.getD 0));rw[L]
   exact .int _ _ (R y (by
    have:=f0 L;unfold K9 at this;rcases List.mem_append.1 this with h|h
    ·exact List.mem_of_mem_take h
    ·exact List.mem_of_mem_drop h))
end Go.Pw
end
section
open Go Go.Pw Go.Proofs
namespace Go.Pw
set_option maxRecDepth 100000
set_option maxHeartbeats 6400000
theorem X4(n:Int):n.fdiv (2^min 1 64)=n/2:=by rw[show(2:Int)^min 1 64=2 from rfl];exact Int.fdiv_eq_ediv_of_nonneg _ (by omega)
attribute [local irreducible] IntKind.wrap Ah hU and or
theorem ND(f:B9)(h:f.d.ok=true)(x y z:D) :
  mf E0 IV [.ptr [.int .i64 f.d.heads,.int .i64 f.d.turn,.list f.d.zn (HF f.d.zones),.int .i64 f.d.hskew,.int .i64 f.d.cskew,.int .i64 f.d.hlo,.int .i64 f.d.hhi,.int .i64 f.d.clo,.int .i64 f.d.chi,.int .i64 f.sp,.list f.np (Ad f.pr),.list f.ng (BO f.gr),x,y,z]] 172 2 (decide (f.d.zones.length=0)) (HF (Wi f.d f.d.zones.length)):=by
 refine Pu My AR (by simp) fun J=>?_
 have M:=FQ h;have B:=M.z2;rw[AN];unfold Hq;refine' HM @Ai
 all_goals try exact BL
 refine BN (α:=Nat×Int×(List Zp)×Bool) (l0:=?l1) (m0:=?m1) (fun x=>[(15,.d (.int .i64 (x.1:Int))),(4,.d (.int .i64 x.2.1))]) (fun x=>[(38,.row 172 2 x.2.2.2 (HF x.2.2.1))]) (fun x=>x.1<=f.d.zones.length/\x.2.1=IH f.d x.1/\x.2.2.1=Wi f.d x.1/\x.2.2.2=decide (x.1=0)) (fun x=>f.d.zones.length-x.1) (0,0,[],true) ?h01 ?he1 ?he21 ?hI1 ?step1
 case h01=>(simp -implicitDefEqProofs only[go_sem,Ai];rfl)
 case he1=>rfl
 case he21=>rfl
 case' step1=>(rintro⟨i,a,out,b⟩ t;try dsimp only at t)
 case' hI1=>try dsimp only
 ·exact⟨by omega,rfl,rfl,rfl⟩
 ·obtain⟨h1,h2,o,u⟩:=t;have hb:=Uw h i h1
  by_cases hi:i<f.d.zones.length
  ·have e:(i:Int)<(f.d.zones.length:Int):=by omega
   have L:=HE (i:=i) (by omega);have l:=SN h i hi;have j:IH f.d (i+1)=IH f.d i+f.d.heads*(f.d.zones[i]?.getD default).1*(f.d.zones[i]?.getD default).2:=rfl;have hsn:=xe f.d i;obtain⟨p,hp⟩:∃p,f.d.zones[i]?.getD default=p:=⟨_,rfl⟩
   rw[hp]at l j;have G:IntKind.i64.wrap (f.d.heads*p.1)=f.d.heads*p.1:=Am _ (by omega);have r:IntKind.i64.wrap (f.d.heads*p.1*p.2)=f.d.heads*p.1*p.2:=Am _ (by omega);obtain⟨m,hm⟩:∃m,f.d.heads*p.1*p.2=m:=⟨_,rfl⟩
   rw[hm]at r j l;have A:IntKind.i64.wrap (a+m)=a+m:=Am _ (by omega);have N:out.length=i:=by rw[o,Dj]
   have hn:out++[(a,a+m)]=Wi f.d (i+1):=by rw[o,←hsn,j,h2]
   have n:HF out++[.agg [.int .i64 a,.int .i64 (a+m)]]=HF (out++[(a,a+m)]):=by simp[HF,z_]
   refine' P4 @Ai @Bm @Bg @EH e hi hp (aI hm (aI G (aI r (aI A (aI L n)))))
   all_goals first|omega|rfl|exact .inl True.intro|exact hn
  ·have e:¬(i:Int)<(f.d.zones.length:Int):=by omega
   have q:i=f.d.zones.length:=by omega
   rw[q]at o u;refine' Ta @Ai e o u
   all_goals first|omega|rfl|exact .inl True.intro
theorem gu(nl:Bool)(l:List Int)(s:Int)(hl:l.length<=10000):BU E0 Ex [.list nl (Ad l),.int .i64 s] (.int .i64 (match l.findIdx? (fun x=>decide (x=s))with|some i=>i|none=>-1)):=by
 refine AL GA AR (by simp) fun y=>?_
 rw[AN];unfold EW;refine' FP
 all_goals try exact BL
 refine AZ (α:=Nat) (fun x=>[(8,.d (.int .i64 (x:Int)))]) (fun x=>[]) (fun x=>x<=l.length/\∀(j:Nat) (n:j<l.length),j<x->l[j]≠s) (fun x=>l.length-x) 0 ?hI2 ?step2
 case' step2=>(rintro i u;try dsimp only at u)
 case' hI2=>try dsimp only
 ·exact⟨by omega,fun j _ h=>absurd h (hX j)⟩
 ·obtain⟨h1,h2⟩:=u
  by_cases hi:i<l.length
  ·have m:(i:Int)<(l.length:Int):=by omega
   have z:=HE (i:=i) (by omega);have hg:l[i]?.getD 0=l[i]:=by rw[ax hi,ay]
   by_cases p:s=l[i]
   ·have r:l.findIdx? (fun x=>decide (x=s))=some i:=by
     rw[j4];exact⟨hi,by simp[p],fun j n=>by simpa using h2 j (by omega) n⟩
    rw[r];have q:(s=l[i])=True:=eq_true p;refine' Ta m hi hg q
    all_goals first|omega|rfl
   ·have o:∀(j:Nat) (n:j<l.length),j<i+1->l[j]≠s:=fun j n A=>by
     by_cases t:j=i
     ·subst t;exact fun e=>p e.symm
     ·exact h2 j n (by omega)
    refine' bq m hi hg p z
    all_goals first|omega|rfl|exact o|exact o _ (by assumption) (by assumption)
  ·have m:¬(i:Int)<(l.length:Int):=by omega
   have r:l.findIdx? (fun x=>decide (x=s))=none:=by
    rw[List.findIdx?_eq_none_iff];intro x hx;obtain⟨j,n,rfl⟩:=cp hx;simpa using h2 j n (by omega)
   rw[r];refine' HM m
   all_goals first|omega|rfl
theorem SW(x:Int):BU E0 JV [.int .i64 x] (.bool false):=by
 refine AL No AR (by simp) fun e=>?_
 rw[AN];unfold II;refine' FP
 all_goals first|rfl
theorem W8(x:Int):BU E0 Mq [.int .i64 x] (.bool false):=by
 refine AL Rm AR (by simp) fun e=>?_
 rw[AN];unfold Kw;refine' FP
 all_goals first|rfl
theorem Zf(x y:Int):BU E0 OO [.int .i64 x,.int .i64 y] (.bool (decide (x<y))):=by
 have c1:=W8 x;refine AL S_ AR (by simp) fun e=>?_
 rw[AN];unfold MU;refine' Fp;repeat' first|(refine' BJ;(first|refine AF c1 ?_)<;>refine' Fp)|refine' BI|done
 all_goals first|rfl|(simp_all;done)
theorem g9(nl:Bool)(l:List Int)(s:Int)(hl:l.length<=10000)(hs:l.Pairwise (· < ·)):BU E0 En [.list nl (Ad l),.int .i64 s] (.tup [.int .i64 (Lj l s),.bool (decide (s∈l))]):=by
 have c2:=SW
 have r:∀p q,p<q->q<l.length->l[p]?.getD 0<l[q]?.getD 0:=fun p q h1 h2=>by
  rw[List.pairwise_iff_getElem]at hs;rw[ax (show p<l.length by omega),ax h2,ay,ay];exact hs p q (by omega) h2 h1
 refine AL HH AR (by simp) fun γ=>?_
 rw[AN];unfold EX;refine' FP
 all_goals try exact BL
 refine AZ (α:=Nat×Nat) (fun x=>[(7,.d (.int .i64 (x.1:Int))),(8,.d (.int .i64 (x.2:Int)))]) (fun x=>[]) (fun x=>(x.1<=x.2/\x.2<=l.length)/\(∀p,p<x.1->l[p]?.getD 0<s)/\(∀p,x.2<=p->p<l.length->s<=l[p]?.getD 0)) (fun x=>x.2-x.1) (0,l.length) ?hI3 ?step3
 case' step3=>(rintro⟨i,j⟩ hI;try dsimp only at hI)
 case' hI3=>try dsimp only
 ·exact⟨⟨by omega,cw _⟩,fun p h=>absurd h (hX p),fun p h1 h2=>by omega⟩
 ·obtain⟨⟨h1,X⟩,h2,Z⟩:=hI
  by_cases δ:i<j
  ·have e:(i:Int)<(j:Int):=by omega
   have O:IntKind.i64.wrap ((i:Int)+(j:Int))=((i+j:Nat):Int):=by rw[Am _ (by omega)];omega
   obtain⟨m,hm⟩:∃m,(i+j)/2=m:=⟨_,rfl⟩
   have L:((i+j:Nat):Int)/2=(m:Int):=by omega
   have N:IntKind.u64.wrap ((i+j:Nat):Int)=((i+j:Nat):Int):=aF _ (by omega);have M:IntKind.i64.wrap (m:Int)=(m:Int):=Am _ (by omega);have y:m<l.length:=by omega
   have t:(m:Int)<(l.length:Int):=by omega
   have wm:=HE (i:=m) (by omega);obtain⟨v,hv⟩:∃v,l[m]?.getD 0=v:=⟨_,rfl⟩
   have c1:=Zf v s
   by_cases J:v<s
   ·rw[decide_eq_true J]at c1
    have u:∀p,p<m+1->l[p]?.getD 0<s:=fun p hp=>by
     by_cases A:p=m
     ·subst A;omega
     ·have:=r p m (by omega) y;omega
    refine' EP e O N @X4 L M y (aI t (aI hv wm));repeat' first|(refine' BJ;(first|refine AF c1 ?_)<;>refine' EP e O N @X4 L M y (aI t (aI hv wm)))|refine' BI|done
    all_goals first|omega|rfl|exact u|exact u _ (by assumption)|exact Z _ (by assumption) (by assumption)
   ·rw[decide_eq_false J]at c1
    have u:∀p,m<=p->p<l.length->s<=l[p]?.getD 0:=fun p hp Y=>by
     by_cases A:p=m
     ·subst A;omega
     ·have:=r m p (by omega) Y;omega
    refine' EP e O N @X4 L M y (aI t hv);repeat' first|(refine' BJ;(first|refine AF c1 ?_)<;>refine' EP e O N @X4 L M y (aI t hv))|refine' BI|done
    all_goals first|omega|rfl|exact u|exact u _ (by assumption) (by assumption)|exact h2 _ (by assumption)
  ·have e:¬(i:Int)<(j:Int):=by omega
   have R:j=i:=by omega
   subst R;rw[tj X h2 Z]
   have B:(∀p,p<l.length->l[p]?.getD 0≠s)->decide (s∈l)=false:=fun hh=>decide_eq_false fun hm=>by
    obtain⟨p,hp,z⟩:=cp hm;have:=hh p hp;rw[ax hp,ay]at this;exact this z
   by_cases o:j<l.length
   ·have n:(j:Int)<(l.length:Int):=by omega
    obtain⟨v,hv⟩:∃v,l[j]?.getD 0=v:=⟨_,rfl⟩
    have β:=Z j (cw _) o
    by_cases z:v=s
    ·have T:decide (s∈l)=true:=decide_eq_true (by
      rw[←z,←hv,ax o,ay];exact List.getElem_mem o)
     rw[T];have G:(v=s)=True:=eq_true z;refine' dz e o n hv G;repeat' first|(refine' BJ;(first|refine AF (c2 _) ?_)<;>refine' dz e o n hv G)|refine' BI|done
     all_goals first|omega|rfl|exact .inl True.intro
    ·rw[B (fun p hp=>by
      by_cases U:p<j
      ·have:=h2 p U;omega
      ·by_cases S:p=j
       ·subst S;rw[hv];exact z
       ·have:=r j p (by omega) hp;omega)]
     refine' dz e o n hv z;repeat' first|(refine' BJ;(first|refine AF (c2 _) ?_)<;>refine' dz e o n hv z)|refine' BI|done
     all_goals first|omega|rfl|exact .inl True.intro
   ·have n:¬(j:Int)<(l.length:Int):=by omega
    rw[B (fun p hp=>by have:=h2 p (by omega);omega)];refine' FS e n;repeat' first|(refine' BJ;(first|refine AF (c2 _) ?_)<;>refine' FS e n)|refine' BI|done
    all_goals first|omega|rfl|exact .inl True.intro
theorem gz(xs:List Int)(hl:xs.length<=10000)(hne:0<xs.length):Eg E0 CC [] [.d (.list false (Ad xs))] [(7,1,.row 3 1 false (Ad xs))] (.own 7 1):=by
 refine BW CT AR (by simp) (by simp[I_,CG,Cr]) (by simp[Fh]) fun e i=>?_
 rw[Bh];unfold B7;have hn:¬xs=[]:=by intro h;rw[h]at hne;simp at hne
 refine' HM hn
 all_goals first|omega|rfl
end Go.Pw
end
section
open Go Go.Pw Go.Proofs
namespace Go.Pw
set_option maxRecDepth 100000
set_option maxHeartbeats 12800000
abbrev Fr:=Bool×List Int
def K5(l:List Fr):List D:=l.map fun p=>.list p.1 (Ad p.2)
theorem BD(l:List Fr):(K5 l).length=l.length:=by simp[K5]
theorem Bc(l:List Fr):Cc 1 (K5 l)=True:=KU fun _=>rfl
theorem BR{l:List Fr}{i:Nat}{A:D->Prop}:Au (K5 l)[i]? A=(i<l.length/\A (.list (l[i]?.getD (true,[])).1 (Ad (l[i]?.getD (true,[])).2))):=by
 unfold K5;rw[j0]
 cases h:l[i]? with
 |none=>simp[Au];intro hi;rw[List.getElem?_eq_none_iff]at h;omega
 |some x=>have:=(et.1 h).1;simp[Au,this]
theorem Ok(l:List Fr)(i:Nat)(b:Bool)(x:List Int):(K5 l).set i (.list b (Ad x))=K5 (l.set i (b,x)):=by simp[K5,List.map_set]
def Tc(gv:List (Int×Int)):List (D×D):=gv.map fun q=>(.int .i64 q.1,.int .i64 q.2)
theorem ip(gv:List (Int×Int))(s:Int):(C0 (.int .i64 s) (Tc gv)=none/\C2 gv s=0)\/C0 (.int .i64 s) (Tc gv)=some (.int .i64 (C2 gv s)):=by
 induction gv with
 |nil=>exact .inl ⟨rfl,rfl⟩
 |cons q l ih =>
  by_cases h:s=q.1
  ·refine .inr ?_;simp[Tc,C0,Ll,C2,h]
  ·simp only[Tc]at ih;simp only[Tc,c8,C0,Ll,C2,decide_eq_false h,if_neg h,Bool.false_eq_true,if_false];exact ih
theorem p0(gv:List (Int×Int))(s:Int):T0 (.int .i64 s) (.int .i64 (C2 gv s+1)) (Tc gv)=Tc (Ek gv s)/\C0 (.int .i64 s) (Tc (Ek gv s))=some (.int .i64 (C2 gv s+1)):=by
 induction gv with
 |nil=>simp[Tc,T0,Ek,C2,C0,Ll]
 |cons q l ih =>
  by_cases h:s=q.1
  ·simp[Tc,T0,Ek,C2,C0,Ll,h]
  ·simp only[Tc]at ih;simp[Tc,T0,Ek,C2,C0,Ll,h,ih.1,ih.2]
theorem ZA{gv:List (Int×Int)}{s:Int}(hp:∀q∈gv,1<=q.2)(h:C2 gv s=0):C0 (.int .i64 s) (Tc gv)=none:=by
 induction gv with
 |nil=>rfl
 |cons q l ih =>
  have i:=hp q (hY ..)
  by_cases e:s=q.1
  ·rw[C2,if_pos e]at h;omega
  ·rw[C2,if_neg e]at h;have j:=ih (fun q i=>hp q (i5 _ i)) h;simp only[Tc]at j;simp only[Tc,c8,C0,Ll,decide_eq_false e,Bool.false_eq_true,if_false];exact j
def plV(f:B9)(p:Z1):List (Nat×Nat×AY) :=
 [(900000,0,.cells [.d (.int .i64 f.d.heads),.d (.int .i64 f.d.turn),.d (.list f.d.zn (HF f.d.zones)),.d (.int .i64 f.d.hskew),.d (.int .i64 f.d.cskew),.d (.int .i64 f.d.hlo),.d (.int .i64 f.d.hhi),.d (.int .i64 f.d.clo),.d (.int .i64 f.d.chi),.d (.int .i64 f.sp),.d (.list f.np (Ad f.pr)),.d (.list f.ng (BO f.gr)),.own 901000 0,.own 902000 0,.map 903000 0]),
  (901000,0,.row 3 1 p.bl.isEmpty (Ad p.bl)),(902000,0,.row 29 1 false (K5 p.fr)),(903000,0,.map TP (Tc p.gv))]
theorem FF(f:B9)(p:Z1):plV f p=[(900000,0,.cells [.d (.int .i64 f.d.heads),.d (.int .i64 f.d.turn),.d (.list f.d.zn (HF f.d.zones)),.d (.int .i64 f.d.hskew),.d (.int .i64 f.d.cskew),.d (.int .i64 f.d.hlo),.d (.int .i64 f.d.hhi),.d (.int .i64 f.d.clo),.d (.int .i64 f.d.chi),.d (.int .i64 f.sp),.d (.list f.np (Ad f.pr)),.d (.list f.ng (BO f.gr)),.own 901000 0,.own 902000 0,.map 903000 0]),
 (901000,0,.row 3 1 p.bl.isEmpty (Ad p.bl)),(902000,0,.row 29 1 false (K5 p.fr)),(903000,0,.map TP (Tc p.gv))]:=rfl
structure xd (f:B9) (p:Z1):Prop where
 n:p.fr.length=f.d.zones.length
 bl:p.bl.length<=5200
 ps:∀q∈p.gv,1<=q.2
 cn:∀t:Int,0<=C2 p.gv t/\C2 p.gv t<=1000
 srt:∀k:Nat,(p.fr[k]?.getD ((true,[]):Fr)).2.Pairwise (fun a b:Int=>a<b)
 len:∀k:Nat,(p.fr[k]?.getD ((true,[]):Fr)).2.length<=5200
 nl:∀k:Nat,(p.fr[k]?.getD ((true,[]):Fr)).1=true->(p.fr[k]?.getD ((true,[]):Fr)).2=[]
theorem primL_zps(l:List Zp):MA (HF l)=true:=by
 unfold MA;rw[kk];intro x hx;obtain⟨y,_,rfl⟩:=az.1 hx;rfl
theorem yb{l:List Int}{s:Int}(h:s∈l):Lj l s<l.length:=by
 unfold Lj;exact List.length_filter_lt_length_iff_exists.2 ⟨s,h,by simp⟩
theorem oh(d:AQ)(s:Int)(k:Nat):I7 d s (k+1)=if IH d k<=s/\s<IH d (k+1)then k else I7 d s k:=rfl
theorem Vh(fr:List Fr)(own k:Nat):Lo fr own (k+1)=match Lo fr own k with
 |some j=>some j
 |none=>if(fr[(own+k)%fr.length]?.getD (true,[])).2.length=0 then none else some ((own+k)%fr.length):=rfl
theorem Tf{fr:List Fr}{own k j:Nat}(h:Lo fr own k=some j):∀n,k<=n->Lo fr own n=some j
 |0,hn=>by
    have:k=0:=by omega
    subst this;exact h
 |n+1,hn=>by
  by_cases hk:k=n+1
  ·subst hk;exact h
  ·rw[Vh,Tf h n (by omega)]
theorem io(l:List Int)(i:Nat)(x:Int):(l.set i x).isEmpty=l.isEmpty:=by cases l<;>cases i<;>rfl
attribute [local irreducible] IntKind.wrap Ah hU and or
theorem ba(f:B9)(h:f.d.ok=true)(p:Z1)(hp:xd f p)(s:Int) :
  Eg E0 JX (plV f p) [.ptr 900000 0 0,.d (.int .i64 s)] (plV f (MY f.d p s)) (.tup []):=by
 have gd:=FQ h;have ν:=gd.z2;have μ:=gd.z1;have hn:=hp.n;have τ:=hp.bl;have κ:=hp.cn s;obtain⟨g1,g2⟩:=p0 p.gv s;have g3:=ip p.gv s
 have j:MY f.d p s=if 0<C2 p.gv s then⟨p.bl,p.fr,Ek p.gv s⟩else
   if s∈(p.fr[I7 f.d s f.d.zones.length]?.getD (true,[])).2 then⟨p.bl,p.fr.set (I7 f.d s f.d.zones.length) (false,K9 (p.fr[I7 f.d s f.d.zones.length]?.getD (true,[])).2 (Lj (p.fr[I7 f.d s f.d.zones.length]?.getD (true,[])).2 s)),Ek p.gv s⟩else
   match p.bl.findIdx? (fun x=>decide (x=s))with
   |none=>⟨p.bl,p.fr,Ek p.gv s⟩
   |some b=>match Lo p.fr (I7 f.d s f.d.zones.length) p.fr.length with
    |none=>⟨p.bl.set b (-1),p.fr,Ek p.gv s⟩
    |some k=>⟨p.bl.set b ((p.fr[k]?.getD (true,[])).2[0]?.getD 0),p.fr.set k ((p.fr[k]?.getD (true,[])).1,(p.fr[k]?.getD (true,[])).2.drop 1),Ek p.gv s⟩:=rfl
 have γ:=iV f.d s f.d.zones.length (by omega);obtain⟨c,hc⟩:∃c,C2 p.gv s=c:=⟨_,rfl⟩
 obtain⟨gv',T⟩:∃gv',Ek p.gv s=gv':=⟨_,rfl⟩
 obtain⟨own,S⟩:∃own,I7 f.d s f.d.zones.length=own:=⟨_,rfl⟩
 rw[hc,T]at g1 g2;rw[hc]at g3 κ;rw[hc,T,S]at j;rw[S]at γ;have w1:IntKind.i64.wrap (c+1)=c+1:=Am _ (by omega);have t1:=eD s;have cZ:=ND f h (.list p.bl.isEmpty (Ad p.bl)) (.list false (K5 p.fr)) (.map TP (Tc gv'));have y:decide (f.d.zones.length=0)=false:=decide_eq_false (by omega);rw[y]at cZ;refine BW Nq AR (by simp) (by simp[I_,CG,Cr,AY.isHist,FF]) (by simp[Fh,Cr,FF]) fun σ ξ=>?_
 rw[Bh];unfold IK
 by_cases X:0<c
 ·rw[j,if_pos X];have δ:1<c+1:=by omega
  have θ:C0 (.int .i64 s) (Tc p.gv)=some (.int .i64 c):=by
   rcases g3 with⟨_,h0⟩|h1
   ·omega
   ·exact h1
  refine' mA7 @FF g1 g2 θ w1 t1 δ
  all_goals first|omega|rfl|exact .inl True.intro
 rw[if_neg X]at j;have ζ:c=0:=by omega
 subst ζ;have δ:¬(1:Int)<0+1:=by omega
 have hfirst:∀(K:AV->Bs->Prop),True:=fun _=>trivial
 have g4:=ZA hp.ps hc;rw[Int.zero_add]at g1 g2;have w1:IntKind.i64.wrap 1=1:=Am _ (by omega);refine' EP @FF g1 g2 g4 w1 t1 @Ai @Dj;repeat' first|(refine' BJ;(first|refine Un (cZ) (by simp[Cr]) (by first|exact primL_ints _|exact primL_map (fun _=>rfl) _|exact Iv _|exact primL_zps _|simp[MA,D.cells,D.prim]) ?_)<;>refine' EP @FF g1 g2 g4 w1 t1 @Ai @Dj)|refine' BI|done
 ·all_goals try exact BL
  refine BN (α:=Nat×Nat) (l0:=?l1) (m0:=?m1) (fun x=>[(29,.d (.int .i64 (x.1:Int))),(4,.d (.int .i64 (x.2:Int)))]) (fun x=>[]) (fun x=>x.1<=f.d.zones.length/\x.2=I7 f.d s x.1) (fun x=>f.d.zones.length-x.1) (0,0) ?h01 ?he1 ?he21 ?hI1 ?step1
  case h01=>(simp -implicitDefEqProofs only[go_sem,Ai,Dj,Bm];rfl)
  case he1=>rfl
  case he21=>rfl
  case' step1=>(rintro⟨i,o⟩ hI;try dsimp only at hI)
  case' hI1=>try dsimp only
  ·exact⟨by omega,rfl⟩
  ·obtain⟨h1,h2⟩:=hI
   by_cases hi:i<f.d.zones.length
   ·have l:(i:Int)<(f.d.zones.length:Int):=by omega
    have wi:=HE (i:=i) (by omega);have hg:=aB (d:=f.d) hi;have hs:=oh f.d s i;rw[←h2]at hs;refine' P4 @Ai @Bm @Bg @EH @Dj l hi (aI hg wi)
    all_goals first|omega|rfl|exact .inl True.intro|(rw[hs];simp_all;done)|(rw[hs];split<;>omega)
   ·have l:¬(i:Int)<(f.d.zones.length:Int):=by omega
    have N:i=f.d.zones.length:=by omega
    rw[N,S]at h2;subst h2;obtain⟨q,L⟩:∃q,p.fr[o]?.getD (true,[])=q:=⟨_,rfl⟩
    have q1:=hp.srt o;have q2:=hp.len o;have q3:=hp.nl o;rw[L]at q1 q2 q3 j;have u:o<p.fr.length:=by omega
    have m:(o:Int)<(p.fr.length:Int):=by omega
    have cB:=g9 q.1 q.2 s (by omega) q1
    by_cases A:s∈q.2
    ·rw[if_pos A]at j;rw[j];rw[decide_eq_true A]at cB;have G:=yb A;obtain⟨k,hk⟩:∃k,Lj q.2 s=k:=⟨_,rfl⟩
     rw[hk]at cB G;rw[hk]
     have O:q.1=false:=by
      cases e:q.1 with
      |false=>rfl
      |true=>rw[q3 e]at G;exact absurd G (hX _)
     rw[O]at cB;have cC:=gz q.2 (by omega) (by omega);have cD:=sD q.2 k G;have wk:=HE (i:=k) (by omega);have B:=Ok p.fr o false (K9 q.2 k);refine' EP @FF @Ai @Dj l @BD @Bc @BR (aI L (aI O (aI u (aI m (aI wk B)))));repeat' first|(refine' BJ;(first|refine AF cB ?_|refine B_ ([]) ([((7,1),(71,1))]) (cC) ?_|refine B_ ([((800000,0),(71,1))]) ([((800000,1),(71,2))]) (cD) ?_)<;>refine' EP @FF @Ai @Dj l @BD @Bc @BR (aI L (aI O (aI u (aI m (aI wk B))))))|refine' BI|done
     all_goals first|omega|rfl|exact .inl True.intro
    ·rw[if_neg A]at j;rw[decide_eq_false A]at cB;have cI:=gu p.bl.isEmpty p.bl s (by omega)
     cases hb:p.bl.findIdx? (fun x=>decide (x=s))with
     |none =>
      rw[hb]at j cI;simp only[]at j cI;rw[j];refine' EP @FF @Ai @Dj l @BD @Bc @BR (aI L (aI u m));repeat' first|(refine' BJ;(first|refine AF cB ?_|refine AF cI ?_)<;>refine' EP @FF @Ai @Dj l @BD @Bc @BR (aI L (aI u m)))|refine' BI|done
      all_goals first|omega|rfl|exact .inl True.intro
     |some b =>
      rw[hb]at j cI;simp only[]at j cI;have z:b<p.bl.length:=(j4.1 hb).1;have R:(b:Int)<(p.bl.length:Int):=by omega
      have Y:¬(b:Int)<0:=by omega
      have η:=io p.bl b (-1);refine' EP @FF @Ai @Dj l @BD @Bc @BR (aI L (aI u (aI m (aI z (aI R (aI Y @RA))))));repeat' first|(refine' BJ;(first|refine AF cB ?_|refine AF cI ?_)<;>refine' EP @FF @Ai @Dj l @BD @Bc @BR (aI L (aI u (aI m (aI z (aI R (aI Y @RA)))))))|refine' BI|done
      ·omega
      ·omega
      ·exact .inl True.intro
      ·all_goals try exact BL
       refine BN (α:=Nat) (l0:=?l2) (m0:=?m2) (fun x=>[(96,.d (.int .i64 (x:Int)))]) (fun x=>[]) (fun x=>x<=p.fr.length/\Lo p.fr o x=none) (fun x=>p.fr.length-x) 0 ?h02 ?he2 ?he22 ?hI2 ?step2
       case h02=>(simp -implicitDefEqProofs only[go_sem,FF,BD,Bc];rfl)
       case he2=>rfl
       case he22=>rfl
       case' step2=>(rintro i hI2;try dsimp only at hI2)
       case' hI2=>try dsimp only
       ·exact⟨by omega,rfl⟩
       ·obtain⟨h1,h2⟩:=hI2
        by_cases hi:i<p.fr.length
        ·have l:(i:Int)<(p.fr.length:Int):=by omega
         have wi:=HE (i:=i) (by omega);have wo:IntKind.i64.wrap ((o:Int)+(i:Int))=((o+i:Nat):Int):=by rw[Am _ (by omega)];omega
         obtain⟨k,hk⟩:∃k,(o+i)%p.fr.length=k:=⟨_,rfl⟩
         have ε:k<p.fr.length:=by rw[←hk];exact Nat.mod_lt _ (by omega)
         have J:(k:Int)<(p.fr.length:Int):=by omega
         have U:((o+i:Nat):Int).tmod (p.fr.length:Int)=(k:Int):=by rw[Int.tmod_eq_emod_of_nonneg (by omega),←hk];rfl
         have β:¬((p.fr.length:Int)=0):=by omega
         have t:=Vh p.fr o i;rw[h2,hk]at t;simp only[]at t;obtain⟨r,hr⟩:∃r,p.fr[k]?.getD (true,[])=r:=⟨_,rfl⟩
         have r2:=hp.len k;rw[hr]at t r2
         by_cases hz:r.2.length=0
         ·rw[if_pos hz]at t;have M:¬(0:Int)<(r.2.length:Int):=by omega
          refine' P4 @FF @BD @Bc @BR l hi wi (aI wo (aI U (aI β (aI ε (aI J (aI hr M))))))
          all_goals first|omega|rfl|exact t|exact .inl True.intro
         ·rw[if_neg hz]at t;rw[Tf t _ (by omega)]at j;simp only[]at j;rw[hr]at j;rw[j];have M:(0:Int)<(r.2.length:Int):=by omega
          have y:0<r.2.length:=by omega
          have ρ:r.2≠[]:=by intro e;rw[e]at y;simp at y
          have ι:(p.bl.set b (-1)).set b (r.2[0]?.getD 0)=p.bl.set b (r.2[0]?.getD 0):=List.set_set ..;have B:=Ok p.fr k r.1 (r.2.drop 1);have Z:=io p.bl b (r.2[0]?.getD 0);refine' P4 @FF @BD @Bc @BR l hi wi (aI wo (aI U (aI β (aI ε (aI J (aI hr (aI M (aI y (aI z (aI R (aI @RA (aI @Sn (aI ι (aI B (aI Z @List.length_set.{0})))))))))))))))
          all_goals first|omega|rfl|exact .inl True.intro
        ·have l:¬(i:Int)<(p.fr.length:Int):=by omega
         have N:i=p.fr.length:=by omega
         rw[←N,h2]at j;simp only[]at j;rw[j];refine' LV @FF l η
         all_goals first|omega|rfl|exact .inl True.intro
end Go.Pw
end
section
open Go Go.Pw Go.Proofs
namespace Go.Pw
set_option maxRecDepth 100000
set_option maxHeartbeats 12800000
theorem ui{l:List Int}{s:Int}(h:s∉l):Ek (l.map fun x=>(x,(1:Int))) s=(l++[s]).map fun x=>(x,(1:Int)):=by
 induction l with
 |nil=>rfl
 |cons y l ih =>
  have h1:s≠y:=fun e=>h (e▸hY ..)
  have h2:s∉l:=fun e=>h (i5 _ e)
  simp only[c8,Ek,if_neg h1,ih h2,List.cons_append]
theorem vf{l:List Int}{s:Int}(h:s∉l):C2 (l.map fun x=>(x,(1:Int))) s=0:=by
 induction l with
 |nil=>rfl
 |cons y l ih =>
  have h1:s≠y:=fun e=>h (e▸hY ..)
  have h2:s∉l:=fun e=>h (i5 _ e)
  simp only[c8,C2,if_neg h1,ih h2]
theorem we{l:List Int}{lo hi:Int}(h:US l lo hi=true){i:Nat}(e:i<l.length):R9 l lo hi i=true:=by
 unfold US at h;exact kk.1 h i (List.mem_range.2 e)
theorem rj{l:List Int}{lo hi:Int}(h:US l lo hi=true):∀(j i:Nat),i<j->j<l.length->l[i]?.getD 0<l[j]?.getD 0
 |j+1,i,h1,h2=>by
  have a:=we h h2;simp only[R9,Bool.and_eq_true,Bool.or_eq_true,decide_eq_true_eq,Nat.add_sub_cancel]at a;have b:l[j]?.getD 0<l[j+1]?.getD 0:=by omega
  by_cases e:i=j
  ·subst e;exact b
  ·have:=rj h j i (by omega) (by omega);omega
theorem mZ{l:List Int}{lo hi:Int}(h:US l lo hi=true){i:Nat}(h2:i<l.length):l[i]?.getD 0∉l.take i:=fun hm=>by
 obtain⟨p,hp,e⟩:=cp hm;rw[ck]at hp;have:=rj h i p (by omega) h2;rw[ax (show p<l.length by omega),ay]at this;rw[List.getElem_take]at e;omega
theorem uz(gv:List (Int×Int))(s:Int)(h:C2 gv s=0):T0 (.int .i64 s) (.int .i64 1) (Tc gv)=Tc (Ek gv s):=by
 have:=(p0 gv s).1;rw[h]at this;exact this
theorem Vg(l:List Fr)(b:Bool)(x:List Int):K5 l++[.list b (Ad x)]=K5 (l++[(b,x)]):=by simp[K5]
theorem zJ(f:B9)(n:Nat):Wu f n++[((HN f n).isEmpty,(HN f n).drop (Zb f n))]=Wu f (n+1):=by simp[Wu,List.range_succ]
theorem Vi(f:B9)(n:Nat):(Wu f n).length=n:=by simp[Wu]
theorem WC(f:B9)(k:Nat):TI f (k+1)=TI f k++(HN f k).take (Zb f k):=rfl
theorem Uf(pr:List Int)(a:Int)(n:Nat):MZ pr a (n+1)=if C2 (pr.map fun x=>(x,1)) (a+n)=0 then MZ pr a n++[a+n]else MZ pr a n:=rfl
theorem Oj(pr:List Int)(a:Int):∀n,(MZ pr a n).length<=n
 |0=>cw _
 |n+1=>by have:=Oj pr a n;rw[Uf];split<;>simp<;>omega
theorem WD{f:B9}(h:f.d.ok=true):∀k,k<=f.d.zones.length->(TI f k).length<=k*1280
 |0,_=>by simp[TI]
 |k+1,hk=>by
  have h1:=WD h k (by omega);have e:=SN h k (by omega);have hs:IH f.d (k+1)=IH f.d k+f.d.heads*(f.d.zones[k]?.getD default).1*(f.d.zones[k]?.getD default).2:=rfl;have h2:(HN f k).length<=(IH f.d (k+1)-IH f.d k).toNat:=Oj ..;rw[WC,ea,ck];omega
theorem uh{b:Bool}{B x:List Int}(h:b=B.isEmpty):(b && x.isEmpty)=(B++x).isEmpty:=by rw[h];cases B<;>simp
def y4(f:B9)(p:Z1):List (Nat×Nat×AY) :=
 [(24,0,.cells [.d (.int .i64 f.d.heads),.d (.int .i64 f.d.turn),.d (.list f.d.zn (HF f.d.zones)),.d (.int .i64 f.d.hskew),.d (.int .i64 f.d.cskew),.d (.int .i64 f.d.hlo),.d (.int .i64 f.d.hhi),.d (.int .i64 f.d.clo),.d (.int .i64 f.d.chi),.d (.int .i64 f.sp),.d (.list f.np (Ad f.pr)),.d (.list f.ng (BO f.gr)),.own 80 0,.own 92 0,.map 22 0]),
  (80,0,.row 3 1 p.bl.isEmpty (Ad p.bl)),(92,0,.row 29 1 false (K5 p.fr)),(22,0,.map TP (Tc p.gv))]
attribute [local irreducible] IntKind.wrap Ah hU and or
theorem xK(f:B9)(h:f.Base)(hm:f.gr.any (fun x=>!E1 f x)=false)(ν:f.gr.length<=12)(hd:f.gr.Pairwise fun a b=>a.id≠b.id)
  (s1 s2:List BK) (o:s1.Perm f.gr) (η:s1.Pairwise fun a b=>a.id<b.id) (z:s2.Perm s1) (μ:s2.Pairwise fun a b=>a.st<b.st) (ι:∀n,n<=s2.length->xd f (HG f s2 n)) :
  Eg E0 SH [] [.d (HX f)] (y4 f (HG f s2 s2.length)) (.tup [.ptr 24 0 0,.d (.int .i64 0)]):=by
 have gd:=FQ h.d;have χ:=gd.z2;have υ:=gd.z1;have ψ:=h.gl;have ω:=h.pl;have τ:=h.sp;have cK:=EZ f h hd;rw[hm,if_neg (by simp),Aj,Ao]at cK;have cZ:=ND f h.d (.list true []) (.list true []) (.map TP (Tc (N2 f).gv));have O:decide (f.d.zones.length=0)=false:=decide_eq_false (by omega);rw[O]at cZ;have J:flat [(f.ng,f.gr)]=f.gr:=by simp[flat]
 have cC:=Nx false [(f.ng,f.gr)] (by simp) (by rw[J];omega) (by rw[J];exact hd);rw[J]at cC;change BU E0 _ [.list false [.list f.ng (BO f.gr)]] _ at cC;refine BW Vw AR (by simp) (by simp[I_,CG,Cr]) (by simp[Fh]) fun hwf hwo=>?_
 rw[Bh];unfold PG;refine' FS @Aj @Ao;repeat' first|(refine' BJ;(first|refine AF cK ?_)<;>refine' FS @Aj @Ao)|refine' BI|done
 all_goals try exact BL
 refine AZ (α:=Nat×(List (Int×Int))) (fun x=>[(28,.d (.int .i64 (x.1:Int)))]) (fun x=>[(22,.map TP (Tc x.2))]) (fun x=>x.1<=f.pr.length/\x.2=(f.pr.take x.1).map (fun x=>(x,1))) (fun x=>f.pr.length-x.1) (0,[]) ?hI1 ?step1
 case' step1=>(rintro⟨i,gv⟩ hI;try dsimp only at hI)
 case' hI1=>try dsimp only
 ·exact⟨by omega,rfl⟩
 ·obtain⟨h1,h2⟩:=hI
  by_cases hi:i<f.pr.length
  ·have j:(i:Int)<(f.pr.length:Int):=by omega
   have M:=HE (i:=i) (by omega);have A:=mZ h.pr hi
   have Y:f.pr.take (i+1)=f.pr.take i++[f.pr[i]?.getD 0]:=by
    rw[List.take_succ,ax hi,ay];rfl
   obtain⟨s,hs⟩:∃s,f.pr[i]?.getD 0=s:=⟨_,rfl⟩
   rw[hs]at A Y;have l:C2 gv s=0:=by rw[h2];exact vf A
   have g1:=ZA (gv:=gv) (s:=s) (fun q hq=>by
    rw[h2]at hq;obtain⟨y,_,rfl⟩:=az.1 hq;exact Int.le_refl _) l
   have g2:=uz gv s l;have g3:Ek gv s=(f.pr.take (i+1)).map (fun x=>(x,1)):=by rw[h2,ui A,Y]
   have t1:=eD s;have w1:IntKind.i64.wrap 1=1:=Am _ (by omega);refine' P4 j hi M hs g1 g2 t1 w1
   all_goals first|omega|rfl|exact .inl True.intro|exact g3
  ·have j:¬(i:Int)<(f.pr.length:Int):=by omega
   have r:i=f.pr.length:=by omega
   rw[r,List.take_length]at h2;subst h2
   (try(simp -implicitDefEqProofs only[go_sem,j,N2,Ai,Dj]));repeat' first|(with_reducible first|exact tI|refine aI ?_ ?_|intro _)|((first|with_reducible refine GK ?_ ?_<;>intro _|(with_reducible refine isCall ?_);first|refine Un (cZ) (by simp[Cr]) (by first|exact primL_ints _|exact primL_map (fun _=>rfl) _|exact Iv _|exact primL_zps _|simp[MA,D.cells,D.prim]) ?_)<;>try(simp -implicitDefEqProofs only[go_sem,j,N2,Ai,Dj]))|simp (disch:=omega)only[Jb]|((with_reducible refine b9 ?_);refine⟨(_,_),rfl,?_,?_⟩)
   all_goals try exact BL
   refine BN (α:=Nat×(List Int)×(List Fr)×Bool×Bool) (l0:=?l2) (m0:=?m2) (fun x=>[(43,.d (.int .i64 (x.1:Int)))]) (fun x=>[(80,.row 3 1 x.2.2.2.1 (Ad x.2.1)),(92,.row 29 1 x.2.2.2.2 (K5 x.2.2.1))]) (fun x=>(x.1<=f.d.zones.length/\x.2.1=TI f x.1/\x.2.2.1=Wu f x.1)/\x.2.2.2.1=x.2.1.isEmpty/\x.2.2.2.2=decide (x.1=0)) (fun x=>f.d.zones.length-x.1) (0,[],[],true,true) ?h02 ?he2 ?he22 ?hI2 ?step2
   case h02=>(simp -implicitDefEqProofs only[go_sem,Ai,Dj];rfl)
   case he2=>rfl
   case he22=>rfl
   case' step2=>(rintro⟨i,B,F,b1,b2⟩ hI2;try dsimp only at hI2)
   case' hI2=>try dsimp only
   ·exact⟨⟨by omega,rfl,rfl⟩,rfl,rfl⟩
   ·obtain⟨⟨h1,h2,h3⟩,h4,h5⟩:=hI2
    by_cases hi:i<f.d.zones.length
    ·have j:(i:Int)<(f.d.zones.length:Int):=by omega
     have M:=HE (i:=i) (by omega);have hg:=aB (d:=f.d) hi;have κ:=Uw h.d i (by omega);have ζ:=Uw h.d (i+1) (by omega);have θ:=SN h.d i hi;have G:HN f i=MZ f.pr (IH f.d i) (IH f.d (i+1)-IH f.d i).toNat:=rfl;have ρ:Zb f i=(max 0 (((HN f i).length:Int)-f.sp)).toNat:=rfl;have γ:=WC f i;have β:=zJ f i;have σ:=WD h.d i h1;rw[←h2]at σ;have t:IH f.d (i+1)=IH f.d i+f.d.heads*(f.d.zones[i]?.getD default).1*(f.d.zones[i]?.getD default).2:=rfl;obtain⟨m,hm⟩:∃m,f.d.heads*(f.d.zones[i]?.getD default).1*(f.d.zones[i]?.getD default).2=m:=⟨_,rfl⟩
     rw[hm]at θ t;obtain⟨N,hN⟩:∃N:Nat,(IH f.d (i+1)-IH f.d i).toNat=N:=⟨_,rfl⟩
     rw[hN]at G;obtain⟨a,ha⟩:∃a,IH f.d i=a:=⟨_,rfl⟩
     obtain⟨e,he⟩:∃e,IH f.d (i+1)=e:=⟨_,rfl⟩
     rw[ha,he]at hg t;rw[ha]at κ G;rw[he]at ζ;rw[ha,he]at hN;refine' P4 @Ai @Bm @Bg @EH @Dj j hi hg
     ·omega
     ·all_goals try exact BL
      refine AZ (α:=Int×(List Int)×Bool) (fun x=>[(11,.d (.int .i64 x.1))]) (fun x=>[(65,.row 3 1 x.2.2 (Ad x.2.1))]) (fun x=>((a<=x.1/\x.1<=e)/\x.2.1=MZ f.pr a (x.1-a).toNat)/\x.2.2=x.2.1.isEmpty) (fun x=>(e-x.1).toNat) (a,[],true) ?hI3 ?step3
      case' step3=>(rintro⟨s,out,b3⟩ hI3;try dsimp only at hI3)
      case' hI3=>try dsimp only
      ·exact⟨⟨⟨by omega,by omega⟩,by rw[Int.sub_self];rfl⟩,rfl⟩
      ·obtain⟨⟨⟨n0,n1⟩,n3⟩,n4⟩:=hI3;obtain⟨n,δ⟩:∃n:Nat,(s-a).toNat=n:=⟨_,rfl⟩
       have n2:a+(n:Int)=s:=by omega
       have L:(s+1-a).toNat=n+1:=by omega
       rw[δ]at n3;have U:=Oj f.pr a n;rw[←n3]at U;have p:=Uf f.pr a n;rw[←n3,n2]at p
       by_cases hn:n<N
       ·have u:s<e:=by omega
        have ws:IntKind.i64.wrap (s+1)=s+1:=Am _ (by omega)
        by_cases l:C2 (f.pr.map fun x=>(x,1)) s=0
        ·rw[if_pos l]at p
         have g1:=ZA (gv:=f.pr.map fun x=>(x,1)) (s:=s) (fun q hq=>by
          obtain⟨y,_,rfl⟩:=az.1 hq;exact Int.le_refl _) l
         have hsn:Ad out++[.int .i64 s]=Ad (out++[s]):=by simp[Ad]
         refine' bq u g1 ws hsn n4
         all_goals first|omega|rfl|exact .inl True.intro|exact(by rw[L];exact p.symm)|(simp;done)
        ·rw[if_neg l]at p
         have g1:C0 (.int .i64 s) (Tc (f.pr.map fun x=>(x,1)))=some (.int .i64 (C2 (f.pr.map fun x=>(x,1)) s)):=by
          rcases ip (f.pr.map fun x=>(x,1)) s with⟨_,h⟩|h
          ·exact absurd h l
          ·exact h
         refine' bq u g1 ws l n4
         all_goals first|omega|rfl|exact .inl True.intro|exact(by rw[L];exact n3.trans p.symm)|exact(by rw[L];exact p.symm)|(simp;done)
       ·have u:¬s<e:=by omega
        have hne:n=N:=by omega
        rw[hne,←G]at n3;rw[hne]at U;have Z:max 0 ((out.length:Int)-f.sp)=(Zb f i:Int):=by rw[ρ,n3];omega
        have wl:IntKind.i64.wrap ((out.length:Int)-f.sp)=(out.length:Int)-f.sp:=Am _ (by omega);refine' P4 u M wl Z n4 @Xx @Sn @Vg
        all_goals first|omega|rfl|exact .inl True.intro|(rw[γ,h2,n3];done)|(rw[←β,h3,n3];done)|exact uh h4|(rw[BD,h3,Vi];omega)|(rw[ck];omega)
    ·have j:¬(i:Int)<(f.d.zones.length:Int):=by omega
     have r:i=f.d.zones.length:=by omega
     rw[r]at h2 h3 h5;rw[O]at h5;subst h4 h5 h2 h3
     by_cases h0:0<f.gr.length
     ·have cM:=fun c=>MW f.gr s1 c h0 ν (fun x hx=>by
       have:=la.1 hm x hx;simp only[Bool.not_eq_true',Bool.not_eq_false]at this
       have:=(HW.1 this).1;omega) o η
      have t:∀x,x∈s1->0<=x.st/\x.st<=1000000:=fun x hx=>by
       have:=la.1 hm x (o.mem_iff.1 hx);simp only[Bool.not_eq_true',Bool.not_eq_false]at this;have:=(HW.1 this).2.1;omega
      have cS:=me s1 s2 (by rw[o.length_eq];omega) (·.st) Fm JO (fun x y hx hy=>kw x y (t x hx) (t y hy)) z μ;have φ:s2.length=f.gr.length:=by rw[z.length_eq,o.length_eq]
      refine' FA j @A_ @JO;repeat' first|(refine' BJ;(first|refine AF cC ?_|refine Un (cM _) (by simp[Cr]) (by first|exact primL_ints _|exact primL_map (fun _=>rfl) _|exact Iv _|exact primL_zps _|simp[MA,D.cells,D.prim]) ?_|refine B_ ([((900000,0),(100,1))]) ([((900000,0),(100,1))]) (cS) ?_)<;>refine' FA j @A_ @JO)|refine' BI|done
      all_goals try exact BL
      refine BN (α:=Nat) (l0:=?l4) (m0:=?m4) (fun x=>[(105,.d (.int .i64 (x:Int)))]) (fun x=>[(80,.row 3 1 (HG f s2 x).bl.isEmpty (Ad (HG f s2 x).bl)),(92,.row 29 1 false (K5 (HG f s2 x).fr)),(22,.map TP (Tc (HG f s2 x).gv))]) (fun x=>x<=s2.length) (fun x=>s2.length-x) 0 ?h04 ?he4 ?he24 ?hI4 ?step4
      case h04=>(simp -implicitDefEqProofs only[go_sem,A_];rfl)
      case he4=>rfl
      case he24=>rfl
      case' step4=>(rintro i hI4;try dsimp only at hI4)
      case' hI4=>try dsimp only
      ·omega
      ·by_cases hi:i<s2.length
       ·have j:(i:Int)<(s2.length:Int):=by omega
        have M:=HE (i:=i) (by omega);have X:HG f s2 (i+1)=MY f.d (HG f s2 i) (s2[i]?.getD default).sec:=rfl;obtain⟨x,hx⟩:∃x,s2[i]?.getD default=x:=⟨_,rfl⟩
        rw[hx]at X;have cG:=ba f h.d (HG f s2 i) (ι i (by omega)) x.sec;rw[←X]at cG;simp only[FF]at cG;refine' EP j hi M @A_ @EI @El @Dx (aI @Dy hx);repeat' first|(refine' BJ;(first|refine B_ ([((900000,0),(24,0)),((901000,0),(80,0)),((902000,0),(92,0)),((903000,0),(22,0))]) ([((900000,0),(24,0)),((901000,0),(80,0)),((902000,0),(92,0)),((903000,0),(22,0))]) (cG) ?_)<;>refine' EP j hi M @A_ @EI @El @Dx (aI @Dy hx))|refine' BI|done
        all_goals first|omega|rfl|exact .inl True.intro
       ·have j:¬(i:Int)<(s2.length:Int):=by omega
        have r:i=s2.length:=by omega
        subst r
        (try(simp -implicitDefEqProofs only[go_sem,j,y4]));repeat' first|(with_reducible first|exact tI|refine aI ?_ ?_|intro _)|((first|with_reducible refine GK ?_ ?_<;>intro _)<;>try(simp -implicitDefEqProofs only[go_sem,j,y4]))|simp (disch:=omega)only[Jb]|((with_reducible refine il ?_);refine⟨(_,_,_,_,_),rfl,?_,?_⟩)|((with_reducible refine im ?_);refine⟨(_,_,_),rfl,?_,?_⟩)|((with_reducible refine b9 ?_);refine⟨(_,_),rfl,?_,?_⟩)|((with_reducible refine fY ?_);refine⟨_,rfl,?_,?_⟩)
        all_goals first|omega|rfl|exact .inl True.intro
     ·have R:f.gr=[]:=List.eq_nil_of_length_eq_zero (by omega);have e1:s1=[]:=by rw[R]at o;exact o.eq_nil
      have e2:s2=[]:=by rw[e1]at z;exact z.eq_nil
      subst e1 e2;have e3:Z8 f.gr=[]:=by rw[R];rfl
      rw[e3]at cC;have cM:=Sl (Nz f.gr);have cS:=Zt Fm;have ξ:HG f [] ([]:List BK).length=N2 f:=rfl;rw[ξ];refine' FA j @A_ @JO;repeat' first|(refine' BJ;(first|refine AF cC ?_|refine AF cM ?_|refine AF cS ?_)<;>refine' FA j @A_ @JO)|refine' BI|done
      all_goals try exact BL
      have T:¬((0:Nat):Int)<((0:Nat):Int):=by omega
      have S:¬(0:Int)<((0:Nat):Int):=by omega
      refine AZ (α:=Nat) (fun x=>[(105,.d (.int .i64 (x:Int)))]) (fun x=>[]) (fun x=>x<=0) (fun x=>1-x) 0 ?hI5 ?step5
      case' step5=>(rintro i hI5;try dsimp only at hI5)
      case' hI5=>try dsimp only
      ·exact cw _
      ·have ε:i=0:=by omega
       subst ε
       (try(simp -implicitDefEqProofs only[go_sem,T,S,y4]));repeat' first|(with_reducible first|exact tI|refine aI ?_ ?_|intro _)|((first|with_reducible refine GK ?_ ?_<;>intro _)<;>try(simp -implicitDefEqProofs only[go_sem,T,S,y4]))|simp (disch:=omega)only[Jb]|((with_reducible refine il ?_);refine⟨(_,_,_,_,_),rfl,?_,?_⟩)|((with_reducible refine im ?_);refine⟨(_,_,_),rfl,?_,?_⟩)|((with_reducible refine b9 ?_);refine⟨(_,_),rfl,?_,?_⟩)|((with_reducible refine fY ?_);refine⟨_,rfl,?_,?_⟩)
       all_goals first|omega|rfl|exact .inl True.intro
end Go.Pw
end
