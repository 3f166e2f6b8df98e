/- Part. -/
import Derived.Test.YtmdklgapccickaaGreatDoorPgMvS
import Derived.Test.YtmdklgapccickaaGreatDoorPgMvcHx
import Derived.Test.YtmdklgapccickaaGreatDoorPgMvChrJ
import Derived.Test.YtmdklgapccickaaGreatDoorMvTy
set_option linter.all false
open Option renaming getD_some->aa,getD->cw,map_some->c8
open Nat renaming zero_le->ax
open List renaming getElem?_eq_getElem->ay,length->az,length_eq_zero_iff->ck,length_map->cp
open Go Go.Pw Go.Proofs
namespace Go.Pw
set_option maxRecDepth 100000
set_option maxHeartbeats 12800000
section
theorem AAD{c:Ag}(h:c.ok=true){d:List Int}(i:aG c d=0):ao c.L c.P c.Q d=0/\Wf c d=Mv c (Z6 c.L c.P c.Q d)/\Ap (Wf c d)=true:=by
 have hs:ao c.L c.P c.Q d=0:=by
  unfold aG at i;rw[if_pos h]at i
  by_cases e:ao c.L c.P c.Q d=0
  ·exact e
  ·rw[if_neg e]at i;omega
 have j:Wf c d=Mv c (Z6 c.L c.P c.Q d):=by unfold Wf;rw[if_pos h,if_pos hs]
 exact⟨hs,j,by rw[j];exact n8 (J5 h) _⟩
theorem bW{c:Ag}(h:c.ok=true){d:List Int}(e:aG c d=0)(ht:c.tot<=1000){g:Nat}{A:List Int}(hb:Ap A=true)(j:(A.length:Int)<=XA c)(hg:c.mark.length+g+A.length<=c.tot) :
  kJ c (ej (Wf c d) (c.mark.length+g) A A.length)=.tup [.list d.isEmpty (Ad d),.int .i64 0,.int .i64 0]:=by
 obtain⟨h1,h2,m⟩:=AAD h e;obtain⟨hl,_⟩:=xA h e
 have l:Pz (ej (Wf c d) (c.mark.length+g) A A.length)=true:=by
  unfold Pz;rw[bM m _ hb _ (Nat.le_refl _) (by omega),OW,hl,decide_eq_true ht];rfl
 obtain⟨e1,e2,i⟩:=Yr (J5 h) h1 (S:=Wf c d) h2 j hg rfl;rw[tU h l e1,e2,i,if_pos rfl];rfl
def wrF(c:Ag)(r:Fr):Fr:=(false,Wf c r.2)
theorem eJ{l:List Fr}{n:Nat}(h:n<l.length):l.take n++[l[n]?.getD (true,[])]=l.take (n+1):=by
 rw[List.take_succ,ay h,aa];rfl
theorem vG{f:B9}(h:(HX f).NOK):(f.d.zn=true->f.d.zones=[])/\(f.np=true->f.pr=[]):=by
 have h1:=h (.list f.d.zn (HF f.d.zones)) (by simp[f7]);have h2:=h (.list f.np (Ad f.pr)) (by simp[f7]);refine⟨fun e=>?_,fun e=>?_⟩
 ·have i:HF f.d.zones=[]:=h1 e;have:=congrArg az i;rw[Ai]at this;exact ck.1 this
 ·have i:Ad f.pr=[]:=h2 e;have:=congrArg az i;rw[Bq]at this;exact ck.1 this
attribute [local irreducible] IntKind.wrap Ah cw and or
theorem Zs(c:Ag)(f:B9)(n1 n2 n3:Bool)(rows:List Fr)(S:List Int)(fr:Int)(A:List Int) :
  BU E0 N8 [IU c,HX f,.agg [.list n1 (K5 rows),.list n2 (Ad S),.int .i64 fr,.list n3 (Ad A)]] (.bool true):=by
 refine Yw fun ζ=>?_
 obtain⟨hzn,hnp⟩:=vG (ζ (HX f) (by simp));clear ζ;have cF:=Wq c;have cC:=L8 c;have cL:=Ws f;have cA:=Qo n3 A;have cS:=eO
 have hE:RL c=0->c.ok=true:=fun h=>by
  unfold RL at h;by_cases e:c.ok=true
  ·exact e
  ·rw[if_neg e]at h;omega
 obtain⟨fa,hfa⟩:∃fa,zR c=fa:=⟨_,rfl⟩
 obtain⟨e,he⟩:∃e,RL c=e:=⟨_,rfl⟩
 obtain⟨fl,hfl⟩:∃fl,qc f=fl:=⟨_,rfl⟩
 obtain⟨rA,σ⟩:∃rA,Pz A=rA:=⟨_,rfl⟩
 rw[he]at cC hE;rw[hfa]at cF;rw[hfl,Aj,Ao]at cL;rw[σ]at cA;refine AL Sr AR (by simp) fun ψ=>?_
 rw[AN];unfold MB
 by_cases hg:f.gr=[]
 case neg =>
  have J:(0:Int)<(f.gr.length:Int):=by have:=List.length_pos_iff.2 hg;omega
  refine' QX @Ab @Aa @Aj @Ao @A_ J;repeat' first|(refine' BJ;(first|refine AF cF ?_|refine AF cC ?_|refine AF cL ?_|refine AF cS ?_)<;>refine' QX @Ab @Aa @Aj @Ao @A_ J)|refine' BI|done
  all_goals first|rfl
 have J:BO f.gr=[]:=by rw[hg];rfl
 have cK:=T7 f hg;obtain⟨k3,χ⟩:∃k3,dS f=k3:=⟨_,rfl⟩
 rw[χ,Aj,Ao,J]at cK;rw[J]at cL;refine' QX @Ab @Aa @Aj @Ao J @BD;repeat' first|(refine' BJ;(first|refine AF cF ?_|refine AF cC ?_|refine AF cL ?_|refine AF cK ?_|refine AF cA ?_|refine AF cS ?_)<;>refine' QX @Ab @Aa @Aj @Ao J @BD)|refine' BI|done
 have hok:=hE ‹e=0›;have hk:=J5 hok;have hb:=wY (f:=f) (by rw[χ];exact ‹k3=0›) hg;have hN4:rows.length<=4:=by omega
 have hS8:S.length<=8:=by omega
 have hA2:A.length<=200:=by omega
 have hAb:Ap A=true:=by
  have h:=‹rA=true›;rw[←σ]at h;unfold Pz at h;rw[Bool.and_eq_true]at h;exact h.2
 have hz0:f.d.zn=false:=by
  cases h:f.d.zn with
  |false=>rfl
  |true =>
   have h1:=(FQ hb.d).z1;rw[hzn h]at h1;simp at h1
 have hm:=hk.markl;have ω:=Ir hk.code;have hql:=hk.ql
 have hq0:0<=c.Q*c.L:=by
  have:=YR hk.wev;exact Int.mul_nonneg (by omega) (by omega)
 have hsy:c.syms=(c.Q*c.L).toNat:=rfl;have η:c.syms<=32:=by omega
 have hts:c.syms*c.code.sz<=32*20:=Nat.mul_le_mul η ω.2;have τ:c.tot=c.mark.length+c.syms*c.code.sz:=rfl;have ξ:c.tot<=1000:=by omega
 obtain⟨g,hgr⟩:∃g:Nat,fr=(g:Int):=⟨fr.toNat,by omega⟩
 subst hgr;have hg1:g<=1000:=by omega
 have cB:=dw hb hg;rw[Aj,Ao,J]at cB;obtain⟨mN,hmN⟩:∃m,(N2 f).bl.length=m:=⟨_,rfl⟩
 rw[hmN]at cB;have cU:=R4 c;rw[(P2 hok).2,show jG c=XA c by unfold jG;rw[if_pos hok]]at cU;have hbd:=wO hk;have cT:=T3 c hk.wev hk.code (by omega);have key:=fun d (he:aG c d=0) h1 h2=>bW hok he ξ (g:=g) hAb h1 h2
 have key0:=fun d (he:aG c d=0)=>bW hok he ξ (g:=0) (A:=[]) rfl (by simp;omega) (by simp;omega)
 have wlen:=fun d (he:aG c d=0)=>(xA hok he).1
 have hW:∀d,aG c d=0\/aG c d=51:=fun d=>by
  unfold aG;rw[if_pos hok];split
  ·exact .inl rfl
  ·exact .inr rfl
 obtain⟨n,hn⟩:∃n,XA c=n:=⟨_,rfl⟩
 rw[hn]at cU hbd key;obtain⟨tt,htt⟩:∃tt,c.tot=tt:=⟨_,rfl⟩
 rw[htt]at cT τ ξ key wlen;have w4:IntKind.i64.wrap ((tt:Int)-(c.mark.length:Int))=((tt-c.mark.length:Nat):Int):=by rw[Am _ (by omega)];omega
 have w5:IntKind.i64.wrap ((g:Int)+(A.length:Int))=((g+A.length:Nat):Int):=by rw[Am _ (by omega)];omega
 clear cF cC cL cA cK hE;refine' FA @BD w4 w5;repeat' first|(refine' BJ;(first|refine AF cB ?_|refine AF cU ?_|refine AF cT ?_|refine AF cS ?_)<;>refine' FA @BD w4 w5)|refine' BI|done
 have hrM:rows.length<=mN:=by omega
 have hAn:(A.length:Int)<=n:=by omega
 have hgA:c.mark.length+g+A.length<=tt:=by omega
 have key:=fun d he=>key d he hAn hgA
 refine AZ (α:=Nat×(List Fr)×Bool) (fun x=>[(12,.d (.int .i64 (x.1:Int)))]) (fun x=>[(171,.row 29 1 x.2.2 (K5 x.2.1))]) (fun x=>(x.1<=rows.length/\x.2.1=(rows.take x.1).map (wrF c)/\∀k,k<x.1->aG c (rows[k]?.getD ((true,[]):Fr)).2=0)/\x.2.2=decide (x.1=0)) (fun x=>rows.length-x.1) (0,[],true) ?hI1 ?step1
 case' step1=>(rintro⟨b,B,b1⟩ hI;try dsimp only at hI)
 case' hI1=>try dsimp only
 ·exact⟨⟨ax _,rfl,fun k hk=>by omega⟩,rfl⟩
 ·obtain⟨⟨h1,h2,h3⟩,h4⟩:=hI
  by_cases hi:b<rows.length
  ·have p:(b:Int)<(rows.length:Int):=by omega
   have wi:=HE (i:=b) (by omega);obtain⟨r,hr⟩:∃r,rows[b]?.getD ((true,[]):Fr)=r:=⟨_,rfl⟩
   have cW:=G2 c r.1 r.2
   have ν:B++[wrF c r]=(rows.take (b+1)).map (wrF c):=by
    rw[←eJ hi,List.map_append,←h2,hr];rfl
   have y:B.length=b:=by rw[h2,cp,List.length_take];omega
   rcases hW r.2 with Y|Y
   ·have hl:=wlen r.2 Y;have ψ:wrF c r=(false,Wf c r.2):=rfl;rw[ψ]at ν;obtain⟨W,κ⟩:∃W,Wf c r.2=W:=⟨_,rfl⟩
    rw[κ]at cW hl ν
    have z:W.isEmpty=false:=by
     cases W with
     |nil=>simp at hl;omega
     |cons x l=>rfl
    rw[Y,z]at cW
    have υ:∀k,k<b+1->aG c (rows[k]?.getD ((true,[]):Fr)).2=0:=fun k hk=>by
     by_cases e:k=b
     ·rw[e,hr];exact Y
     ·exact h3 k (by omega)
    refine' EP @BD @Bc @BR p hi hr wi (aI @Vg (aI hl h4));repeat' first|(refine' BJ;(first|refine AF cW ?_|refine AF cT ?_)<;>refine' EP @BD @Bc @BR p hi hr wi (aI @Vg (aI hl h4)))|refine' BI|done
    all_goals first|omega|rfl|exact .inl True.intro|exact ν|exact υ _ (by assumption)
   ·rw[Y]at cW;refine' mt @BD @Bc @BR p hi hr h4;repeat' first|(refine' BJ;(first|refine AF cW ?_|refine AF cS ?_)<;>refine' mt @BD @Bc @BR p hi hr h4)|refine' BI|done
    all_goals first|omega|rfl|exact .inl True.intro
  ·have p:¬(b:Int)<(rows.length:Int):=by omega
   have hbe:b=rows.length:=by omega
   subst hbe;rw[List.take_length]at h2;have y:B.length=rows.length:=by rw[h2,cp]
   refine' LV @BD p h4;have hz:=(FQ hb.d).z1
   have φ:∀b,b<rows.length->B[b]?.getD ((true,[]):Fr)=(false,Wf c (rows[b]?.getD ((true,[]):Fr)).2):=fun b hb=>by
    rw[h2,List.getElem?_map,ay hb,c8,aa,aa];rfl
   refine AZ (α:=Nat×Bool) (fun x=>[(16,.d (.int .i64 (x.1:Int)))]) (fun x=>[(15,.cells [.d (.int .i64 f.d.heads),.d (.int .i64 f.d.turn),.d (.list f.d.zn (HF f.d.zones)),.d (.int .i64 f.d.hskew),.d (.int .i64 f.d.cskew),.d (.int .i64 f.d.hlo),.d (.int .i64 f.d.hhi),.d (.int .i64 f.d.clo),.d (.int .i64 f.d.chi),.d (.int .i64 f.sp),.d (.list f.np (Ad f.pr)),.d (.list x.2 (BO (Hv S x.1)))])]) (fun x=>x.1<=S.length/\∀k,k<x.1->0<=S[k]?.getD 0/\S[k]?.getD 0<f.d.size) (fun x=>S.length-x.1) (0,f.ng) ?hI2 ?step2
   case' step2=>(rintro⟨i,ng⟩ hI2;try dsimp only at hI2)
   case' hI2=>try dsimp only
   ·exact⟨ax _,fun k hk=>by omega⟩
   ·obtain⟨i1,i2⟩:=hI2
    by_cases hi:i<S.length
    ·have p:(i:Int)<(S.length:Int):=by omega
     have wi:=HE (i:=i) (by omega);obtain⟨s,hs⟩:∃s,S[i]?.getD 0=s:=⟨_,rfl⟩
     by_cases hv:0<=s/\s<f.d.size
     case neg =>
      have cM:=fP hb ng (S:=S) (n:=i) (by omega) i2 (by rw[hs];exact hv);rw[Aj,OY,hs]at cM;refine' FA p hi hs;repeat' first|(refine' BJ;(first|refine AF cM ?_|refine AF cS ?_)<;>refine' FA p hi hs)|refine' BI|done
      all_goals first|omega|rfl|exact .inl True.intro
     have cM:=kj hb hz0 hnp ng (S:=S) (n:=i) (by omega) i2 (by rw[hs];exact hv);rw[Aj,Aj,OY,OY,hs]at cM;refine' FA p hi hs;repeat' first|(refine' BJ;(first|refine AF cM ?_)<;>refine' FA p hi hs)|refine' BI|done
     all_goals try exact BL
     have β:=Qr hb (n:=i) (S:=S) fun k hk=>(i2 k hk).1
     have ρ:=fun b ι=>Uz β.1 (by omega) s hv.1 b ι
     have hpl:NE f S (i+1)=MY f.d (NE f S i) s:=by rw[NE,hs]
     have i3:∀k,k<i+1->0<=S[k]?.getD 0/\S[k]?.getD 0<f.d.size:=fun k hk=>by
      by_cases e:k=i
      ·rw[e,hs];exact hv
      ·exact i2 k (by omega)
     have w6:IntKind.i64.wrap ((c.mark.length:Int)+(g:Int))=((c.mark.length+g:Nat):Int):=by rw[Am _ (by omega)];omega
     refine AZ (α:=Nat) (fun x=>[(19,.d (.int .i64 (x:Int)))]) (fun x=>[]) (fun x=>x<=rows.length) (fun x=>rows.length-x) 0 ?hI3 ?step3
     case' step3=>(rintro b hI3;try dsimp only at hI3)
     case' hI3=>try dsimp only
     ·omega
     ·by_cases q:b<rows.length
      ·have o:(b:Int)<(rows.length:Int):=by omega
       have O:=HE (i:=b) (by omega);obtain⟨m,j,nn,k,e1,e2,q1,q2,q3,q4,q5⟩:=ρ b (by rw[β.2];omega);have cX:=QU hb ng (S:=S) (n:=i) (by omega) i2 (b:Int);rw[e1,Aj,OY]at cX;have cY:=QU hb false (S:=S) (n:=i+1) (by omega) i3 (b:Int);rw[hpl,e2,Aj,OY]at cY;rcases q1 with hj|hj
       ·subst hj
        by_cases U:m=s
        case neg =>
         have ε:=q4 rfl U;subst ε;rcases q2 with hk|hk<;>subst hk
         ·refine' EP o q p hi hs U O @BD;repeat' first|(refine' BJ;(first|refine AF cX ?_|refine AF cY ?_)<;>refine' EP o q p hi hs U O @BD)|refine' BI|done
          all_goals first|omega|rfl|exact .inl True.intro
         ·refine' EP o q p hi hs U O @BD;repeat' first|(refine' BJ;(first|refine AF cX ?_|refine AF cY ?_)<;>refine' EP o q p hi hs U O @BD)|refine' BI|done
          all_goals first|omega|rfl|exact .inl True.intro
        subst U;obtain⟨r,hr⟩:∃r,rows[b]?.getD ((true,[]):Fr)=r:=⟨_,rfl⟩
        have N:=h3 b q;have u:=φ b q;rw[hr]at N u;have δ:=wlen r.2 N;have θ:=key r.2 N;have cV:=G2 c r.2.isEmpty r.2;have cE:=Gp r.2.isEmpty r.1 r.2 r.2;rw[decide_eq_true rfl]at cE;obtain⟨W,κ⟩:∃W,Wf c r.2=W:=⟨_,rfl⟩
        rw[κ]at u δ θ cV;have M:(W.length:Int)=(tt:Int):=by omega
        have z:W.isEmpty=false:=by
         cases W with
         |nil=>simp at δ;omega
         |cons x l=>rfl
        have T:¬W=[]:=fun e=>by rw[e]at z;cases z
        rw[N,z]at cV
        have γ:B.set b (false,W)=B:=by
         rw[←u];have hbB:b<B.length:=by omega
         rw[ay hbB,aa,List.set_getElem_self]
        rcases q2 with hk|hk
        ·have ε:=q5 rfl rfl hk;subst hk;refine' EP o q p hi hs hr @BD (aI @Bc (aI @BR (aI u (aI y (aI z (aI M T))))));repeat' first|(refine' BJ;(first|refine AF cX ?_|refine AF cY ?_)<;>refine' EP o q p hi hs hr @BD (aI @Bc (aI @BR (aI u (aI y (aI z (aI M T)))))))|refine' BI|done
         all_goals try exact BL
         refine AZ (α:=Nat×(List Int)) (fun x=>[(25,.d (.int .i64 (x.1:Int)))]) (fun x=>[(274,.row 3 1 false (Ad x.2))]) (fun x=>x.1<=A.length/\x.2=ej W (c.mark.length+g) A x.1) (fun x=>A.length-x.1) (0,W) ?hI4 ?step4
         case' step4=>(rintro⟨t,R⟩ hI4;try dsimp only at hI4)
         case' hI4=>try dsimp only
         ·exact⟨ax _,rfl⟩
         ·obtain⟨t1,t2⟩:=hI4;have X:R.length=tt:=by rw[t2,OW];exact δ
          by_cases ht:t<A.length
          ·have G:(t:Int)<(A.length:Int):=by omega
           have wt:=HE (i:=t) (by omega);have wu:IntKind.i64.wrap (((c.mark.length+g:Nat):Int)+(t:Int))=((c.mark.length+g+t:Nat):Int):=by rw[Am _ (by omega)];omega
           have hx:c.mark.length+g+t<R.length:=by omega
           have Z:R.set (c.mark.length+g+t) (Ah .xor .i64 (R[c.mark.length+g+t]?.getD 0) (A[t]?.getD 0))=ej W (c.mark.length+g) A (t+1):=by rw[t2];rfl
           refine' P4 @Ab @Aa G ht wt w6 wu (aI hx Z)
           all_goals try exact BL
           all_goals first|rfl
          ·have G:¬(t:Int)<(A.length:Int):=by omega
           have μ:t=A.length:=by omega
           subst μ;have cR:=Hb c false R;rw[t2,θ]at cR;rw[←t2]at cR;refine' EP G @BD @Bc @BR o q hr (aI M (aI X (aI @Ok (aI γ (aI O (aI ε y))))));repeat' first|(refine' BJ;(first|refine AF cR ?_|refine AF cE ?_|refine AF cV ?_)<;>refine' EP G @BD @Bc @BR o q hr (aI M (aI X (aI @Ok (aI γ (aI O (aI ε y)))))))|refine' BI|done
           all_goals first|omega|rfl|exact .inl True.intro
        ·subst hk;refine' EP o q p hi hs hr @BD (aI @Bc (aI @BR (aI u (aI y (aI z (aI M T))))));repeat' first|(refine' BJ;(first|refine AF cX ?_|refine AF cY ?_)<;>refine' EP o q p hi hs hr @BD (aI @Bc (aI @BR (aI u (aI y (aI z (aI M T)))))))|refine' BI|done
         all_goals try exact BL
         refine AZ (α:=Nat×(List Int)) (fun x=>[(25,.d (.int .i64 (x.1:Int)))]) (fun x=>[(274,.row 3 1 false (Ad x.2))]) (fun x=>x.1<=A.length/\x.2=ej W (c.mark.length+g) A x.1) (fun x=>A.length-x.1) (0,W) ?hI5 ?step5
         case' step5=>(rintro⟨t,R⟩ hI5;try dsimp only at hI5)
         case' hI5=>try dsimp only
         ·exact⟨ax _,rfl⟩
         ·obtain⟨t1,t2⟩:=hI5;have X:R.length=tt:=by rw[t2,OW];exact δ
          by_cases ht:t<A.length
          ·have G:(t:Int)<(A.length:Int):=by omega
           have wt:=HE (i:=t) (by omega);have wu:IntKind.i64.wrap (((c.mark.length+g:Nat):Int)+(t:Int))=((c.mark.length+g+t:Nat):Int):=by rw[Am _ (by omega)];omega
           have hx:c.mark.length+g+t<R.length:=by omega
           have Z:R.set (c.mark.length+g+t) (Ah .xor .i64 (R[c.mark.length+g+t]?.getD 0) (A[t]?.getD 0))=ej W (c.mark.length+g) A (t+1):=by rw[t2];rfl
           refine' P4 @Ab @Aa G ht wt w6 wu (aI hx Z)
           all_goals try exact BL
           all_goals first|rfl
          ·have G:¬(t:Int)<(A.length:Int):=by omega
           have μ:t=A.length:=by omega
           subst μ;have cR:=Hb c false R;rw[t2,θ]at cR;rw[←t2]at cR;refine' EP G @BD @Bc @BR o q hr (aI M (aI X (aI @Ok (aI γ (aI O y)))));repeat' first|(refine' BJ;(first|refine AF cR ?_|refine AF cE ?_)<;>refine' EP G @BD @Bc @BR o q hr (aI M (aI X (aI @Ok (aI γ (aI O y))))))|refine' BI|done
           all_goals first|omega|rfl|exact .inl True.intro
       ·have hk:=q3 hj;subst hj hk;refine' mt o q p hi hs O @BD;repeat' first|(refine' BJ;(first|refine AF cX ?_|refine AF cY ?_)<;>refine' mt o q p hi hs O @BD)|refine' BI|done
        all_goals first|omega|rfl|exact .inl True.intro
      ·have o:¬(b:Int)<(rows.length:Int):=by omega
       refine' LV o @BD wi
       all_goals first|omega|rfl|exact .inl True.intro|exact(i3 _ (by assumption)).1|exact(i3 _ (by assumption)).2
    ·have p:¬(i:Int)<(S.length:Int):=by omega
     refine' HM p;have hie:i=S.length:=by omega
     have β:=Qr hb (n:=i) (S:=S) fun k hk=>(i2 k hk).1
     have ρ:=fun b ι=>Uz β.1 (by omega) 0 (by omega) b ι
     refine AZ (α:=Nat) (fun x=>[(32,.d (.int .i64 (x:Int)))]) (fun x=>[]) (fun x=>x<=rows.length) (fun x=>rows.length-x) 0 ?hI6 ?step6
     case' step6=>(rintro b hI6;try dsimp only at hI6)
     case' hI6=>try dsimp only
     ·omega
     ·by_cases q:b<rows.length
      ·have o:(b:Int)<(rows.length:Int):=by omega
       have O:=HE (i:=b) (by omega);obtain⟨m,j,nn,k,e1,_,q1,_⟩:=ρ b (by rw[β.2];omega);have cX:=QU hb ng (S:=S) (n:=i) (by omega) i2 (b:Int);rw[e1,Aj,OY]at cX;obtain⟨r,hr⟩:∃r,rows[b]?.getD ((true,[]):Fr)=r:=⟨_,rfl⟩
       have N:=h3 b q;have u:=φ b q;rw[hr]at N u;have hk0:kJ c (Wf c r.2)=_:=key0 r.2 N;have cR:=Hb c false (Wf c r.2);rw[hk0]at cR;have cE:=Gp r.2.isEmpty r.1 r.2 r.2;rw[decide_eq_true rfl]at cE;rcases q1 with hj|hj
       ·subst hj;refine' EP o q O hr @BD @Bc @BR (aI u y);repeat' first|(refine' BJ;(first|refine AF cX ?_|refine AF cR ?_|refine AF cE ?_)<;>refine' EP o q O hr @BD @Bc @BR (aI u y))|refine' BI|done
        all_goals first|omega|rfl|exact .inl True.intro
       ·subst hj;refine' EP o q O hr @BD @Bc @BR (aI u y);repeat' first|(refine' BJ;(first|refine AF cX ?_)<;>refine' EP o q O hr @BD @Bc @BR (aI u y))|refine' BI|done
        all_goals first|omega|rfl|exact .inl True.intro
      ·have o:¬(b:Int)<(rows.length:Int):=by omega
       refine' FS o @BD;repeat' first|(refine' BJ;(first|refine AF cS ?_)<;>refine' FS o @BD)|refine' BI|done
       all_goals first|omega|rfl|exact .inl True.intro
end
def zpT:Ty:=.str [.int .i64,.int .i64]
def xX:Ty:=.str [.int .i64,.int .i64,.list (.str [.int .i64,.int .i64]),.int .i64,.int .i64,.str [.int .i64,.int .i64],.str [.int .i64,.int .i64]]
def AA_:Ty:=.str [.int .i64,.int .i64,.int .i64]
def zP:Ty:=.str [xX,.int .i64,.list (.int .i64),.list AA_]
def yt:Ty:=.str [.list (.list (.int .i64)),.list (.int .i64),.int .i64,.list (.int .i64)]
theorem U2{cs:List D}(h:Ck zpT cs):∃a b,cs=[.int .i64 a,.int .i64 b]:=by
 obtain⟨_,_,e1,h1,h⟩:=Az h;obtain⟨_,_,e2,h2,h⟩:=Az h;obtain rfl:=Fq h;obtain⟨n1,rfl⟩:=Bw h1;obtain⟨n2,rfl⟩:=Bw h2;subst e2;exact⟨n1,n2,e1⟩
theorem aQ{cs:List D}(h:Ck xX cs):∃s,cs=i_ s:=by
 obtain⟨_,_,e1,h1,h⟩:=Az h;obtain⟨_,_,e2,h2,h⟩:=Az h;obtain⟨_,_,i,r,h⟩:=Az h;obtain⟨_,_,e,j,h⟩:=Az h;obtain⟨_,_,q,l,h⟩:=Az h;obtain⟨_,_,o,n,h⟩:=Az h;obtain⟨_,_,p,m,h⟩:=Az h;obtain rfl:=Fq h;obtain⟨n1,rfl⟩:=Bw h1;obtain⟨n2,rfl⟩:=Bw h2;obtain⟨nw,w,rfl⟩:=Pn z_ (fun cs h=>by obtain⟨a,b,rfl⟩:=U2 h;exact⟨(a,b),rfl⟩) r;obtain⟨n4,rfl⟩:=Bw j;obtain⟨n5,rfl⟩:=Bw l;obtain⟨a,b,rfl⟩:=U2 n;obtain⟨c,d,rfl⟩:=U2 m;subst p o q e i e2;exact⟨⟨n1,n2,nw,w,n4,n5,a,b,c,d⟩,e1⟩
theorem jc{cs:List D}(h:Ck AA_ cs):∃x:BK,cs=gU x:=by
 obtain⟨_,_,e1,h1,h⟩:=Az h;obtain⟨_,_,e2,h2,h⟩:=Az h;obtain⟨_,_,e,i,h⟩:=Az h;obtain rfl:=Fq h;obtain⟨n1,rfl⟩:=Bw h1;obtain⟨n2,rfl⟩:=Bw h2;obtain⟨n3,rfl⟩:=Bw i;subst e e2;exact⟨⟨n1,n2,n3⟩,e1⟩
theorem eC{x:D}(h:TK zP x):∃f,x=HX f:=by
 obtain⟨h,hx⟩:=h;obtain⟨_,_,e1,h1,h⟩:=Az h;obtain⟨_,_,e2,h2,h⟩:=Az h;obtain⟨_,_,i,l,h⟩:=Az h;obtain⟨_,_,e,j,h⟩:=Az h;obtain rfl:=Fq h;obtain⟨d,rfl⟩:=aQ h1;obtain⟨sp,rfl⟩:=Bw h2;obtain⟨np,pr,rfl⟩:=Iq l;obtain⟨ng,gr,rfl⟩:=Pn EJ (fun cs h=>by obtain⟨x,rfl⟩:=jc h;exact⟨x,rfl⟩) j;subst e i e2;rw[e1]at hx;exact⟨⟨d,sp,np,pr,ng,gr⟩,hx⟩
theorem eB{x:D}(h:TK yt x):∃(n1:Bool) (rows:List Fr) (n2:Bool) (S:List Int) (fr:Int) (n3:Bool) (A:List Int),x=.agg [.list n1 (K5 rows),.list n2 (Ad S),.int .i64 fr,.list n3 (Ad A)]:=by
 obtain⟨h,hx⟩:=h;obtain⟨_,_,e1,h1,h⟩:=Az h;obtain⟨_,_,e2,h2,h⟩:=Az h;obtain⟨_,_,i,l,h⟩:=Az h;obtain⟨_,_,e,j,h⟩:=Az h;obtain rfl:=Fq h;obtain⟨n1,rows,rfl⟩:=Pm h1;obtain⟨n2,S,rfl⟩:=Iq h2;obtain⟨fr,rfl⟩:=Bw l;obtain⟨n3,A,rfl⟩:=Iq j;subst e i e2;rw[e1]at hx;exact⟨n1,rows,n2,S,fr,n3,A,hx⟩
end Go.Pw
