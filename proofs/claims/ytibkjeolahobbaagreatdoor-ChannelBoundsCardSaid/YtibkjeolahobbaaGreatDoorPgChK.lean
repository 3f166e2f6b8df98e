/- A part of the proof. -/
import Derived.Test.YtibkjeolahobbaaGreatDoorPgChI
import Derived.Test.YtibkjeolahobbaaGreatDoorPgChrN
import Derived.Test.YtibkjeolahobbaaGreatDoorPgChrPh2
set_option linter.all false
open Go Go.Pw Go.Proofs
namespace Go.Pw
set_option maxRecDepth 100000
set_option maxHeartbeats 3200000
section
def gn (c:AX):Nat->Int
 |0=>(c.mark.length:Int)
 |n+1=>min (gn c n) (QD c (n+1))
def Pm (c:AX):Int:=if c.ok=true then gn c (c.tot-1) else 0
def eN (c:AU) (a:Nat) (l:Int):Nat->Int
 |0=>l
 |b+1=>min (eN c a l b) (CM (c.stm a) (c.stm b))
def Xh (c:AU):Nat->Int
 |0=>(c.sz:Int)
 |a+1=>eN c a (Xh c a) a
def Q5 (c:AX):Int:=if c.ok=true then Xh c.code 16 else 0
def oB (c:AX):Int:=if c.Q*(c.P/2)=0 then 0 else if c.Q*c.L<=c.Q*(c.P/2) then ((c.syms*c.code.sz:Nat):Int) else (c.Q*(c.P/2)-1)*c.code.sz+1
def Rl (c:AX):Int:=if c.ok=true then oB c else 0
theorem lT {L P Q:Int}(h:Cv L P Q=true):0<=Q*(P/2)/\Q*(P/2)<=32:=by
 have hb:=QX h
 have h1:0<=P/2/\P/2<=4:=by omega
 obtain⟨q,rfl⟩:∃q:Nat,Q=(q:Int):=⟨Q.toNat,by omega⟩
 obtain⟨p,hp⟩:∃p:Nat,P/2=(p:Int):=⟨(P/2).toNat,by omega⟩
 rw[hp] at h1 ⊢
 have h2:q*p<=8*4:=Nat.mul_le_mul (by omega) (by omega)
 have h3:(q:Int)*(p:Int)=((q*p:Nat):Int):=by push_cast;rfl
 rw[h3];omega
attribute [local congr] Bf A9 A_ Aq Bg Ax Az Ay Ap Aj Ad AZ Au Ae Av BK BO BM BN BL BP BE Ah Aw Ai BC BW Ag BI BJ BD BF BH BG BA BB A8 Bj A' Ar Af
attribute [local irreducible] IntKind.wrap A4 Option.getD and or
theorem IC (c:AX):B' E0 KK [Dn c] (.tup [.int .i64 (Pm c),.int .i64 (IP c)]):=by
 have c1:=DI c
 obtain⟨r,hr⟩:∃r,b8 c=r:=⟨_,rfl⟩
 rw[hr] at c1
 refine AO Nz An (by simp) fun hwf=>?_
 rw[AW];unfold I5 Pm
 rcases hok:c.ok with _|_
 ·have:=GK hok
  rw[hr] at this
  rw[this.1,this.2] at c1
  rw[this.2]
  (try (simp -implicitDefEqProofs only[go_sem,AH,AG]));repeat' first|(with_reducible first|exact tI|refine aI ?_ ?_|intro _)|((first|with_reducible refine AN ?_ ?_<;>intro _|(with_reducible refine isCall ?_);first|refine AE c1 ?_)<;>try (simp -implicitDefEqProofs only[go_sem,AH,AG]))|simp (disch:=omega) only[Al]|((with_reducible refine BS ?_);refine⟨(_,_,_),rfl,?_,?_⟩)
  all_goals first|rfl|skip
 ·have:=Gt hok
  have hk:=Df hok
  rw[hr] at this
  rw[this.1,this.2] at c1
  rw[this.2]
  have hm:=hk.markl
  have ht:=hk.tot
  have cB:=Ex c hk.wev hk.code
  have w0:IntKind.i64.wrap ((c.mark.length:Int)+((c.syms*c.code.sz:Nat):Int))=((c.tot:Nat):Int):=by rw[Aa _ (by omega)];unfold AX.tot;omega
  have ht1:1<=c.tot:=by unfold AX.tot;omega
  simp only[if_true]
  (try (simp -implicitDefEqProofs only[go_sem,AH,AG,BU]));repeat' first|(with_reducible first|exact tI|refine aI ?_ ?_|intro _)|((first|with_reducible refine AN ?_ ?_<;>intro _|(with_reducible refine isCall ?_);first|refine AE c1 ?_)<;>try (simp -implicitDefEqProofs only[go_sem,AH,AG,BU]))|simp (disch:=omega) only[Al]|((with_reducible refine BS ?_);refine⟨(_,_,_),rfl,?_,?_⟩)
  all_goals first|omega|(simp;done)|(simp;omega)|skip
  refine AY (α:=Nat×Int×Int) (l0:=?l1) (m0:=?m1) (fun x=>[(7,.d (.int .i64 x.2.1)),(6,.d (.int .i64 x.2.2))]) (fun x=>[]) (fun x=>x.1<=c.tot-1/\x.2.1=((x.1+1:Nat):Int)/\x.2.2=gn c x.1) (fun x=>c.tot-1-x.1) (0,1,(c.mark.length:Int)) ?h01 ?he1 ?he21 ?hI1 ?step1
  case h01=>(simp -implicitDefEqProofs only[go_sem];rfl)
  case he1=>rfl
  case he21=>rfl
  case' step1=>(rintro⟨k,t,n⟩ hI;try dsimp only at hI)
  case' hI1=>try dsimp only
  ·exact⟨Nat.zero_le _,rfl,rfl⟩
  ·obtain⟨k1,k2,k3⟩:=hI
   change t=((k+1:Nat):Int) at k2
   change n=gn c k at k3
   subst k2
   by_cases hkt:k+1<c.tot
   ·have hk':((k+1:Nat):Int)<((c.tot:Nat):Int):=by omega
    have cA:=N_ c hk (k+1) (by omega)
    have hwk:IntKind.i64.wrap (((k+1:Nat):Int)+1)=((k+1+1:Nat):Int):=by rw[Aa _ (by omega)];omega
    have hmm:min n (QD c (k+1))=gn c (k+1):=by rw[k3];rfl
    (try (simp -implicitDefEqProofs only[go_sem,BU,w0,hk',hwk,hmm]));repeat' first|(with_reducible first|exact tI|refine aI ?_ ?_|intro _)|((first|with_reducible refine AN ?_ ?_<;>intro _|(with_reducible refine isCall ?_);first|refine AE cB ?_|refine AE cA ?_)<;>try (simp -implicitDefEqProofs only[go_sem,BU,w0,hk',hwk,hmm]))|simp (disch:=omega) only[Al]|((with_reducible refine BS ?_);refine⟨(_,_,_),rfl,?_,?_⟩)
    all_goals first|omega|(simp;done)|(simp;omega)|skip
    exact⟨(k+1,_,_),rfl,⟨by show k+1<=c.tot-1;omega,rfl,rfl⟩,by show c.tot-1-(k+1)<c.tot-1-k;omega⟩
   ·have hk':¬((k+1:Nat):Int)<((c.tot:Nat):Int):=by omega
    have hke:k=c.tot-1:=by omega
    subst hke
    rw[k3]
    (try (simp -implicitDefEqProofs only[go_sem,BU,w0,hk']));repeat' first|(with_reducible first|exact tI|refine aI ?_ ?_|intro _)|((first|with_reducible refine AN ?_ ?_<;>intro _|(with_reducible refine isCall ?_);first|refine AE cB ?_)<;>try (simp -implicitDefEqProofs only[go_sem,BU,w0,hk']))|simp (disch:=omega) only[Al]|((with_reducible refine BS ?_);refine⟨(_,_,_),rfl,?_,?_⟩)
    all_goals first|omega|(simp;done)|(simp;omega)|skip
    all_goals first|rfl|skip
theorem PF (c:AX):B' E0 La [Dn c] (.tup [.int .i64 (Q5 c),.int .i64 (IP c)]):=by
 have c1:=DI c
 obtain⟨r,hr⟩:∃r,b8 c=r:=⟨_,rfl⟩
 rw[hr] at c1
 refine AO O' An (by simp) fun hwf=>?_
 rw[AW];unfold J4 Q5
 rcases hok:c.ok with _|_
 ·have:=GK hok
  rw[hr] at this
  rw[this.1,this.2] at c1
  rw[this.2]
  (try (simp -implicitDefEqProofs only[go_sem,AH,AG]));repeat' first|(with_reducible first|exact tI|refine aI ?_ ?_|intro _)|((first|with_reducible refine AN ?_ ?_<;>intro _|(with_reducible refine isCall ?_);first|refine AE c1 ?_)<;>try (simp -implicitDefEqProofs only[go_sem,AH,AG]))|simp (disch:=omega) only[Al]|((with_reducible refine Ab ?_);refine⟨(_,_),rfl,?_,?_⟩)
  all_goals first|rfl|skip
 ·have:=Gt hok
  have hk:=Df hok
  rw[hr] at this
  rw[this.1,this.2] at c1
  rw[this.2]
  have cL:=D3 c
  have h28:=ND c.code
  have h16:=OY c.code
  have hz:=Ef hk.code
  simp only[if_true]
  (try (simp -implicitDefEqProofs only[go_sem,AH,AG,BU,h28,h16]));repeat' first|(with_reducible first|exact tI|refine aI ?_ ?_|intro _)|((first|with_reducible refine AN ?_ ?_<;>intro _|(with_reducible refine isCall ?_);first|refine AE c1 ?_|refine AE cL ?_)<;>try (simp -implicitDefEqProofs only[go_sem,AH,AG,BU,h28,h16]))|simp (disch:=omega) only[Al]|((with_reducible refine Ab ?_);refine⟨(_,_),rfl,?_,?_⟩)
  all_goals first|omega|(simp;done)|(simp;omega)|skip
  refine AY (α:=Nat×Int) (l0:=?l2) (m0:=?m2) (fun x=>[(25,.d (.int .i64 (x.1:Int))),(6,.d (.int .i64 x.2))]) (fun x=>[]) (fun x=>x.1<=16/\x.2=Xh c.code x.1) (fun x=>16-x.1) (0,(c.code.sz:Int)) ?h02 ?he2 ?he22 ?hI2 ?step2
  case h02=>(simp -implicitDefEqProofs only[go_sem];rfl)
  case he2=>rfl
  case he22=>rfl
  case' step2=>(rintro⟨s,n⟩ hI;try dsimp only at hI)
  case' hI2=>try dsimp only
  ·exact⟨Nat.zero_le _,rfl⟩
  ·obtain⟨s1,s2⟩:=hI
   change n=Xh c.code s at s2
   by_cases hs:s<16
   ·have hs':(s:Int)<16:=by omega
    have hg:=KZ c.code hs
    have hws:IntKind.i64.wrap ((s:Int)+1)=((s+1:Nat):Int):=by rw[Aa _ (by omega)];omega
    have htl:((FP c.code).take s).length=s:=by rw[List.length_take];omega
    have hsi:(s:Int)<=16:=by omega
    (try (simp -implicitDefEqProofs only[go_sem,BU,hs',hg,h28,hsi,htl]));repeat' first|(with_reducible first|exact tI|refine aI ?_ ?_|intro _)|((first|with_reducible refine AN ?_ ?_<;>intro _)<;>try (simp -implicitDefEqProofs only[go_sem,BU,hs',hg,h28,hsi,htl]))|simp (disch:=omega) only[Al]|((with_reducible refine Ab ?_);refine⟨(_,_),rfl,?_,?_⟩)
    all_goals first|omega|(simp;done)|(simp;omega)|skip
    refine AY (α:=Nat×Int) (l0:=?l3) (m0:=?m3) (fun x=>[(35,.d (.int .i64 (x.1:Int))),(6,.d (.int .i64 x.2))]) (fun x=>[]) (fun x=>x.1<=s/\x.2=eN c.code s (Xh c.code s) x.1) (fun x=>s-x.1) (0,n) ?h03 ?he3 ?he23 ?hI3 ?step3
    case h03=>(simp -implicitDefEqProofs only[go_sem];rfl)
    case he3=>rfl
    case he23=>rfl
    case' step3=>(rintro⟨b,m⟩ hI2;try dsimp only at hI2)
    case' hI3=>try dsimp only
    ·exact⟨Nat.zero_le _,s2⟩
    ·obtain⟨b1,b2⟩:=hI2
     change m=eN c.code s (Xh c.code s) b at b2
     by_cases hb:b<s
     ·have hb':(b:Int)<(s:Int):=by omega
      have hgb:((FP c.code).take s)[b]?=some (.list false (Am (c.code.stm b))):=by rw[List.getElem?_take_of_lt hb];exact KZ c.code (by omega)
      have hwb:IntKind.i64.wrap ((b:Int)+1)=((b+1:Nat):Int):=by rw[Aa _ (by omega)];omega
      have l1:=FN c.code s
      have l2:=FN c.code b
      have cD:=De false false (c.code.stm s) (c.code.stm b) (NG ..) (NG ..) (by omega) (by omega)
      obtain⟨dv,hdv⟩:∃dv,CM (c.code.stm s) (c.code.stm b)=dv:=⟨_,rfl⟩
      rw[hdv] at cD
      have hmm:min m dv=eN c.code s (Xh c.code s) (b+1):=by rw[b2,←hdv];rfl
      (try (simp -implicitDefEqProofs only[go_sem,hb',hb,hgb,hwb,htl,hmm]));repeat' first|(with_reducible first|exact tI|refine aI ?_ ?_|intro _)|((first|with_reducible refine AN ?_ ?_<;>intro _|(with_reducible refine isCall ?_);first|refine AE cD ?_)<;>try (simp -implicitDefEqProofs only[go_sem,hb',hb,hgb,hwb,htl,hmm]))|simp (disch:=omega) only[Al]|((with_reducible refine Ab ?_);refine⟨(_,_),rfl,?_,?_⟩)
      all_goals first|omega|(simp;done)|(simp;omega)|skip
      all_goals skip
     ·have hb':¬(b:Int)<(s:Int):=by omega
      have hbe:b=s:=by omega
      subst hbe
      (try (simp -implicitDefEqProofs only[go_sem,hb',hws]));repeat' first|(with_reducible first|exact tI|refine aI ?_ ?_|intro _)|((first|with_reducible refine AN ?_ ?_<;>intro _)<;>try (simp -implicitDefEqProofs only[go_sem,hb',hws]))|simp (disch:=omega) only[Al]|((with_reducible refine Ab ?_);refine⟨(_,_),rfl,?_,?_⟩)
      all_goals first|omega|(simp;done)|(simp;omega)|skip
      all_goals first|exact b2|skip
   ·have hs':¬(s:Int)<16:=by omega
    have hse:s=16:=by omega
    subst hse
    rw[s2]
    (try (simp -implicitDefEqProofs only[go_sem,hs']));repeat' first|(with_reducible first|exact tI|refine aI ?_ ?_|intro _)|((first|with_reducible refine AN ?_ ?_<;>intro _)<;>try (simp -implicitDefEqProofs only[go_sem,hs']))|simp (disch:=omega) only[Al]|((with_reducible refine Ab ?_);refine⟨(_,_),rfl,?_,?_⟩)
    all_goals first|omega|(simp;done)|(simp;omega)|skip
    all_goals first|rfl|skip
theorem N' (c:AX):B' E0 KJ [Dn c] (.tup [.int .i64 (Rl c),.int .i64 (IP c)]):=by
 have c1:=DI c
 obtain⟨r,hr⟩:∃r,b8 c=r:=⟨_,rfl⟩
 rw[hr] at c1
 refine AO Ny An (by simp) fun hwf=>?_
 rw[AW];unfold I4 Rl
 rcases hok:c.ok with _|_
 ·have:=GK hok
  rw[hr] at this
  rw[this.1,this.2] at c1
  rw[this.2]
  (try (simp -implicitDefEqProofs only[go_sem,AH,AG]));repeat' first|(with_reducible first|exact tI|refine aI ?_ ?_|intro _)|((first|with_reducible refine AN ?_ ?_<;>intro _|(with_reducible refine isCall ?_);first|refine AE c1 ?_)<;>try (simp -implicitDefEqProofs only[go_sem,AH,AG]))|simp (disch:=omega) only[Al]
  all_goals first|rfl|skip
 ·have:=Gt hok
  have hk:=Df hok
  rw[hr] at this
  rw[this.1,this.2] at c1
  rw[this.2]
  have cL:=D3 c
  have cB:=Ex c hk.wev hk.code
  have cS:=Du c (FP c.code) hk.wev
  have hz:=Ef hk.code
  have hb:=QX hk.wev
  have hqp:=lT hk.wev
  have w1:IntKind.i64.wrap (c.P.tdiv 2)=c.P/2:=by rw[Int.tdiv_eq_ediv_of_nonneg (by omega)];exact Aa _ (by omega)
  have w2:IntKind.i64.wrap (c.Q*(c.P/2))=c.Q*(c.P/2):=Aa _ (by omega)
  simp only[if_true]
  unfold oB
  obtain⟨h,hh⟩:∃h,c.Q*(c.P/2)=h:=⟨_,rfl⟩
  rw[hh] at w2 hqp ⊢
  have hmul:(h-1)*(c.code.sz:Int)<=31*20:=by
   by_cases h0:0<=h-1
   ·exact Int.mul_le_mul (by omega) (by omega) (by omega) (by omega)
   ·have:h=0:=by omega
    subst this
    omega
  have hmul0:h≠0->0<=(h-1)*(c.code.sz:Int):=fun h0=>Int.mul_nonneg (by omega) (by omega)
  have w3:IntKind.i64.wrap (h-1)=h-1:=Aa _ (by omega)
  by_cases h0:h=0
  ·rw[if_pos h0]
   have w6:IntKind.i64.wrap 0=0:=Aa 0 (by omega)
   (try (simp -implicitDefEqProofs only[go_sem,AH,AG,BU,w1,w2,w6,hh,h0]));repeat' first|(with_reducible first|exact tI|refine aI ?_ ?_|intro _)|((first|with_reducible refine AN ?_ ?_<;>intro _|(with_reducible refine isCall ?_);first|refine AE c1 ?_)<;>try (simp -implicitDefEqProofs only[go_sem,AH,AG,BU,w1,w2,w6,hh,h0]))|simp (disch:=omega) only[Al]
   all_goals first|rfl|skip
  ·rw[if_neg h0]
   have w4:IntKind.i64.wrap ((h-1)*(c.code.sz:Int))=(h-1)*(c.code.sz:Int):=Aa _ (by have:=hmul0 h0;omega)
   have w5:IntKind.i64.wrap ((h-1)*(c.code.sz:Int)+1)=(h-1)*(c.code.sz:Int)+1:=Aa _ (by have:=hmul0 h0;omega)
   by_cases h1:c.Q*c.L<=h
   ·rw[if_pos h1]
    (try (simp -implicitDefEqProofs only[go_sem,AH,AG,BU,w1,w2,hh,h0,h1]));repeat' first|(with_reducible first|exact tI|refine aI ?_ ?_|intro _)|((first|with_reducible refine AN ?_ ?_<;>intro _|(with_reducible refine isCall ?_);first|refine AE c1 ?_|refine AE cL ?_|refine AE cB ?_|refine AE cS ?_)<;>try (simp -implicitDefEqProofs only[go_sem,AH,AG,BU,w1,w2,hh,h0,h1]))|simp (disch:=omega) only[Al]
    all_goals first|rfl|skip
   ·rw[if_neg h1]
    (try (simp -implicitDefEqProofs only[go_sem,AH,AG,BU,w1,w2,hh,h0,h1,w3,w4,w5]));repeat' first|(with_reducible first|exact tI|refine aI ?_ ?_|intro _)|((first|with_reducible refine AN ?_ ?_<;>intro _|(with_reducible refine isCall ?_);first|refine AE c1 ?_|refine AE cL ?_|refine AE cB ?_|refine AE cS ?_)<;>try (simp -implicitDefEqProofs only[go_sem,AH,AG,BU,w1,w2,hh,h0,h1,w3,w4,w5]))|simp (disch:=omega) only[Al]
    all_goals first|rfl|skip
end
def GN (f:Nat->Bool):Nat->Nat
 |0=>0
 |n+1=>GN f n+if f n then 1 else 0
theorem Yc (f:Nat->Bool):∀n,GN f n<=n
 |0=>Nat.le_refl _
 |n+1=>by have:=Yc f n;unfold GN;split<;>omega
theorem Ey {f g:Nat->Bool}:∀{n:Nat},(∀i,i<n->f i=g i)->GN f n=GN g n
 |0,_=>rfl
 |n+1,h=>by unfold GN;rw[Ey fun i hi=>h i (by omega),h n (by omega)]
theorem LJ {f:Nat->Bool}:∀{n:Nat},(∀i,i<n->f i=false)->GN f n=0
 |0,_=>rfl
 |n+1,h=>by unfold GN;rw[LJ fun i hi=>h i (by omega),h n (by omega)];rfl
theorem Ln (f:Nat->Bool) (a:Nat):∀b,GN f (a+b)=GN f a+GN (fun k=>f (a+k)) b
 |0=>rfl
 |b+1=>by
  show GN f (a+b)+(if f (a+b) then 1 else 0)=GN f a+(GN (fun k=>f (a+k)) b+if f (a+b) then 1 else 0)
  rw[Ln f a b,Nat.add_assoc]
theorem ZW {f f':Nat->Bool}{n lo g:Nat}(h:lo+g<=n) (h1:∀k,k<g->f' (lo+k)=false) (h2:∀i,i<n->i<lo\/lo+g<=i->f i=f' i) :
  GN f n=GN (fun k=>f (lo+k)) g+GN f' n:=by
 obtain⟨r,rfl⟩:∃r,n=lo+g+r:=⟨n-(lo+g),by omega⟩
 rw[Ln f (lo+g) r,Ln f lo g,Ln f' (lo+g) r,Ln f' lo g,LJ h1,Ey (f:=f) (g:=f') (n:=lo) fun i hi=>h2 i (by omega) (.inl hi),
  Ey (f:=fun k=>f (lo+g+k)) (g:=fun k=>f' (lo+g+k)) (n:=r) fun i hi=>h2 _ (by omega) (.inr (by omega))]
 omega
theorem UL:∀(g:Nat) (X Y:List Int) (j q:Nat),j+g<=X.length->q+g<=Y.length ->
  CM ((X.drop j).take g) (Y.drop q)=(GN (fun k=>decide (X[j+k]?.getD 0≠Y[q+k]?.getD 0)) g:Nat)
 |0,X,Y,j,q,_,_=>by rw[List.take_zero];rfl
 |g+1,X,Y,j,q,h1,h2=>by
  rw[List.drop_eq_getElem_cons (l:=X) (i:=j) (by omega),List.drop_eq_getElem_cons (l:=Y) (i:=q) (by omega),List.take_succ_cons]
  have ih:=UL g X Y (j+1) (q+1) (by omega) (by omega)
  have e1:X[j]?.getD 0=X[j]'(by omega):=by rw[List.getElem?_eq_getElem (by omega)];rfl
  have e2:Y[q]?.getD 0=Y[q]'(by omega):=by rw[List.getElem?_eq_getElem (by omega)];rfl
  rw[show g+1=1+g by omega,Ln _ 1 g]
  show (if X[j]=Y[q] then (0:Int) else 1)+CM _ _=_
  rw[ih]
  have e3:GN (fun k=>decide (X[j+k]?.getD 0≠Y[q+k]?.getD 0)) 1=if X[j]=Y[q] then 0 else 1:=by
   show 0+(if decide (X[j+0]?.getD 0≠Y[q+0]?.getD 0)=true then 1 else 0)=_
   rw[Nat.add_zero,Nat.add_zero,e1,e2]
   by_cases h:X[j]=Y[q]<;>simp[h]
  rw[e3,Ey (f:=fun k=>decide (X[j+(1+k)]?.getD 0≠Y[q+(1+k)]?.getD 0)) (g:=fun k=>decide (X[j+1+k]?.getD 0≠Y[q+1+k]?.getD 0)) fun k _=>by rw[show j+(1+k)=j+1+k by omega,show q+(1+k)=q+1+k by omega]]
  split<;>simp<;>omega
def T5 (f:Nat->Nat) (z:Nat):Nat->Nat
 |0=>z
 |n+1=>min (T5 f z n) (f n)
def Tj (f:Nat->Nat):Nat->Nat
 |0=>0
 |n+1=>Tj f n+f n
theorem RF (f:Nat->Nat) (z:Nat):∀n,T5 f z n<=z
 |0=>Nat.le_refl _
 |n+1=>by have:=RF f z n;unfold T5;omega
theorem I6 {f g:Nat->Nat}{z:Nat}:∀{n:Nat},(∀i,i<n->f i=g i)->T5 f z n=T5 g z n
 |0,_=>rfl
 |n+1,h=>by unfold T5;rw[I6 fun i hi=>h i (by omega),h n (by omega)]
theorem Oc {f g:Nat->Nat}:∀{n:Nat},(∀i,i<n->f i=g i)->Tj f n=Tj g n
 |0,_=>rfl
 |n+1,h=>by unfold Tj;rw[Oc fun i hi=>h i (by omega),h n (by omega)]
theorem Yy {f g:Nat->Nat}{s:Nat}:∀{n:Nat},s<n->(∀i,i<n->i≠s->f i=g i)->Tj f n+g s=Tj g n+f s
 |0,h,_=>by omega
 |n+1,h,h2=>by
  unfold Tj
  by_cases e:s=n
  ·subst e
   rw[Oc (f:=f) (g:=g) fun i hi=>h2 i (by omega) (by omega)];omega
  ·have:=Yy (n:=n) (by omega) fun i hi=>h2 i (by omega)
   rw[h2 n (by omega) fun e'=>e e'.symm];omega
theorem dE {f:Nat->Nat}{z:Nat}(h:∀i,f i<=z):∀n,Tj f n<=n*z
 |0=>by simp[Tj]
 |n+1=>by have:=dE h n;have:=h n;unfold Tj;rw[Nat.succ_mul];omega
def SH (c:AX) (a j t:Nat):Bool:=decide (j<=t) && (decide (a+t<c.mark.length) && decide (c.mark[a+t]?.getD 0≠c.mark[t]?.getD 0) || decide (c.tot<=a+t) && decide (c.mark[a+t-c.tot]?.getD 0≠c.mark[t]?.getD 0))
def wF (c:AX) (a j s y i:Nat):Bool:=decide (a+j<=c.mark.length+s*c.code.sz+i) && (decide (c.mark.length+s*c.code.sz+i<a+c.mark.length) && decide ((c.code.stm y)[i]?.getD 0≠c.mark[c.mark.length+s*c.code.sz+i-a]?.getD 0))
def HT (c:AX) (a j s:Nat):Nat:=T5 (fun y=>GN (wF c a j s y) c.code.sz) c.code.sz 16
def g9 (c:AX) (a j:Nat):Nat:=GN (SH c a j) c.mark.length+Tj (HT c a j) c.syms
theorem eh {c:AX}{rest:List Int}{part q:Nat}{f:Nat->Nat}(hf:∀y,CM (rest.take part) ((c.code.stm y).drop q)=(f y:Nat)):∀n,Wz c.code rest part q n=(T5 f part n:Nat)
 |0=>rfl
 |n+1=>by unfold Wz T5;rw[eh hf n,hf];omega
theorem ZO {f:Nat->Nat}{z z':Nat}(h:∀i,f i<=z) (hz:z<=z'):∀n,0<n->T5 f z' n=T5 f z n
 |0,h0=>by omega
 |1,_=>by have:=h 0;simp only[T5];omega
 |n+2,_=>by
  have:=ZO h hz (n+1) (by omega)
  show min (T5 f z' (n+1)) _=min (T5 f z (n+1)) _
  rw[this]
theorem jC (c:AX) (a:Nat):g9 c a c.mark.length=0:=by
 have h1:GN (SH c a c.mark.length) c.mark.length=0:=LJ fun t ht=>by
  unfold SH
  rw[decide_eq_false (by omega),Bool.false_and]
 have h2:∀s,HT c a c.mark.length s=0:=fun s=>by
  have h3:∀y,GN (wF c a c.mark.length s y) c.code.sz=0:=fun y=>LJ fun i hi=>by
   unfold wF
   by_cases h:a+c.mark.length<=c.mark.length+s*c.code.sz+i
   ·rw[decide_eq_true h,decide_eq_false (show ¬c.mark.length+s*c.code.sz+i<a+c.mark.length by omega),Bool.false_and,Bool.and_false]
   ·rw[decide_eq_false h,Bool.false_and]
  unfold HT
  rw[I6 (g:=fun _=>0) fun y _=>h3 y,ZO (z:=0) (fun _=>Nat.le_refl _) (Nat.zero_le _) 16 (by omega)]
  have:=RF (fun _=>0) 0 16
  omega
 unfold g9
 rw[h1]
 have h3:∀n,Tj (HT c a c.mark.length) n=0:=fun n=>by
  induction n with
  |zero=>rfl
  |succ n ih=>unfold Tj;rw[ih,h2]
 rw[h3]
theorem di {c:AX}{a j g p:Nat}(hm:c.mark.length<=c.tot) (ha:a<c.tot) (hp:(a+j)%c.tot=p) (hpm:p<c.mark.length) (hj:j<c.mark.length)
  (hg:g=min (c.mark.length-j) (c.mark.length-p)) (htot:c.tot=c.mark.length+c.syms*c.code.sz) :
  ((g9 c a j:Nat):Int)=CM ((c.mark.drop j).take g) (c.mark.drop p)+(g9 c a (j+g):Nat):=by
 have hcase:a+j=p\/a+j=p+c.tot:=by
  rcases Nat.lt_or_ge (a+j) c.tot with h|h
  ·rw[Nat.mod_eq_of_lt h] at hp;exact .inl hp
  ·rw[Nat.mod_eq_sub_mod h,Nat.mod_eq_of_lt (by omega)] at hp;exact .inr (by omega)
 have h1:GN (SH c a j) c.mark.length=GN (fun k=>SH c a j (j+k)) g+GN (SH c a (j+g)) c.mark.length:=by
  refine ZW (by omega) (fun k hk=>?_) fun i hi h=>?_
  ·unfold SH;rw[decide_eq_false (by omega),Bool.false_and]
  ·unfold SH
   rcases h with h|h
   ·rw[decide_eq_false (show ¬j<=i by omega),decide_eq_false (show ¬j+g<=i by omega)]
   ·rw[decide_eq_true (show j<=i by omega),decide_eq_true (show j+g<=i by omega)]
 have h2:∀k,k<g->SH c a j (j+k)=decide (c.mark[j+k]?.getD 0≠c.mark[p+k]?.getD 0):=fun k hk=>by
  unfold SH
  rw[decide_eq_true (show j<=j+k by omega),Bool.true_and]
  rcases hcase with h|h
  ·rw[decide_eq_true (show a+(j+k)<c.mark.length by omega),decide_eq_false (show ¬c.tot<=a+(j+k) by omega),Bool.true_and,Bool.false_and,Bool.or_false,show a+(j+k)=p+k by omega]
   exact decide_eq_decide.2 ⟨fun h e=>h e.symm,fun h e=>h e.symm⟩
  ·rw[decide_eq_false (show ¬a+(j+k)<c.mark.length by omega),decide_eq_true (show c.tot<=a+(j+k) by omega),Bool.true_and,Bool.false_and,Bool.false_or,show a+(j+k)-c.tot=p+k by omega]
   exact decide_eq_decide.2 ⟨fun h e=>h e.symm,fun h e=>h e.symm⟩
 have h3:∀s,s<c.syms->HT c a j s=HT c a (j+g) s:=fun s hs=>by
  have hs1:s*c.code.sz+c.code.sz<=c.syms*c.code.sz:=by rw[←Nat.succ_mul];exact Nat.mul_le_mul_right _ hs
  refine I6 fun y _=>Ey fun i hi=>?_
  have he:decide (a+j<=c.mark.length+s*c.code.sz+i)=decide (a+(j+g)<=c.mark.length+s*c.code.sz+i):=decide_eq_decide.2 ⟨fun h=>by rcases hcase with h'|h'<;>omega,fun h=>by omega⟩
  unfold wF
  rw[he]
 have h4:=UL g c.mark c.mark j p (by omega) (by omega)
 rw[h4]
 unfold g9
 rw[h1,Ey h2,Oc h3]
 push_cast;omega
theorem jB {c:AX}{a j g p:Nat}(hm:c.mark.length<=c.tot) (ha:a<c.tot) (hp:(a+j)%c.tot=p) (hpm:c.mark.length<=p) (hj:j<c.mark.length) (hz:0<c.code.sz)
  (hg:g=min (c.mark.length-j) (c.code.sz-(p-c.mark.length)%c.code.sz)) (htot:c.tot=c.mark.length+c.syms*c.code.sz) :
  ((g9 c a j:Nat):Int)=Wz c.code (c.mark.drop j) g ((p-c.mark.length)%c.code.sz) 16+(g9 c a (j+g):Nat):=by
 have hlt:a+j<c.tot:=by
  rcases Nat.lt_or_ge (a+j) c.tot with h|h
  ·exact h
  ·rw[Nat.mod_eq_sub_mod h,Nat.mod_eq_of_lt (by omega)] at hp;omega
 rw[Nat.mod_eq_of_lt hlt] at hp
 obtain⟨q,hq⟩:∃q,(p-c.mark.length)%c.code.sz=q:=⟨_,rfl⟩
 obtain⟨s0,hs0⟩:∃s0,(p-c.mark.length)/c.code.sz=s0:=⟨_,rfl⟩
 have hdm:s0*c.code.sz+q=p-c.mark.length:=by rw[←hs0,←hq,Nat.mul_comm];exact Nat.div_add_mod ..
 have hqz:q<c.code.sz:=by rw[←hq];exact Nat.mod_lt _ hz
 rw[hq] at hg ⊢
 have hs0l:s0<c.syms:=by
  rcases Nat.lt_or_ge s0 c.syms with h|h
  ·exact h
  ·have:=Nat.mul_le_mul_right c.code.sz h;omega
 have hs0e:s0*c.code.sz+c.code.sz<=c.syms*c.code.sz:=by rw[←Nat.succ_mul];exact Nat.mul_le_mul_right _ hs0l
 have h1:GN (SH c a j) c.mark.length=GN (SH c a (j+g)) c.mark.length:=Ey fun t ht=>by
  unfold SH
  by_cases h:j+g<=t
  ·rw[decide_eq_true h,decide_eq_true (show j<=t by omega)]
  ·rw[decide_eq_false h,Bool.false_and]
   by_cases h':j<=t
   ·rw[decide_eq_true h',decide_eq_false (show ¬a+t<c.mark.length by omega),decide_eq_false (show ¬c.tot<=a+t by omega)];rfl
   ·rw[decide_eq_false h'];rfl
 have h2:∀s,s<c.syms->s≠s0->HT c a j s=HT c a (j+g) s:=fun s hs hne=>by
  have hd:s*c.code.sz+c.code.sz<=s0*c.code.sz\/s0*c.code.sz+c.code.sz<=s*c.code.sz:=by
   rcases Nat.lt_or_gt_of_ne hne with h|h
   ·left;rw[←Nat.succ_mul];exact Nat.mul_le_mul_right _ h
   ·right;rw[←Nat.succ_mul];exact Nat.mul_le_mul_right _ h
  refine I6 fun y _=>Ey fun i hi=>?_
  have he:decide (a+j<=c.mark.length+s*c.code.sz+i)=decide (a+(j+g)<=c.mark.length+s*c.code.sz+i):=decide_eq_decide.2 ⟨fun h=>by rcases hd with hd|hd<;>omega,fun h=>by omega⟩
  unfold wF
  rw[he]
 have h3:∀y,GN (wF c a (j+g) s0 y) c.code.sz=0:=fun y=>LJ fun i hi=>by
  unfold wF
  by_cases h:a+(j+g)<=c.mark.length+s0*c.code.sz+i
  ·rw[decide_eq_false (show ¬c.mark.length+s0*c.code.sz+i<a+c.mark.length by omega),Bool.false_and,Bool.and_false]
  ·rw[decide_eq_false h,Bool.false_and]
 have h3':HT c a (j+g) s0=0:=by
  unfold HT
  rw[I6 (g:=fun _=>0) fun y _=>h3 y,ZO (z:=0) (fun _=>Nat.le_refl _) (Nat.zero_le _) 16 (by omega)]
  have:=RF (fun _=>0) 0 16
  omega
 have h4:∀y,CM ((c.mark.drop j).take g) ((c.code.stm y).drop q)=(GN (wF c a j s0 y) c.code.sz:Nat):=fun y=>by
  have hl:=FN c.code y
  rw[UL g c.mark (c.code.stm y) j q (by omega) (by omega)]
  have h5:GN (wF c a j s0 y) c.code.sz=GN (fun k=>wF c a j s0 y (q+k)) g+GN (wF c a (j+g) s0 y) c.code.sz:=by
   refine ZW (by omega) (fun k hk=>?_) fun i hi h=>?_
   ·unfold wF;rw[decide_eq_false (by omega),Bool.false_and]
   ·have hd:decide (a+j<=c.mark.length+s0*c.code.sz+i)=decide (a+(j+g)<=c.mark.length+s0*c.code.sz+i):=decide_eq_decide.2 ⟨fun h'=>by omega,fun h'=>by omega⟩
    unfold wF
    rw[hd]
  rw[h5,h3,Nat.add_zero,Ey (f:=fun k=>wF c a j s0 y (q+k)) (g:=fun k=>decide (c.mark[j+k]?.getD 0≠(c.code.stm y)[q+k]?.getD 0)) fun k hk=>?_]
  show wF c a j s0 y (q+k)=_
  unfold wF
  rw[decide_eq_true (show a+j<=c.mark.length+s0*c.code.sz+(q+k) by omega),decide_eq_true (show c.mark.length+s0*c.code.sz+(q+k)<a+c.mark.length by omega),Bool.true_and,Bool.true_and,show c.mark.length+s0*c.code.sz+(q+k)-a=j+k by omega]
  exact decide_eq_decide.2 ⟨fun h e=>h e.symm,fun h e=>h e.symm⟩
 have h6:Wz c.code (c.mark.drop j) g q 16=(HT c a j s0:Nat):=by
  rw[eh h4 16]
  unfold HT
  have h8:∀y,GN (wF c a j s0 y) c.code.sz<=g:=fun y=>by
   have:=Jd ((c.mark.drop j).take g) ((c.code.stm y).drop q)
   rw[h4,List.length_take] at this
   omega
  rw[ZO (z':=c.code.sz) h8 (by omega) 16 (by omega)]
 rw[h6]
 have h7:=Yy hs0l h2
 unfold g9
 rw[h1]
 rw[h3'] at h7
 push_cast;omega
theorem dl {c:AX}(hk:Gn c) {a:Nat}(ha:a<c.tot):∀(n j:Nat),j<=c.mark.length->c.mark.length<n+j->((g9 c a j:Nat):Int)=apW c n (a+j) (c.mark.drop j)
 |0,j,h1,h2=>by omega
 |n+1,j,h1,h2=>by
  have hz:=Ef hk.code
  have htot:c.tot=c.mark.length+c.syms*c.code.sz:=rfl
  unfold apW
  by_cases hj:j=c.mark.length
  ·subst hj
   rw[List.drop_length,if_pos rfl,jC];rfl
  ·have hne:c.mark.drop j≠[]:=fun e=>by
    have:=List.length_drop (i:=j) (l:=c.mark)
    rw[e] at this;simp at this;omega
   rw[if_neg hne]
   have hsp:=NH hk (a+j) hne
   rw[List.length_drop] at hsp
   obtain⟨g,hg⟩:∃g,IK c (a+j) (c.mark.drop j)=g:=⟨_,rfl⟩
   rw[hg] at hsp
   have ih:=dl hk ha n (j+g) (by omega) (by omega)
   rw[List.drop_drop,hg,Nat.add_assoc,←ih]
   have hg':=hg
   unfold IK at hg'
   rw[List.length_drop] at hg'
   unfold Pt
   rw[hg]
   by_cases hp:(a+j)%c.tot<c.mark.length
   ·rw[if_pos hp] at hg' ⊢
    exact di (by omega) ha rfl hp (by omega) hg'.symm htot
   ·rw[if_neg hp] at hg' ⊢
    exact jB (by omega) ha rfl (by omega) (by omega) (by omega) hg'.symm htot
theorem dk {c:AX}(hk:Gn c) {a:Nat}(ha:a<c.tot):((g9 c a 0:Nat):Int)=QD c a:=dl hk ha (c.mark.length+1) 0 (Nat.zero_le _) (by omega)
def L3 (f:Nat->Nat) (q:Nat):Nat->Nat->Nat
 |0,_=>0
 |i+1,k=>L3 f q i k+if i%q=k then f i else 0
def Qq (f:Nat->Nat) (q:Nat):Nat->Nat->Nat
 |0,_=>0
 |m+1,k=>Qq f q m k+f (m*q+k)
theorem WZ (f:Nat->Nat) {q k:Nat}(hk:k<q) (m:Nat):∀t,t<=q->L3 f q (m*q+t) k=L3 f q (m*q) k+if k<t then f (m*q+k) else 0
 |0,_=>by simp
 |t+1,h=>by
  have ih:=WZ f hk m t (by omega)
  show L3 f q (m*q+t) k+(if (m*q+t)%q=k then f (m*q+t) else 0)=_
  rw[ih,UK (show t<q by omega)]
  by_cases h1:t=k
  ·subst h1
   rw[if_pos rfl,if_neg (by omega),if_pos (by omega)];omega
  ·rw[if_neg h1]
   by_cases h2:k<t
   ·rw[if_pos h2,if_pos (by omega)];rfl
   ·rw[if_neg h2,if_neg (by omega)]
theorem UU (f:Nat->Nat) {q k:Nat}(hk:k<q):∀m,L3 f q (m*q) k=Qq f q m k
 |0=>by rw[Nat.zero_mul];rfl
 |m+1=>by
  rw[Nat.add_mul,Nat.one_mul,WZ f hk m q (Nat.le_refl q),if_pos hk,UU f hk m];rfl
theorem jA {f g h:Nat->Nat}{q m k:Nat}(hk:k<q) (e:∀i,i<m*q->f i=2*g i+h i):Qq f q m k=2*Qq g q m k+Qq h q m k:=by
 induction m with
 |zero=>rfl
 |succ m ih =>
  have h1:=ih fun i hi=>e i (by rw[Nat.add_mul];omega)
  have h2:=e (m*q+k) (S7 hk (by omega))
  show Qq f q m k+f (m*q+k)=2*(Qq g q m k+g (m*q+k))+(Qq h q m k+h (m*q+k))
  omega
theorem ZH (mB:Nat->Bool) {q:Nat}(k:Nat):∀i,(QL q k ((List.range i).filter mB)).length=L3 (fun i=>if mB i then 1 else 0) q i k
 |0=>rfl
 |i+1=>by
  have ih:=ZH mB (q:=q) k i
  rw[List.range_succ,List.filter_append]
  show _=L3 _ q i k+if i%q=k then (if mB i then 1 else 0) else 0
  rw[←ih]
  cases hm:mB i with
  |false=>simp[hm]
  |true =>
   simp only[List.filter_cons,hm,if_true,List.filter_nil]
   rw[Vk]
   by_cases h:i%q=k
   ·rw[if_pos h,if_pos h];simp
   ·rw[if_neg h,if_neg h];rfl
theorem ki {l q k:Nat}(hk:k<q) {a R:List F}{W:Nat->List F}{mB wB:Nat->Bool}(hw:∀j,j<l->(W k)[j]?.getD 0≠R[j*q+k]?.getD 0->mB (j*q+k)=false->wB (j*q+k)=true) :
  (SO l (W k) (DE l q k R) (QL q k ((List.range (l*q)).filter mB))).length<=Qq (fun i=>if wB i then 1 else 0) q l k:=by
 have hmk:∀j,j<l->(j∈QL q k ((List.range (l*q)).filter mB)↔mB (j*q+k)=true):=fun j hj=>by
  rw[jl hk,List.mem_filter,List.mem_range]
  exact⟨fun h=>h.2,fun h=>⟨S7 hk hj,h⟩⟩
 have hg:∀j,j<l->(DE l q k R)[j]?.getD 0=R[j*q+k]?.getD 0:=fun j hj=>Oq j hj
 generalize QL q k ((List.range (l*q)).filter mB)=mk at *
 generalize DE l q k R=b at *
 unfold SO
 have:∀m,m<=l->((List.range m).filter fun j=>decide ((W k)[j]?.getD 0≠b[j]?.getD 0) && !mk.contains j).length<=Qq (fun i=>if wB i then 1 else 0) q m k:=by
  intro m
  induction m with
  |zero=>intro _;exact Nat.le_refl 0
  |succ m ih =>
   intro hm
   have i1:=ih (by omega)
   rw[List.range_succ,List.filter_append,List.length_append]
   show _<=Qq (fun i=>if wB i then 1 else 0) q m k+(if wB (m*q+k) then 1 else 0)
   refine Nat.add_le_add i1 ?_
   by_cases hc:(decide ((W k)[m]?.getD 0≠b[m]?.getD 0) && !mk.contains m)=true
   ·have hc2:=hc
    simp only[Bool.and_eq_true,decide_eq_true_eq,Bool.not_eq_true',List.contains_eq_mem,decide_eq_false_iff_not] at hc2
    have h3:mB (m*q+k)=false:=by
     cases h:mB (m*q+k) with
     |false=>rfl
     |true=>exact absurd ((hmk m (by omega)).2 h) hc2.2
    have h4:=hw m (by omega) (by rw[←hg m (by omega)];exact hc2.1) h3
    rw[h4]
    simp only[List.filter_cons,hc,if_true,List.filter_nil]
    exact Nat.le_refl 1
   ·simp only[List.filter_cons,hc,List.filter_nil]
    exact Nat.zero_le _
 exact this l (Nat.le_refl l)
theorem Xk (mB:Nat->Bool) (n:Nat):cH n ((List.range n).filter mB) :=
 ⟨List.Pairwise.filter _ List.pairwise_lt_range,fun j hj=>by simpa using (List.mem_filter.1 hj).1⟩
theorem SJ {l p q:Nat}(hl:l<=15) (hpl:p<l) (hq:0<q) {d R:List F}(hd:d.length=(l-p)*q) (hR:R.length=l*q) {mB wB:Nat->Bool}
  (hw:∀i,i<l*q->(Zt l p q d)[i]?.getD 0≠R[i]?.getD 0->mB i=false->wB i=true) {fC:Nat->Nat}(hf:∀i,i<l*q->fC i=if mB i then 1 else if wB i then 2 else 0)
  (hk:∀k,k<q->L3 fC q (l*q) k<=p):fT l p q R ((List.range (l*q)).filter mB)=some d:=by
 refine SC hl hpl hq hd hR (Xk mB _) fun k hkq=>?_
 have h1:=hk k hkq
 rw[UU fC hkq] at h1
 rw[jA (g:=fun i=>if wB i && !mB i then 1 else 0) (h:=fun i=>if mB i then 1 else 0) hkq fun i hi=>by
  rw[hf i hi]
  cases mB i<;>cases wB i<;>rfl] at h1
 rw[ZH mB k,UU _ hkq]
 have h2:=ki (a:=[]) (wB:=fun i=>wB i && !mB i) (mB:=mB) (R:=R) (W:=fun k=>IQ p (DE (l-p) q k d)) (l:=l) hkq fun j hj hne hm=>by
  have hlt:=S7 hkq hj
  have h3:(Zt l p q d)[j*q+k]?.getD 0=(IQ p (DE (l-p) q k d))[j]?.getD 0:=by
   unfold Zt
   rw[Rn _ hlt,YT hkq,UK hkq]
  rw[hw (j*q+k) hlt (by rw[h3];exact hne) hm,hm];rfl
 omega
theorem WN:∀(xs ys:List Int),CM xs (xs++ys)=0
 |[],_=>by simp[CM]
 |x::xs,ys=>by rw[List.cons_append,CM,if_pos rfl,WN xs ys];rfl
theorem mu (mk:List Nat):nt (ni mk)=mk:=by
 unfold nt ni
 rw[List.map_map]
 exact List.map_id'' (fun x=>by simp) mk
theorem ZA (l:List Nat) (i:Nat) (h:i<l.length):(ni l)[i]?.getD 0=((l[i]?.getD 0:Nat):Int):=by simp[ni,h]
theorem Vj {m:Nat}{mk:List Nat}(h:cH m mk):EU (ni mk) (m:Int)=true:=Sz fun i hi=>by
 have hil:i<mk.length:=by simpa[ni] using hi
 unfold jo
 rw[decide_eq_true_eq,ZA _ _ hil,ZA _ _ (show i-1<mk.length by omega)]
 have h1:=h.lt (mk[i]?.getD 0) (by rw[List.getElem?_eq_getElem hil];exact List.getElem_mem hil)
 refine⟨by omega,by exact_mod_cast h1,fun h0=>?_⟩
 have h2:=(List.pairwise_iff_getElem.1 h.asc) (i-1) i (by omega) hil (by omega)
 rw[List.getElem?_eq_getElem hil,List.getElem?_eq_getElem (show i-1<mk.length by omega)]
 exact_mod_cast h2
theorem ib {c:AX}(hk:Gn c) {d:List Int}(he:spE c.L c.P c.Q d=0) :
  ∃(l p q:Nat) (e:List F),c.L=(l:Int)/\c.P=(p:Int)/\c.Q=(q:Int)/\2<=l/\l<=15/\1<=p/\p<=8/\p<l/\1<=q/\q<=8/\d=iv e/\e.length=(l-p)*q/\U7 c.L c.P c.Q d=iv (Zt l p q e)/\c.syms=l*q:=by
 obtain⟨l,p,q,h1,h2,h3,b1,b2,b3,b4,b5,b6,b7,hc⟩:=M9 hk.wev
 have hw:=hk.wev
 unfold spE at he
 rw[if_pos hw] at he
 have hs:CR d (c.Q*(c.L-c.P))=true:=by
  cases hs:CR d (c.Q*(c.L-c.P)) with
  |true=>rfl
  |false=>rw[hs] at he;simp at he
 obtain⟨hl,hf⟩:=Qf hs
 refine⟨l,p,q,fs d,h1,h2,h3,b1,b2,b3,b4,b5,b6,b7,hf.symm,?_,?_,?_⟩
 ·rw[X2]
  rw[h1,h2,h3,show ((l:Int)-(p:Int))=((l-p:Nat):Int) by omega] at hl
  exact T0 hl
 ·unfold U7
  rw[if_pos hw,if_pos hs,h1,h2,h3];rfl
 ·have:=hk.syms.2.2
  rw[h1,h3] at this
  have e:(q:Int)*(l:Int)=((l*q:Nat):Int):=by push_cast;exact Int.mul_comm ..
  rw[e] at this;omega
theorem nL (w:List F):∀x,x∈iv w->0<=x/\x<=15:=fun x hx=>by
 simp only[iv,List.mem_map] at hx
 obtain⟨a,_,rfl⟩:=hx
 exact TQ a
theorem o5 {c:AX}(hk:Gn c) {l p q:Nat}(h1:c.L=(l:Int)) (h2:c.P=(p:Int)) (h3:c.Q=(q:Int)) (hs:c.syms=l*q) {sy:List (Option Nat)}(hl:sy.length=c.syms) :
  aw c sy=oE (fT l p q (fs (Dh c.seed (Pe sy))) (g_ sy))/\b9 c sy=iv (oL (fT l p q (fs (Dh c.seed (Pe sy))) (g_ sy))):=by
 have hw:=hk.wev
 have hxl:(Dh c.seed (Pe sy)).length=c.syms:=by rw[Eg,Fr,hl]
 have hsy:CR (Dh c.seed (Pe sy)) (c.Q*c.L)=true:=by
  have:iv (fs (Dh c.seed (Pe sy)))=Dh c.seed (Pe sy):=ZM (by
   rw[List.all_eq_true]
   intro x hx
   have:=Kh _ _ x hx
   unfold KY;rw[decide_eq_true_eq];omega)
  rw[←this,cx,decide_eq_true_eq,X2,hxl]
  exact hk.syms.2.2.symm
 have hm:EU (ni (g_ sy)) ((Dh c.seed (Pe sy)).length:Int)=true:=by
  rw[hxl]
  refine Vj ⟨List.Pairwise.filter _ List.pairwise_lt_range,fun j hj=>?_⟩
  have:=(List.mem_filter.1 hj).1
  rw[List.mem_range] at this
  omega
 unfold aw b9 o7 oH
 rw[if_pos hw,if_pos hsy,if_pos hm,if_pos hw,if_pos hsy,if_pos hm,mu,h1,h2,h3,Int.toNat_natCast,Int.toNat_natCast,Int.toNat_natCast]
 exact⟨rfl,rfl⟩
theorem TV {c:AX}{R:List Int}{i:Nat}(h:i<c.syms):(c.syL R 0)[i]?.getD none=SA c.code (c.part R 0 i):=by
 simp[AX.syL,h]
theorem mQ {c:AX}{sy:List (Option Nat)}{B:List F}{i:Nat}(hi:i<sy.length) (hB:i<B.length) {s:Nat}(hs:sy[i]?.getD none=some s) (hx:(s:Int)=(Dh c.seed (iv B))[i]?.getD 0) :
  (fs (Dh c.seed (Pe sy)))[i]?.getD 0=B[i]?.getD 0:=by
 have h1:=Qp (Pe sy) c.seed i (by rw[Fr];exact hi)
 have h2:=Qp (iv B) c.seed i (by rw[K1];exact hB)
 have h3:(Pe sy)[i]?.getD 0=(s:Int):=by
  simp only[Pe,List.getElem?_map]
  rw[List.getElem?_eq_getElem hi] at hs ⊢
  simp only[Option.getD_some,Option.map_some] at hs ⊢
  rw[hs];rfl
 have h4:0<=(iv B)[i]?.getD 0/\(iv B)[i]?.getD 0<=15:=nL B _ (EQ (by rw[K1];exact hB))
 rw[h3,hx,h2,iz _ h4,ey] at h1
 have h5:(fs (Dh c.seed (Pe sy)))[i]?.getD 0=Fin.ofNat 16 ((Dh c.seed (Pe sy))[i]?.getD 0).toNat:=by
  simp only[fs,List.getElem?_map]
  rw[List.getElem?_eq_getElem (by rw[Eg,Fr];exact hi)];rfl
 rw[h5,h1,Int.toNat_natCast]
 exact Fin.ext (Nat.mod_eq_of_lt (B[i]?.getD 0).isLt)
theorem Wa {f g:Nat->Nat}{q:Nat}:∀{n:Nat},(∀i,i<n->f i<=g i)->∀k,L3 f q n k<=L3 g q n k
 |0,_,_=>Nat.le_refl _
 |n+1,h,k=>by
  have ih:=Wa (f:=f) (g:=g) (q:=q) (n:=n) (fun i hi=>h i (by omega)) k
  have h1:=h n (by omega)
  show L3 f q n k+(if n%q=k then f n else 0)<=L3 g q n k+(if n%q=k then g n else 0)
  split<;>omega
theorem dw {c:AX}(hk:Gn c) {l p q:Nat}{e:List F}(h1:c.L=(l:Int)) (h2:c.P=(p:Int)) (h3:c.Q=(q:Int)) (b2:l<=15) (b5:p<l) (b6:1<=q) (he:e.length=(l-p)*q) (hs:c.syms=l*q)
  {sy:List (Option Nat)}(hl:sy.length=c.syms) {f:Nat->Nat}
  (hf:∀i,i<l*q->sy[i]?.getD none≠some ((Dh c.seed (iv (Zt l p q e)))[i]?.getD 0).toNat->(if (sy[i]?.getD none).isNone then 1 else 2)<=f i)
  (hc:∀k,k<q->L3 f q (l*q) k<=p):aw c sy=0/\b9 c sy=iv e:=by
 obtain⟨g1,g2⟩:=o5 hk h1 h2 h3 hs hl
 have hBl:(Zt l p q e).length=l*q:=Yw ..
 have hrl:(fs (Dh c.seed (Pe sy))).length=l*q:=by rw[X2,Eg,Fr,hl,hs]
 have key:=SJ (l:=l) (p:=p) (q:=q) b2 b5 (by omega) he hrl (mB:=fun i=>(sy[i]?.getD none).isNone) (wB:=fun i=>decide (sy[i]?.getD none≠some ((Dh c.seed (iv (Zt l p q e)))[i]?.getD 0).toNat))
  (fun i hi hne hm=>by
   rw[decide_eq_true_eq]
   intro hs2
   have hx:0<=(Dh c.seed (iv (Zt l p q e)))[i]?.getD 0:=(Kh _ _ _ (EQ (by rw[Eg,K1,hBl];exact hi))).1
   exact hne (mQ (by omega) (by omega) hs2 (by omega)).symm)
  (fC:=fun i=>if (sy[i]?.getD none).isNone then 1 else if decide (sy[i]?.getD none≠some ((Dh c.seed (iv (Zt l p q e)))[i]?.getD 0).toNat) then 2 else 0) (fun i hi=>rfl)
  (fun k hkq=>Nat.le_trans (Wa (fun i hi=>by
   by_cases hw:sy[i]?.getD none=some ((Dh c.seed (iv (Zt l p q e)))[i]?.getD 0).toNat
   ·rw[hw];simp
   ·have:=hf i hi hw
    by_cases hn:(sy[i]?.getD none).isNone=true
    ·rw[if_pos hn] at this ⊢;exact this
    ·rw[if_neg hn] at this ⊢
     rw[if_pos (by rw[decide_eq_true_eq];exact hw)];exact this) k) (hc k hkq))
 have hmk:g_ sy=(List.range (l*q)).filter fun i=>(sy[i]?.getD none).isNone:=by unfold g_;rw[hl,hs]
 rw[g1,g2,hmk,key]
 exact⟨rfl,rfl⟩
theorem dT {c:AX}(hk:Gn c) {b:List Int}(hb:b.length=c.syms) (rest:List Int) {i:Nat}(hi:i<c.syms):(c.syL (JY c b++rest) 0)[i]?.getD none=some ((Dh c.seed b)[i]?.getD 0).toNat:=by
 rw[TV hi]
 have hl:(Dh c.seed b).length=c.syms:=by rw[Eg,hb]
 unfold JY
 rw[dU c _ rest i (by omega)]
 have hx:=Kh b c.seed _ (EQ (show i<(Dh c.seed b).length by omega))
 exact NB hk.dst (by omega)
theorem fv {c:AX}(hk:Gn c) {b:List Int}(hb:b.length=c.syms) (rest:List Int):c.find (JY c b++rest)=some 0:=by
 refine Ow.2 ⟨?_,?_,fun j hj=>by omega⟩
 ·rw[List.length_append,Y0,hb];unfold AX.tot;omega
 ·rw[List.drop_zero]
  unfold JY
  rw[List.append_assoc,WN];exact hk.errs.1
theorem VW {c:AX}(hk:Gn c) {d:List Int}(he:spE c.L c.P c.Q d=0) (rest:List Int) :
  c.find (JY c (U7 c.L c.P c.Q d)++rest)=some 0/\aw c (c.syL (JY c (U7 c.L c.P c.Q d)++rest) 0)=0/\b9 c (c.syL (JY c (U7 c.L c.P c.Q d)++rest) 0)=d:=by
 have hbl:=QH hk.wev he
 obtain⟨l,p,q,e,h1,h2,h3,b1,b2,b3,b4,b5,b6,b7,rfl,hel,hsp,hs⟩:=ib hk he
 refine⟨fv hk hbl rest,?_⟩
 refine dw hk h1 h2 h3 b2 b5 b6 hel hs (Lf ..) (f:=fun _=>0) (fun i hi hne=>?_) fun k _=>?_
 ·rw[dT hk hbl rest (by omega),hsp] at hne
  exact absurd rfl hne
 ·have:∀n,L3 (fun _=>0) q n k=0:=fun n=>by
   induction n with
   |zero=>rfl
   |succ n ih=>show L3 _ q n k+(if n%q=k then 0 else 0)=0;rw[ih];split<;>rfl
  rw[this];omega
section
def qG (m q:Nat) (W:Nat->List F) (k j:Nat):List F:=(List.range (m*q)).map fun i=>if i%q<k\/(i%q=k/\i/q<j) then (W (i%q))[i/q]?.getD 0 else 0
attribute [local congr] Bf A9 A_ Aq Bg Ax Az Ay Ap Aj Ad AZ Au Ae Av BK BO BM BN BL BP BE Ah Aw Ai BC BW Ag BI BJ BD BF BH BG BA BB A8 Bj A' Ar Af
attribute [local irreducible] IntKind.wrap A4 Option.getD and or
theorem Kk (L P Q:Int):B' E0 Hk [.agg [.int .i64 L,.int .i64 P,.int .i64 Q]] (.int .i64 (if Cv L P Q=true then 0 else 50)):=by
 have c1:=Px L P
 have c2:=GJ Q 1 8
 refine AO LA An (by simp) fun hwf=>?_
 rw[AW];unfold Gz Cv
 cases hc:EK L P with
 |false =>
  rw[hc] at c1
  simp only[Bool.false_eq_true,if_false,Bool.false_and] at c1 ⊢
  (try (simp -implicitDefEqProofs only[go_sem]));repeat' first|(with_reducible first|exact tI|refine aI ?_ ?_|intro _)|((first|with_reducible refine AN ?_ ?_<;>intro _|(with_reducible refine isCall ?_);first|refine AE c1 ?_)<;>try (simp -implicitDefEqProofs only[go_sem]))|simp (disch:=omega) only[Al]
  all_goals first|rfl|(simp;done)|skip
 |true =>
  rw[hc] at c1
  simp only[if_true,Bool.true_and] at c1 ⊢
  by_cases h:1<=Q/\Q<=8
  ·rw[decide_eq_true h] at c2 ⊢
   (try (simp -implicitDefEqProofs only[go_sem]));repeat' first|(with_reducible first|exact tI|refine aI ?_ ?_|intro _)|((first|with_reducible refine AN ?_ ?_<;>intro _|(with_reducible refine isCall ?_);first|refine AE c1 ?_|refine AE c2 ?_)<;>try (simp -implicitDefEqProofs only[go_sem]))|simp (disch:=omega) only[Al]
   all_goals first|rfl|(simp;done)|skip
  ·rw[decide_eq_false h] at c2 ⊢
   (try (simp -implicitDefEqProofs only[go_sem]));repeat' first|(with_reducible first|exact tI|refine aI ?_ ?_|intro _)|((first|with_reducible refine AN ?_ ?_<;>intro _|(with_reducible refine isCall ?_);first|refine AE c1 ?_|refine AE c2 ?_)<;>try (simp -implicitDefEqProofs only[go_sem]))|simp (disch:=omega) only[Al]
   all_goals first|rfl|(simp;done)|skip
end
end Go.Pw
