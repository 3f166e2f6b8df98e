/- A part of the proof. -/
import Derived.Test.YtibkjeolahobbaaGreatDoorPgChI
import Derived.Test.YtibkjeolahobbaaGreatDoorPgChrN
import Derived.Test.YtibkjeolahobbaaGreatDoorPgChrPh2
set_option linter.all false
section
open Go Go.Pw Go.Proofs
namespace Go.Pw
set_option maxRecDepth 100000
set_option maxHeartbeats 3200000
def gt (c:AX):Nat->Int
 |0=>(c.mark.length:Int)
 |n+1=>min (gt c n) (QM c (n+1))
def Px (c:AX):Int:=if c.ok=true then gt c (c.tot-1) else 0
def Vv (c:AR) (a:Nat) (l:Int):Nat->Int
 |0=>l
 |b+1=>min (Vv c a l b) (B5 (c.stm a) (c.stm b))
def QS (c:AR):Nat->Int
 |0=>(c.sz:Int)
 |a+1=>Vv c a (QS c a) a
def Nl (c:AX):Int:=if c.ok=true then QS c.code 16 else 0
def oW (c:AX):Int:=if c.Q*(c.P/2)=0 then 0 else if c.Q*c.L<=c.Q*(c.P/2) then ((c.syms*c.code.sz:Nat):Int) else (c.Q*(c.P/2)-1)*c.code.sz+1
def Rx (c:AX):Int:=if c.ok=true then oW c else 0
theorem lx {L P Q:Int}(h:Cz L P Q=true):0<=Q*(P/2)/\Q*(P/2)<=32:=by
 have hb:=Ki h
 have h1:0<=P/2/\P/2<=4:=by omega
 obtain⟨q,rfl⟩:∃q:Nat,Q=(q:Int):=⟨Q.toNat,by omega⟩
 obtain⟨p,hp⟩:∃p:Nat,P/2=(p:Int):=⟨(P/2).toNat,by omega⟩
 rw[hp] at h1 ⊢
 have h2:q*p<=8*4:=Nat.mul_le_mul (by omega) (by omega)
 have h3:(q:Int)*(p:Int)=((q*p:Nat):Int):=by push_cast;rfl
 rw[h3];omega
attribute [local congr] Bl A_ A' Ar Bm Ay A0 Az Aq Ak Ae Aa Av Af Aw BL BP BN BO BM BQ BF Ai Ax Aj BD BX Ah BJ BK BE BG BI BH BB BC A9 Bn BA Au Ag
attribute [local irreducible] IntKind.wrap A4 Option.getD and or
theorem IK (c:AX):CE E0 KV [Dg c] (.tup [.int .i64 (Px c),.int .i64 (IX c)]):=by
 have c1:=D5 c
 obtain⟨r,hr⟩:∃r,eP c=r:=⟨_,rfl⟩
 rw[hr] at c1
 refine AP OH Ap (by simp) fun hwf=>?_
 rw[AW];unfold JD Px
 rcases hok:c.ok with _|_
 ·have:=Gt hok
  rw[hr] at this
  rw[this.1,this.2] at c1
  rw[this.2]
  (try (simp -implicitDefEqProofs only[go_sem,AG,AF]));repeat' first|(with_reducible first|exact tI|refine aI ?_ ?_|intro _)|((first|with_reducible refine AO ?_ ?_<;>intro _|(with_reducible refine isCall ?_);first|refine AE c1 ?_)<;>try (simp -implicitDefEqProofs only[go_sem,AG,AF]))|simp (disch:=omega) only[Al]|((with_reducible refine BT ?_);refine⟨(_,_,_),rfl,?_,?_⟩)
  all_goals first|rfl|skip
 ·have:=HT hok
  have hk:=Dh hok
  rw[hr] at this
  rw[this.1,this.2] at c1
  rw[this.2]
  have hm:=hk.markl
  have ht:=hk.tot
  have cB:=Ex c hk.wev hk.code
  have w0:IntKind.i64.wrap ((c.mark.length:Int)+((c.syms*c.code.sz:Nat):Int))=((c.tot:Nat):Int):=by rw[AZ _ (by omega)];unfold AX.tot;omega
  have ht1:1<=c.tot:=by unfold AX.tot;omega
  simp only[if_true]
  (try (simp -implicitDefEqProofs only[go_sem,AG,AF,BU]));repeat' first|(with_reducible first|exact tI|refine aI ?_ ?_|intro _)|((first|with_reducible refine AO ?_ ?_<;>intro _|(with_reducible refine isCall ?_);first|refine AE c1 ?_)<;>try (simp -implicitDefEqProofs only[go_sem,AG,AF,BU]))|simp (disch:=omega) only[Al]|((with_reducible refine BT ?_);refine⟨(_,_,_),rfl,?_,?_⟩)
  all_goals first|omega|(simp;done)|(simp;omega)|skip
  refine AY (α:=Nat×Int×Int) (l0:=?l1) (m0:=?m1) (fun x=>[(7,.d (.int .i64 x.2.1)),(6,.d (.int .i64 x.2.2))]) (fun x=>[]) (fun x=>x.1<=c.tot-1/\x.2.1=((x.1+1:Nat):Int)/\x.2.2=gt c x.1) (fun x=>c.tot-1-x.1) (0,1,(c.mark.length:Int)) ?h01 ?he1 ?he21 ?hI1 ?step1
  case h01=>(simp -implicitDefEqProofs only[go_sem];rfl)
  case he1=>rfl
  case he21=>rfl
  case' step1=>(rintro⟨k,t,n⟩ hI;try dsimp only at hI)
  case' hI1=>try dsimp only
  ·exact⟨Nat.zero_le _,rfl,rfl⟩
  ·obtain⟨k1,k2,k3⟩:=hI
   change t=((k+1:Nat):Int) at k2
   change n=gt c k at k3
   subst k2
   by_cases hkt:k+1<c.tot
   ·have hk':((k+1:Nat):Int)<((c.tot:Nat):Int):=by omega
    have cA:=OT c hk (k+1) (by omega)
    have hwk:IntKind.i64.wrap (((k+1:Nat):Int)+1)=((k+1+1:Nat):Int):=by rw[AZ _ (by omega)];omega
    have hmm:min n (QM c (k+1))=gt c (k+1):=by rw[k3];rfl
    (try (simp -implicitDefEqProofs only[go_sem,BU,w0,hk',hwk,hmm]));repeat' first|(with_reducible first|exact tI|refine aI ?_ ?_|intro _)|((first|with_reducible refine AO ?_ ?_<;>intro _|(with_reducible refine isCall ?_);first|refine AE cB ?_|refine AE cA ?_)<;>try (simp -implicitDefEqProofs only[go_sem,BU,w0,hk',hwk,hmm]))|simp (disch:=omega) only[Al]|((with_reducible refine BT ?_);refine⟨(_,_,_),rfl,?_,?_⟩)
    all_goals first|omega|(simp;done)|(simp;omega)|skip
    exact⟨(k+1,_,_),rfl,⟨by show k+1<=c.tot-1;omega,rfl,rfl⟩,by show c.tot-1-(k+1)<c.tot-1-k;omega⟩
   ·have hk':¬((k+1:Nat):Int)<((c.tot:Nat):Int):=by omega
    have hke:k=c.tot-1:=by omega
    subst hke
    rw[k3]
    (try (simp -implicitDefEqProofs only[go_sem,BU,w0,hk']));repeat' first|(with_reducible first|exact tI|refine aI ?_ ?_|intro _)|((first|with_reducible refine AO ?_ ?_<;>intro _|(with_reducible refine isCall ?_);first|refine AE cB ?_)<;>try (simp -implicitDefEqProofs only[go_sem,BU,w0,hk']))|simp (disch:=omega) only[Al]|((with_reducible refine BT ?_);refine⟨(_,_,_),rfl,?_,?_⟩)
    all_goals first|omega|(simp;done)|(simp;omega)|skip
    all_goals first|rfl|skip
theorem JN (c:AX):CE E0 Ll [Dg c] (.tup [.int .i64 (Nl c),.int .i64 (IX c)]):=by
 have c1:=D5 c
 obtain⟨r,hr⟩:∃r,eP c=r:=⟨_,rfl⟩
 rw[hr] at c1
 refine AP PR Ap (by simp) fun hwf=>?_
 rw[AW];unfold KB Nl
 rcases hok:c.ok with _|_
 ·have:=Gt hok
  rw[hr] at this
  rw[this.1,this.2] at c1
  rw[this.2]
  (try (simp -implicitDefEqProofs only[go_sem,AG,AF]));repeat' first|(with_reducible first|exact tI|refine aI ?_ ?_|intro _)|((first|with_reducible refine AO ?_ ?_<;>intro _|(with_reducible refine isCall ?_);first|refine AE c1 ?_)<;>try (simp -implicitDefEqProofs only[go_sem,AG,AF]))|simp (disch:=omega) only[Al]|((with_reducible refine Ab ?_);refine⟨(_,_),rfl,?_,?_⟩)
  all_goals first|rfl|skip
 ·have:=HT hok
  have hk:=Dh hok
  rw[hr] at this
  rw[this.1,this.2] at c1
  rw[this.2]
  have cL:=D6 c
  have h28:=NP c.code
  have h16:=Ov c.code
  have hz:=EC hk.code
  simp only[if_true]
  (try (simp -implicitDefEqProofs only[go_sem,AG,AF,BU,h28,h16]));repeat' first|(with_reducible first|exact tI|refine aI ?_ ?_|intro _)|((first|with_reducible refine AO ?_ ?_<;>intro _|(with_reducible refine isCall ?_);first|refine AE c1 ?_|refine AE cL ?_)<;>try (simp -implicitDefEqProofs only[go_sem,AG,AF,BU,h28,h16]))|simp (disch:=omega) only[Al]|((with_reducible refine Ab ?_);refine⟨(_,_),rfl,?_,?_⟩)
  all_goals first|omega|(simp;done)|(simp;omega)|skip
  refine AY (α:=Nat×Int) (l0:=?l2) (m0:=?m2) (fun x=>[(25,.d (.int .i64 (x.1:Int))),(6,.d (.int .i64 x.2))]) (fun x=>[]) (fun x=>x.1<=16/\x.2=QS c.code x.1) (fun x=>16-x.1) (0,(c.code.sz:Int)) ?h02 ?he2 ?he22 ?hI2 ?step2
  case h02=>(simp -implicitDefEqProofs only[go_sem];rfl)
  case he2=>rfl
  case he22=>rfl
  case' step2=>(rintro⟨s,n⟩ hI;try dsimp only at hI)
  case' hI2=>try dsimp only
  ·exact⟨Nat.zero_le _,rfl⟩
  ·obtain⟨s1,s2⟩:=hI
   change n=QS c.code s at s2
   by_cases hs:s<16
   ·have hs':(s:Int)<16:=by omega
    have hg:=Kn c.code hs
    have hws:IntKind.i64.wrap ((s:Int)+1)=((s+1:Nat):Int):=by rw[AZ _ (by omega)];omega
    have htl:((Fg c.code).take s).length=s:=by rw[List.length_take];omega
    have hsi:(s:Int)<=16:=by omega
    (try (simp -implicitDefEqProofs only[go_sem,BU,hs',hg,h28,hsi,htl]));repeat' first|(with_reducible first|exact tI|refine aI ?_ ?_|intro _)|((first|with_reducible refine AO ?_ ?_<;>intro _)<;>try (simp -implicitDefEqProofs only[go_sem,BU,hs',hg,h28,hsi,htl]))|simp (disch:=omega) only[Al]|((with_reducible refine Ab ?_);refine⟨(_,_),rfl,?_,?_⟩)
    all_goals first|omega|(simp;done)|(simp;omega)|skip
    refine AY (α:=Nat×Int) (l0:=?l3) (m0:=?m3) (fun x=>[(35,.d (.int .i64 (x.1:Int))),(6,.d (.int .i64 x.2))]) (fun x=>[]) (fun x=>x.1<=s/\x.2=Vv c.code s (QS c.code s) x.1) (fun x=>s-x.1) (0,n) ?h03 ?he3 ?he23 ?hI3 ?step3
    case h03=>(simp -implicitDefEqProofs only[go_sem];rfl)
    case he3=>rfl
    case he23=>rfl
    case' step3=>(rintro⟨b,m⟩ hI2;try dsimp only at hI2)
    case' hI3=>try dsimp only
    ·exact⟨Nat.zero_le _,s2⟩
    ·obtain⟨b1,b2⟩:=hI2
     change m=Vv c.code s (QS c.code s) b at b2
     by_cases hb:b<s
     ·have hb':(b:Int)<(s:Int):=by omega
      have hgb:((Fg c.code).take s)[b]?=some (.list false (Am (c.code.stm b))):=by rw[List.getElem?_take_of_lt hb];exact Kn c.code (by omega)
      have hwb:IntKind.i64.wrap ((b:Int)+1)=((b+1:Nat):Int):=by rw[AZ _ (by omega)];omega
      have l1:=Eb c.code s
      have l2:=Eb c.code b
      have cD:=Df false false (c.code.stm s) (c.code.stm b) (NR ..) (NR ..) (by omega) (by omega)
      obtain⟨dv,hdv⟩:∃dv,B5 (c.code.stm s) (c.code.stm b)=dv:=⟨_,rfl⟩
      rw[hdv] at cD
      have hmm:min m dv=Vv c.code s (QS c.code s) (b+1):=by rw[b2,←hdv];rfl
      (try (simp -implicitDefEqProofs only[go_sem,hb',hb,hgb,hwb,htl,hmm]));repeat' first|(with_reducible first|exact tI|refine aI ?_ ?_|intro _)|((first|with_reducible refine AO ?_ ?_<;>intro _|(with_reducible refine isCall ?_);first|refine AE cD ?_)<;>try (simp -implicitDefEqProofs only[go_sem,hb',hb,hgb,hwb,htl,hmm]))|simp (disch:=omega) only[Al]|((with_reducible refine Ab ?_);refine⟨(_,_),rfl,?_,?_⟩)
      all_goals first|omega|(simp;done)|(simp;omega)|skip
      all_goals skip
     ·have hb':¬(b:Int)<(s:Int):=by omega
      have hbe:b=s:=by omega
      subst hbe
      (try (simp -implicitDefEqProofs only[go_sem,hb',hws]));repeat' first|(with_reducible first|exact tI|refine aI ?_ ?_|intro _)|((first|with_reducible refine AO ?_ ?_<;>intro _)<;>try (simp -implicitDefEqProofs only[go_sem,hb',hws]))|simp (disch:=omega) only[Al]|((with_reducible refine Ab ?_);refine⟨(_,_),rfl,?_,?_⟩)
      all_goals first|omega|(simp;done)|(simp;omega)|skip
      all_goals first|exact b2|skip
   ·have hs':¬(s:Int)<16:=by omega
    have hse:s=16:=by omega
    subst hse
    rw[s2]
    (try (simp -implicitDefEqProofs only[go_sem,hs']));repeat' first|(with_reducible first|exact tI|refine aI ?_ ?_|intro _)|((first|with_reducible refine AO ?_ ?_<;>intro _)<;>try (simp -implicitDefEqProofs only[go_sem,hs']))|simp (disch:=omega) only[Al]|((with_reducible refine Ab ?_);refine⟨(_,_),rfl,?_,?_⟩)
    all_goals first|omega|(simp;done)|(simp;omega)|skip
    all_goals first|rfl|skip
theorem OU (c:AX):CE E0 KU [Dg c] (.tup [.int .i64 (Rx c),.int .i64 (IX c)]):=by
 have c1:=D5 c
 obtain⟨r,hr⟩:∃r,eP c=r:=⟨_,rfl⟩
 rw[hr] at c1
 refine AP OG Ap (by simp) fun hwf=>?_
 rw[AW];unfold JC Rx
 rcases hok:c.ok with _|_
 ·have:=Gt hok
  rw[hr] at this
  rw[this.1,this.2] at c1
  rw[this.2]
  (try (simp -implicitDefEqProofs only[go_sem,AG,AF]));repeat' first|(with_reducible first|exact tI|refine aI ?_ ?_|intro _)|((first|with_reducible refine AO ?_ ?_<;>intro _|(with_reducible refine isCall ?_);first|refine AE c1 ?_)<;>try (simp -implicitDefEqProofs only[go_sem,AG,AF]))|simp (disch:=omega) only[Al]
  all_goals first|rfl|skip
 ·have:=HT hok
  have hk:=Dh hok
  rw[hr] at this
  rw[this.1,this.2] at c1
  rw[this.2]
  have cL:=D6 c
  have cB:=Ex c hk.wev hk.code
  have cS:=E' c (Fg c.code) hk.wev
  have hz:=EC hk.code
  have hb:=Ki hk.wev
  have hqp:=lx hk.wev
  have w1:IntKind.i64.wrap (c.P.tdiv 2)=c.P/2:=by rw[Int.tdiv_eq_ediv_of_nonneg (by omega)];exact AZ _ (by omega)
  have w2:IntKind.i64.wrap (c.Q*(c.P/2))=c.Q*(c.P/2):=AZ _ (by omega)
  simp only[if_true]
  unfold oW
  obtain⟨h,hh⟩:∃h,c.Q*(c.P/2)=h:=⟨_,rfl⟩
  rw[hh] at w2 hqp ⊢
  have hmul:(h-1)*(c.code.sz:Int)<=31*20:=by
   by_cases h0:0<=h-1
   ·exact Int.mul_le_mul (by omega) (by omega) (by omega) (by omega)
   ·have:h=0:=by omega
    subst this
    omega
  have hmul0:h≠0->0<=(h-1)*(c.code.sz:Int):=fun h0=>Int.mul_nonneg (by omega) (by omega)
  have w3:IntKind.i64.wrap (h-1)=h-1:=AZ _ (by omega)
  by_cases h0:h=0
  ·rw[if_pos h0]
   have w6:IntKind.i64.wrap 0=0:=AZ 0 (by omega)
   (try (simp -implicitDefEqProofs only[go_sem,AG,AF,BU,w1,w2,w6,hh,h0]));repeat' first|(with_reducible first|exact tI|refine aI ?_ ?_|intro _)|((first|with_reducible refine AO ?_ ?_<;>intro _|(with_reducible refine isCall ?_);first|refine AE c1 ?_)<;>try (simp -implicitDefEqProofs only[go_sem,AG,AF,BU,w1,w2,w6,hh,h0]))|simp (disch:=omega) only[Al]
   all_goals first|rfl|skip
  ·rw[if_neg h0]
   have w4:IntKind.i64.wrap ((h-1)*(c.code.sz:Int))=(h-1)*(c.code.sz:Int):=AZ _ (by have:=hmul0 h0;omega)
   have w5:IntKind.i64.wrap ((h-1)*(c.code.sz:Int)+1)=(h-1)*(c.code.sz:Int)+1:=AZ _ (by have:=hmul0 h0;omega)
   by_cases h1:c.Q*c.L<=h
   ·rw[if_pos h1]
    (try (simp -implicitDefEqProofs only[go_sem,AG,AF,BU,w1,w2,hh,h0,h1]));repeat' first|(with_reducible first|exact tI|refine aI ?_ ?_|intro _)|((first|with_reducible refine AO ?_ ?_<;>intro _|(with_reducible refine isCall ?_);first|refine AE c1 ?_|refine AE cL ?_|refine AE cB ?_|refine AE cS ?_)<;>try (simp -implicitDefEqProofs only[go_sem,AG,AF,BU,w1,w2,hh,h0,h1]))|simp (disch:=omega) only[Al]
    all_goals first|rfl|skip
   ·rw[if_neg h1]
    (try (simp -implicitDefEqProofs only[go_sem,AG,AF,BU,w1,w2,hh,h0,h1,w3,w4,w5]));repeat' first|(with_reducible first|exact tI|refine aI ?_ ?_|intro _)|((first|with_reducible refine AO ?_ ?_<;>intro _|(with_reducible refine isCall ?_);first|refine AE c1 ?_|refine AE cL ?_|refine AE cB ?_|refine AE cS ?_)<;>try (simp -implicitDefEqProofs only[go_sem,AG,AF,BU,w1,w2,hh,h0,h1,w3,w4,w5]))|simp (disch:=omega) only[Al]
    all_goals first|rfl|skip
end Go.Pw
end
section
open Go Go.Pw
namespace Go.Pw
def DU (f:Nat->Nat) (q:Nat):Nat->Nat->Nat
 |0,_=>0
 |i+1,k=>DU f q i k+if i%q=k then f i else 0
def P5 (f:Nat->Nat) (q:Nat):Nat->Nat->Nat
 |0,_=>0
 |m+1,k=>P5 f q m k+f (m*q+k)
theorem Wr (f:Nat->Nat) {q k:Nat}(hk:k<q) (m:Nat):∀t,t<=q->DU f q (m*q+t) k=DU f q (m*q) k+if k<t then f (m*q+k) else 0
 |0,_=>by simp
 |t+1,h=>by
  have ih:=Wr f hk m t (by omega)
  show DU f q (m*q+t) k+(if (m*q+t)%q=k then f (m*q+t) else 0)=_
  rw[ih,RY (show t<q by omega)]
  by_cases h1:t=k
  ·subst h1
   rw[if_pos rfl,if_neg (by omega),if_pos (by omega)];omega
  ·rw[if_neg h1]
   by_cases h2:k<t
   ·rw[if_pos h2,if_pos (by omega)];rfl
   ·rw[if_neg h2,if_neg (by omega)]
theorem Qd (f:Nat->Nat) {q k:Nat}(hk:k<q):∀m,DU f q (m*q) k=P5 f q m k
 |0=>by rw[Nat.zero_mul];rfl
 |m+1=>by
  rw[Nat.add_mul,Nat.one_mul,Wr f hk m q (Nat.le_refl q),if_pos hk,Qd f hk m];rfl
theorem jI {f g h:Nat->Nat}{q m k:Nat}(hk:k<q) (e:∀i,i<m*q->f i=2*g i+h i):P5 f q m k=2*P5 g q m k+P5 h q m k:=by
 induction m with
 |zero=>rfl
 |succ m ih =>
  have h1:=ih fun i hi=>e i (by rw[Nat.add_mul];omega)
  have h2:=e (m*q+k) (RZ hk (by omega))
  show P5 f q m k+f (m*q+k)=2*(P5 g q m k+g (m*q+k))+(P5 h q m k+h (m*q+k))
  omega
theorem UG (mB:Nat->Bool) {q:Nat}(k:Nat):∀i,(Pn q k ((List.range i).filter mB)).length=DU (fun i=>if mB i then 1 else 0) q i k
 |0=>rfl
 |i+1=>by
  have ih:=UG mB (q:=q) k i
  rw[List.range_succ,List.filter_append]
  show _=DU _ q i k+if i%q=k then (if mB i then 1 else 0) else 0
  rw[←ih]
  cases hm:mB i with
  |false=>simp[hm]
  |true =>
   simp only[List.filter_cons,hm,if_true,List.filter_nil]
   rw[V6]
   by_cases h:i%q=k
   ·rw[if_pos h,if_pos h];simp
   ·rw[if_neg h,if_neg h];rfl
theorem Zi {l q k:Nat}(hk:k<q) {a R:List F}{W:Nat->List F}{mB wB:Nat->Bool}(hw:∀j,j<l->(W k)[j]?.getD 0≠R[j*q+k]?.getD 0->mB (j*q+k)=false->wB (j*q+k)=true) :
  (Mw l (W k) (CU l q k R) (Pn q k ((List.range (l*q)).filter mB))).length<=P5 (fun i=>if wB i then 1 else 0) q l k:=by
 have hmk:∀j,j<l->(j∈Pn q k ((List.range (l*q)).filter mB)↔mB (j*q+k)=true):=fun j hj=>by
  rw[ju hk,List.mem_filter,List.mem_range]
  exact⟨fun h=>h.2,fun h=>⟨RZ hk hj,h⟩⟩
 have hg:∀j,j<l->(CU l q k R)[j]?.getD 0=R[j*q+k]?.getD 0:=fun j hj=>O9 j hj
 generalize Pn q k ((List.range (l*q)).filter mB)=mk at *
 generalize CU l q k R=b at *
 unfold Mw
 have:∀m,m<=l->((List.range m).filter fun j=>decide ((W k)[j]?.getD 0≠b[j]?.getD 0) && !mk.contains j).length<=P5 (fun i=>if wB i then 1 else 0) q m k:=by
  intro m
  induction m with
  |zero=>intro _;exact Nat.le_refl 0
  |succ m ih =>
   intro hm
   have i1:=ih (by omega)
   rw[List.range_succ,List.filter_append,List.length_append]
   show _<=P5 (fun i=>if wB i then 1 else 0) q m k+(if wB (m*q+k) then 1 else 0)
   refine Nat.add_le_add i1 ?_
   by_cases hc:(decide ((W k)[m]?.getD 0≠b[m]?.getD 0) && !mk.contains m)=true
   ·have hc2:=hc
    simp only[Bool.and_eq_true,decide_eq_true_eq,Bool.not_eq_true',List.contains_eq_mem,decide_eq_false_iff_not] at hc2
    have h3:mB (m*q+k)=false:=by
     cases h:mB (m*q+k) with
     |false=>rfl
     |true=>exact absurd ((hmk m (by omega)).2 h) hc2.2
    have h4:=hw m (by omega) (by rw[←hg m (by omega)];exact hc2.1) h3
    rw[h4]
    simp only[List.filter_cons,hc,if_true,List.filter_nil]
    exact Nat.le_refl 1
   ·simp only[List.filter_cons,hc,List.filter_nil]
    exact Nat.zero_le _
 exact this l (Nat.le_refl l)
theorem RG (mB:Nat->Bool) (n:Nat):Y2 n ((List.range n).filter mB) :=
 ⟨List.Pairwise.filter _ List.pairwise_lt_range,fun j hj=>by simpa using (List.mem_filter.1 hj).1⟩
theorem SU {l p q:Nat}(hl:l<=15) (hpl:p<l) (hq:0<q) {d R:List F}(hd:d.length=(l-p)*q) (hR:R.length=l*q) {mB wB:Nat->Bool}
  (hw:∀i,i<l*q->(Sr l p q d)[i]?.getD 0≠R[i]?.getD 0->mB i=false->wB i=true) {fC:Nat->Nat}(hf:∀i,i<l*q->fC i=if mB i then 1 else if wB i then 2 else 0)
  (hk:∀k,k<q->DU fC q (l*q) k<=p):YJ l p q R ((List.range (l*q)).filter mB)=some d:=by
 refine SO hl hpl hq hd hR (RG mB _) fun k hkq=>?_
 have h1:=hk k hkq
 rw[Qd fC hkq] at h1
 rw[jI (g:=fun i=>if wB i && !mB i then 1 else 0) (h:=fun i=>if mB i then 1 else 0) hkq fun i hi=>by
  rw[hf i hi]
  cases mB i<;>cases wB i<;>rfl] at h1
 rw[UG mB k,Qd _ hkq]
 have h2:=Zi (a:=[]) (wB:=fun i=>wB i && !mB i) (mB:=mB) (R:=R) (W:=fun k=>Gh p (CU (l-p) q k d)) (l:=l) hkq fun j hj hne hm=>by
  have hlt:=RZ hkq hj
  have h3:(Sr l p q d)[j*q+k]?.getD 0=(Gh p (CU (l-p) q k d))[j]?.getD 0:=by
   unfold Sr
   rw[OW _ hlt,Uc hkq,RY hkq]
  rw[hw (j*q+k) hlt (by rw[h3];exact hne) hm,hm];rfl
 omega
end Go.Pw
end
section
open Go Go.Pw
namespace Go.Pw
theorem Ra:∀(xs ys:List Int),B5 xs (xs++ys)=0
 |[],_=>by simp[B5]
 |x::xs,ys=>by rw[List.cons_append,B5,if_pos rfl,Ra xs ys];rfl
theorem nG (mk:List Nat):nt (ni mk)=mk:=by
 unfold nt ni
 rw[List.map_map]
 exact List.map_id'' (fun x=>by simp) mk
theorem ZP (l:List Nat) (i:Nat) (h:i<l.length):(ni l)[i]?.getD 0=((l[i]?.getD 0:Nat):Int):=by simp[ni,h]
theorem V5 {m:Nat}{mk:List Nat}(h:Y2 m mk):EW (ni mk) (m:Int)=true:=S' fun i hi=>by
 have hil:i<mk.length:=by simpa[ni] using hi
 unfold jx
 rw[decide_eq_true_eq,ZP _ _ hil,ZP _ _ (show i-1<mk.length by omega)]
 have h1:=h.lt (mk[i]?.getD 0) (by rw[List.getElem?_eq_getElem hil];exact List.getElem_mem hil)
 refine⟨by omega,by exact_mod_cast h1,fun h0=>?_⟩
 have h2:=(List.pairwise_iff_getElem.1 h.asc) (i-1) i (by omega) hil (by omega)
 rw[List.getElem?_eq_getElem hil,List.getElem?_eq_getElem (show i-1<mk.length by omega)]
 exact_mod_cast h2
theorem Tl {c:AX}(hk:Fj c) {d:List Int}(he:spE c.L c.P c.Q d=0) :
  ∃(l p q:Nat) (e:List F),c.L=(l:Int)/\c.P=(p:Int)/\c.Q=(q:Int)/\2<=l/\l<=15/\1<=p/\p<=8/\p<l/\1<=q/\q<=8/\d=iv e/\e.length=(l-p)*q/\Tn c.L c.P c.Q d=iv (Sr l p q e)/\c.syms=l*q:=by
 obtain⟨l,p,q,h1,h2,h3,b1,b2,b3,b4,b5,b6,b7,hc⟩:=Jc hk.wev
 have hw:=hk.wev
 unfold spE at he
 rw[if_pos hw] at he
 have hs:CS d (c.Q*(c.L-c.P))=true:=by
  cases hs:CS d (c.Q*(c.L-c.P)) with
  |true=>rfl
  |false=>rw[hs] at he;simp at he
 obtain⟨hl,hf⟩:=Qo hs
 refine⟨l,p,q,fs d,h1,h2,h3,b1,b2,b3,b4,b5,b6,b7,hf.symm,?_,?_,?_⟩
 ·rw[UL]
  rw[h1,h2,h3,show ((l:Int)-(p:Int))=((l-p:Nat):Int) by omega] at hl
  exact UH hl
 ·unfold Tn
  rw[if_pos hw,if_pos hs,h1,h2,h3];rfl
 ·have:=hk.syms.2.2
  rw[h1,h3] at this
  have e:(q:Int)*(l:Int)=((l*q:Nat):Int):=by push_cast;exact Int.mul_comm ..
  rw[e] at this;omega
theorem nY (w:List F):∀x,x∈iv w->0<=x/\x<=15:=fun x hx=>by
 simp only[iv,List.mem_map] at hx
 obtain⟨a,_,rfl⟩:=hx
 exact Td a
theorem fP {c:AX}(hk:Fj c) {l p q:Nat}(h1:c.L=(l:Int)) (h2:c.P=(p:Int)) (h3:c.Q=(q:Int)) (hs:c.syms=l*q) {sy:List (Option Nat)}(hl:sy.length=c.syms) :
  RI c sy=oE (YJ l p q (fs (Cx c.seed (NL sy))) (bC sy))/\Uy c sy=iv (oL (YJ l p q (fs (Cx c.seed (NL sy))) (bC sy))):=by
 have hw:=hk.wev
 have hxl:(Cx c.seed (NL sy)).length=c.syms:=by rw[Dv,FP,hl]
 have hsy:CS (Cx c.seed (NL sy)) (c.Q*c.L)=true:=by
  have:iv (fs (Cx c.seed (NL sy)))=Cx c.seed (NL sy):=ZY (by
   rw[List.all_eq_true]
   intro x hx
   have:=Iw _ _ x hx
   unfold Km;rw[decide_eq_true_eq];omega)
  rw[←this,dM,decide_eq_true_eq,UL,hxl]
  exact hk.syms.2.2.symm
 have hm:EW (ni (bC sy)) ((Cx c.seed (NL sy)).length:Int)=true:=by
  rw[hxl]
  refine V5 ⟨List.Pairwise.filter _ List.pairwise_lt_range,fun j hj=>?_⟩
  have:=(List.mem_filter.1 hj).1
  rw[List.mem_range] at this
  omega
 unfold RI Uy pL od
 rw[if_pos hw,if_pos hsy,if_pos hm,if_pos hw,if_pos hsy,if_pos hm,nG,h1,h2,h3,Int.toNat_natCast,Int.toNat_natCast,Int.toNat_natCast]
 exact⟨rfl,rfl⟩
theorem Qp {c:AX}{R:List Int}{i:Nat}(h:i<c.syms):(c.syL R 0)[i]?.getD none=SM c.code (c.part R 0 i):=by
 simp[AX.syL,h]
theorem dq {c:AX}{sy:List (Option Nat)}{B:List F}{i:Nat}(hi:i<sy.length) (hB:i<B.length) {s:Nat}(hs:sy[i]?.getD none=some s) (hx:(s:Int)=(Cx c.seed (iv B))[i]?.getD 0) :
  (fs (Cx c.seed (NL sy)))[i]?.getD 0=B[i]?.getD 0:=by
 have h1:=Qy (NL sy) c.seed i (by rw[FP];exact hi)
 have h2:=Qy (iv B) c.seed i (by rw[Jl];exact hB)
 have h3:(NL sy)[i]?.getD 0=(s:Int):=by
  simp only[NL,List.getElem?_map]
  rw[List.getElem?_eq_getElem hi] at hs ⊢
  simp only[Option.getD_some,Option.map_some] at hs ⊢
  rw[hs];rfl
 have h4:0<=(iv B)[i]?.getD 0/\(iv B)[i]?.getD 0<=15:=nY B _ (D2 (by rw[Jl];exact hB))
 rw[h3,hx,h2,jC _ h4,fE] at h1
 have h5:(fs (Cx c.seed (NL sy)))[i]?.getD 0=Fin.ofNat 16 ((Cx c.seed (NL sy))[i]?.getD 0).toNat:=by
  simp only[fs,List.getElem?_map]
  rw[List.getElem?_eq_getElem (by rw[Dv,FP];exact hi)];rfl
 rw[h5,h1,Int.toNat_natCast]
 exact Fin.ext (Nat.mod_eq_of_lt (B[i]?.getD 0).isLt)
theorem Rr {f g:Nat->Nat}{q:Nat}:∀{n:Nat},(∀i,i<n->f i<=g i)->∀k,DU f q n k<=DU g q n k
 |0,_,_=>Nat.le_refl _
 |n+1,h,k=>by
  have ih:=Rr (f:=f) (g:=g) (q:=q) (n:=n) (fun i hi=>h i (by omega)) k
  have h1:=h n (by omega)
  show DU f q n k+(if n%q=k then f n else 0)<=DU g q n k+(if n%q=k then g n else 0)
  split<;>omega
theorem Q4 {c:AX}(hk:Fj c) {l p q:Nat}{e:List F}(h1:c.L=(l:Int)) (h2:c.P=(p:Int)) (h3:c.Q=(q:Int)) (b2:l<=15) (b5:p<l) (b6:1<=q) (he:e.length=(l-p)*q) (hs:c.syms=l*q)
  {sy:List (Option Nat)}(hl:sy.length=c.syms) {f:Nat->Nat}
  (hf:∀i,i<l*q->sy[i]?.getD none≠some ((Cx c.seed (iv (Sr l p q e)))[i]?.getD 0).toNat->(if (sy[i]?.getD none).isNone then 1 else 2)<=f i)
  (hc:∀k,k<q->DU f q (l*q) k<=p):RI c sy=0/\Uy c sy=iv e:=by
 obtain⟨g1,g2⟩:=fP hk h1 h2 h3 hs hl
 have hBl:(Sr l p q e).length=l*q:=Tm ..
 have hrl:(fs (Cx c.seed (NL sy))).length=l*q:=by rw[UL,Dv,FP,hl,hs]
 have key:=SU (l:=l) (p:=p) (q:=q) b2 b5 (by omega) he hrl (mB:=fun i=>(sy[i]?.getD none).isNone) (wB:=fun i=>decide (sy[i]?.getD none≠some ((Cx c.seed (iv (Sr l p q e)))[i]?.getD 0).toNat))
  (fun i hi hne hm=>by
   rw[decide_eq_true_eq]
   intro hs2
   have hx:0<=(Cx c.seed (iv (Sr l p q e)))[i]?.getD 0:=(Iw _ _ _ (D2 (by rw[Dv,Jl,hBl];exact hi))).1
   exact hne (dq (by omega) (by omega) hs2 (by omega)).symm)
  (fC:=fun i=>if (sy[i]?.getD none).isNone then 1 else if decide (sy[i]?.getD none≠some ((Cx c.seed (iv (Sr l p q e)))[i]?.getD 0).toNat) then 2 else 0) (fun i hi=>rfl)
  (fun k hkq=>Nat.le_trans (Rr (fun i hi=>by
   by_cases hw:sy[i]?.getD none=some ((Cx c.seed (iv (Sr l p q e)))[i]?.getD 0).toNat
   ·rw[hw];simp
   ·have:=hf i hi hw
    by_cases hn:(sy[i]?.getD none).isNone=true
    ·rw[if_pos hn] at this ⊢;exact this
    ·rw[if_neg hn] at this ⊢
     rw[if_pos (by rw[decide_eq_true_eq];exact hw)];exact this) k) (hc k hkq))
 have hmk:bC sy=(List.range (l*q)).filter fun i=>(sy[i]?.getD none).isNone:=by unfold bC;rw[hl,hs]
 rw[g1,g2,hmk,key]
 exact⟨rfl,rfl⟩
theorem Xj {c:AX}(hk:Fj c) {b:List Int}(hb:b.length=c.syms) (rest:List Int) {i:Nat}(hi:i<c.syms):(c.syL (IU c b++rest) 0)[i]?.getD none=some ((Cx c.seed b)[i]?.getD 0).toNat:=by
 rw[Qp hi]
 have hl:(Cx c.seed b).length=c.syms:=by rw[Dv,hb]
 unfold IU
 rw[dm c _ rest i (by omega)]
 have hx:=Iw b c.seed _ (D2 (show i<(Cx c.seed b).length by omega))
 exact VG hk.dst (by omega)
theorem f7 {c:AX}(hk:Fj c) {b:List Int}(hb:b.length=c.syms) (rest:List Int):c.find (IU c b++rest)=some 0:=by
 refine Lu.2 ⟨?_,?_,fun j hj=>by omega⟩
 ·rw[List.length_append,T3,hb];unfold AX.tot;omega
 ·rw[List.drop_zero]
  unfold IU
  rw[List.append_assoc,Ra];exact hk.errs.1
theorem eB {c:AX}(hk:Fj c) {d:List Int}(he:spE c.L c.P c.Q d=0) (rest:List Int) :
  c.find (IU c (Tn c.L c.P c.Q d)++rest)=some 0/\RI c (c.syL (IU c (Tn c.L c.P c.Q d)++rest) 0)=0/\Uy c (c.syL (IU c (Tn c.L c.P c.Q d)++rest) 0)=d:=by
 have hbl:=NS hk.wev he
 obtain⟨l,p,q,e,h1,h2,h3,b1,b2,b3,b4,b5,b6,b7,rfl,hel,hsp,hs⟩:=Tl hk he
 refine⟨f7 hk hbl rest,?_⟩
 refine Q4 hk h1 h2 h3 b2 b5 b6 hel hs (Jf ..) (f:=fun _=>0) (fun i hi hne=>?_) fun k _=>?_
 ·rw[Xj hk hbl rest (by omega),hsp] at hne
  exact absurd rfl hne
 ·have:∀n,DU (fun _=>0) q n k=0:=fun n=>by
   induction n with
   |zero=>rfl
   |succ n ih=>show DU _ q n k+(if n%q=k then 0 else 0)=0;rw[ih];split<;>rfl
  rw[this];omega
end Go.Pw
end
section
open Go Go.Pw Go.Proofs
namespace Go.Pw
set_option maxRecDepth 100000
set_option maxHeartbeats 3200000
def qT (m q:Nat) (W:Nat->List F) (k j:Nat):List F:=(List.range (m*q)).map fun i=>if i%q<k\/(i%q=k/\i/q<j) then (W (i%q))[i/q]?.getD 0 else 0
attribute [local congr] Bl A_ A' Ar Bm Ay A0 Az Aq Ak Ae Aa Av Af Aw BL BP BN BO BM BQ BF Ai Ax Aj BD BX Ah BJ BK BE BG BI BH BB BC A9 Bn BA Au Ag
attribute [local irreducible] IntKind.wrap A4 Option.getD and or
theorem Kw (L P Q:Int):CE E0 Hn [.agg [.int .i64 L,.int .i64 P,.int .i64 Q]] (.int .i64 (if Cz L P Q=true then 0 else 50)):=by
 have c1:=P8 L P
 have c2:=GM Q 1 8
 refine AP LK Ap (by simp) fun hwf=>?_
 rw[AW];unfold G1 Cz
 cases hc:De L P with
 |false =>
  rw[hc] at c1
  simp only[Bool.false_eq_true,if_false,Bool.false_and] at c1 ⊢
  (try (simp -implicitDefEqProofs only[go_sem]));repeat' first|(with_reducible first|exact tI|refine aI ?_ ?_|intro _)|((first|with_reducible refine AO ?_ ?_<;>intro _|(with_reducible refine isCall ?_);first|refine AE c1 ?_)<;>try (simp -implicitDefEqProofs only[go_sem]))|simp (disch:=omega) only[Al]
  all_goals first|rfl|(simp;done)|skip
 |true =>
  rw[hc] at c1
  simp only[if_true,Bool.true_and] at c1 ⊢
  by_cases h:1<=Q/\Q<=8
  ·rw[decide_eq_true h] at c2 ⊢
   (try (simp -implicitDefEqProofs only[go_sem]));repeat' first|(with_reducible first|exact tI|refine aI ?_ ?_|intro _)|((first|with_reducible refine AO ?_ ?_<;>intro _|(with_reducible refine isCall ?_);first|refine AE c1 ?_|refine AE c2 ?_)<;>try (simp -implicitDefEqProofs only[go_sem]))|simp (disch:=omega) only[Al]
   all_goals first|rfl|(simp;done)|skip
  ·rw[decide_eq_false h] at c2 ⊢
   (try (simp -implicitDefEqProofs only[go_sem]));repeat' first|(with_reducible first|exact tI|refine aI ?_ ?_|intro _)|((first|with_reducible refine AO ?_ ?_<;>intro _|(with_reducible refine isCall ?_);first|refine AE c1 ?_|refine AE c2 ?_)<;>try (simp -implicitDefEqProofs only[go_sem]))|simp (disch:=omega) only[Al]
   all_goals first|rfl|(simp;done)|skip
end Go.Pw
end
section
open Go Go.Pw Go.Proofs
namespace Go.Pw
set_option maxRecDepth 100000
set_option maxHeartbeats 3200000
def Zd:AX:={ code:=gC,L:=3,P:=2,Q:=1,nm:=false,mark:=[1,1,1,0],seed:=1,errs:=0 }
def kh:List Int:=[1,1,1,0,1,0,1,0,1,0,0,1,1,0,1,0,1,0,0,1,1,0,1,0,0,1,0,0]
theorem RP:Zd.ok=true:=by decide +kernel
theorem mD:Zw Zd [1]=kh:=by decide +kernel
theorem gE:spE Zd.L Zd.P Zd.Q [1]=0:=by decide +kernel
theorem oB:Px Zd=1:=by decide +kernel
theorem oA:Mp kh=true:=by decide +kernel
theorem gD:Vm Zd kh=.tup [.list false (Am [1]),.int .i64 0,.int .i64 0]:=by
 obtain⟨h1,h2,h3⟩:=eB (Dh RP) gE []
 have hw:=mD
 unfold Zw at hw
 rw[if_pos RP,if_pos gE] at hw
 rw[hw,List.append_nil] at h1 h2 h3
 unfold Vm S5 Vo Vn
 simp only[RP,oA,if_true,h1,h2,h3]
 rfl
attribute [local congr] Bl A_ A' Ar Bm Ay A0 Az Aq Ak Ae Aa Av Af Aw BL BP BN BO BM BQ BF Ai Ax Aj BD BX Ah BJ BK BE BG BI BH BB BC A9 Bn BA Au Ag
attribute [local irreducible] IntKind.wrap A4 Option.getD and or
theorem No:CE E0 KM [] (.tup [Dg Zd,.list false (Am kh)]):=by
 have c1:=Np
 refine AP N7 Ap (by simp) fun hwf=>?_
 rw[AW];unfold I4
 (try (simp -implicitDefEqProofs only[go_sem,A8,A5]));repeat' first|(with_reducible first|exact tI|refine aI ?_ ?_|intro _)|((first|with_reducible refine AO ?_ ?_<;>intro _|(with_reducible refine isCall ?_);first|refine AE c1 ?_)<;>try (simp -implicitDefEqProofs only[go_sem,A8,A5]))|simp (disch:=omega) only[Al]
 all_goals first|rfl|skip
theorem Gu:CE E0 Me [] (.bool true):=by
 have c1:=No
 have c2:=Fy Zd false [1]
 have c3:=GP Zd false kh
 have c4:=IK Zd
 have c5:=Dy false false kh kh
 rw[decide_eq_true rfl] at c5
 have e1:oc Zd [1]=0:=by unfold oc;rw[if_pos RP,if_pos gE]
 have e2:=(HT RP).2
 rw[mD,e1] at c2
 rw[gD] at c3
 rw[oB,e2] at c4
 obtain⟨W,hW⟩:∃W,kh=W:=⟨_,rfl⟩
 have hWe:kh.isEmpty=false:=rfl
 rw[hWe] at c2
 rw[hW] at c1 c2 c3 c5
 refine AP QF Ap (by simp) fun hwf=>?_
 rw[AW];unfold K3
 have hc:Dg Zd=.agg (Ws Zd):=rfl
 (try (simp -implicitDefEqProofs only[go_sem,AG,AF,ZB]));repeat' first|(with_reducible first|exact tI|refine aI ?_ ?_|intro _)|((first|with_reducible refine AO ?_ ?_<;>intro _|(with_reducible refine isCall ?_);first|refine AE c1 ?_|refine AE c2 ?_|refine AE c3 ?_|refine AE c4 ?_|refine AE c5 ?_)<;>try (simp -implicitDefEqProofs only[go_sem,AG,AF,ZB]))|simp (disch:=omega) only[Al]
 all_goals first|rfl|omega|(exfalso;rename_i h;exact h rfl)|skip
theorem EH (c:AX):CE E0 Ma [Dg c] (.int .i64 (IX c)):=by
 have c1:=P9 c.code
 have c2:=Kw c.L c.P c.Q
 have c4:=O5 c.nm c.mark
 have c5:=Iz c.seed 1 127
 have c6:=Iz c.errs 0 16
 have e1:c.code.ok=false->LI c.code.ok 40=40:=fun h=>by rw[h];rfl
 have e0:c.code.ok=true->LI c.code.ok 40=0:=fun h=>by rw[h];rfl
 have no:(c.code.ok && (Cz c.L c.P c.Q && (decide (c.Q*c.L<=32) && (Co c.mark && (Cw c.seed 1 127 && Cw c.errs 0 16)))))=false->IX c=130:=fun h=>(Gt (by
  unfold AX.ok
  cases h1:c.code.ok<;>cases h2:Cz c.L c.P c.Q<;>cases h3:decide (c.Q*c.L<=32)<;>cases h4:Co c.mark<;>cases h5:Cw c.seed 1 127<;>cases h6:Cw c.errs 0 16<;>simp_all)).2
 refine AP QB Ap (by simp) fun hwf=>?_
 rw[AW];unfold Kz
 cases h1:c.code.ok with
 |false =>
  rw[no (by simp only[h1,Bool.false_and])];rw[e1 h1] at c1
  (try (simp -implicitDefEqProofs only[go_sem,AG,AF]));repeat' first|(with_reducible first|exact tI|refine aI ?_ ?_|intro _)|((first|with_reducible refine AO ?_ ?_<;>intro _|(with_reducible refine isCall ?_);first|refine AE c1 ?_)<;>try (simp -implicitDefEqProofs only[go_sem,AG,AF]))|simp (disch:=omega) only[Al]|((with_reducible refine A1 ?_);refine⟨_,rfl,?_,?_⟩)
  all_goals first|rfl|skip
 |true =>
 rw[e0 h1] at c1
 cases h2:Cz c.L c.P c.Q with
 |false =>
  rw[no (by simp only[h1,h2,Bool.true_and,Bool.false_and])];rw[h2] at c2;simp only[Bool.false_eq_true,if_false] at c2
  (try (simp -implicitDefEqProofs only[go_sem,AG,AF]));repeat' first|(with_reducible first|exact tI|refine aI ?_ ?_|intro _)|((first|with_reducible refine AO ?_ ?_<;>intro _|(with_reducible refine isCall ?_);first|refine AE c1 ?_|refine AE c2 ?_)<;>try (simp -implicitDefEqProofs only[go_sem,AG,AF]))|simp (disch:=omega) only[Al]|((with_reducible refine A1 ?_);refine⟨_,rfl,?_,?_⟩)
  all_goals first|rfl|skip
 |true =>
 rw[h2] at c2;simp only[if_true] at c2
 have c3:=CT c h2
 by_cases h3:c.Q*c.L<=32
 ·have h3':¬32<c.Q*c.L:=by omega
  cases h4:Co c.mark with
  |false =>
   rw[no (by simp only[h1,h2,h4,Bool.true_and,Bool.false_and,Bool.and_false])];rw[h4] at c4
   (try (simp -implicitDefEqProofs only[go_sem,AG,AF,h3']));repeat' first|(with_reducible first|exact tI|refine aI ?_ ?_|intro _)|((first|with_reducible refine AO ?_ ?_<;>intro _|(with_reducible refine isCall ?_);first|refine AE c1 ?_|refine AE c2 ?_|refine AE c3 ?_|refine AE c4 ?_)<;>try (simp -implicitDefEqProofs only[go_sem,AG,AF,h3']))|simp (disch:=omega) only[Al]|((with_reducible refine A1 ?_);refine⟨_,rfl,?_,?_⟩)
   all_goals first|rfl|skip
  |true =>
  rw[h4] at c4
  cases h5:Cw c.seed 1 127 with
  |false =>
   rw[no (by simp only[h1,h2,h4,h5,Bool.true_and,Bool.false_and,Bool.and_false])];rw[h5] at c5
   (try (simp -implicitDefEqProofs only[go_sem,AG,AF,h3']));repeat' first|(with_reducible first|exact tI|refine aI ?_ ?_|intro _)|((first|with_reducible refine AO ?_ ?_<;>intro _|(with_reducible refine isCall ?_);first|refine AE c1 ?_|refine AE c2 ?_|refine AE c3 ?_|refine AE c4 ?_|refine AE c5 ?_)<;>try (simp -implicitDefEqProofs only[go_sem,AG,AF,h3']))|simp (disch:=omega) only[Al]|((with_reducible refine A1 ?_);refine⟨_,rfl,?_,?_⟩)
   all_goals first|rfl|skip
  |true =>
  rw[h5] at c5
  cases h6:Cw c.errs 0 16 with
  |false =>
   rw[no (by simp only[h1,h2,h4,h5,h6,Bool.true_and,Bool.false_and,Bool.and_false])];rw[h6] at c6
   (try (simp -implicitDefEqProofs only[go_sem,AG,AF,h3']));repeat' first|(with_reducible first|exact tI|refine aI ?_ ?_|intro _)|((first|with_reducible refine AO ?_ ?_<;>intro _|(with_reducible refine isCall ?_);first|refine AE c1 ?_|refine AE c2 ?_|refine AE c3 ?_|refine AE c4 ?_|refine AE c5 ?_|refine AE c6 ?_)<;>try (simp -implicitDefEqProofs only[go_sem,AG,AF,h3']))|simp (disch:=omega) only[Al]|((with_reducible refine A1 ?_);refine⟨_,rfl,?_,?_⟩)
   all_goals first|rfl|skip
  |true =>
  rw[h6] at c6
  have hok:JF c.code 16=true->IX c=0:=fun h=>(HT (by
   unfold AX.ok;rw[h1,h2,decide_eq_true h3,h4,h5,h6,h];simp only[Bool.and_self])).2
  have hnok:JF c.code 16=false->IX c=130:=fun h=>(Gt (by
   unfold AX.ok;rw[h,Bool.and_false,Bool.and_false,Bool.and_false,Bool.and_false,Bool.and_false,Bool.and_false])).2
  (try (simp -implicitDefEqProofs only[go_sem,AG,AF,h3']));repeat' first|(with_reducible first|exact tI|refine aI ?_ ?_|intro _)|((first|with_reducible refine AO ?_ ?_<;>intro _|(with_reducible refine isCall ?_);first|refine AE c1 ?_|refine AE c2 ?_|refine AE c3 ?_|refine AE c4 ?_|refine AE c5 ?_|refine AE c6 ?_)<;>try (simp -implicitDefEqProofs only[go_sem,AG,AF,h3']))|simp (disch:=omega) only[Al]|((with_reducible refine A1 ?_);refine⟨_,rfl,?_,?_⟩)
  all_goals first|omega|(simp;done)|(simp;omega)|skip
  refine AY (α:=Nat) (l0:=?l1) (m0:=?m1) (fun x=>[(3,.d (.int .i64 (x:Int)))]) (fun x=>[]) (fun x=>x<=16/\JF c.code x=true) (fun x=>16-x) 0 ?h01 ?he1 ?he21 ?hI1 ?step1
  case h01=>(simp -implicitDefEqProofs only[go_sem];rfl)
  case he1=>rfl
  case he21=>rfl
  case' step1=>(rintro s hI;try dsimp only at hI)
  case' hI1=>try dsimp only
  ·exact⟨Nat.zero_le _,rfl⟩
  ·obtain⟨i1,i2⟩:=hI
   by_cases hs:s<16
   ·have hs':(s:Int)<16:=by omega
    have hws:IntKind.i64.wrap ((s:Int)+1)=((s+1:Nat):Int):=by rw[AZ _ (by omega)];omega
    have cs:=Dw c h1 s hs
    (try (simp -implicitDefEqProofs only[go_sem,hs']));repeat' first|(with_reducible first|exact tI|refine aI ?_ ?_|intro _)|((first|with_reducible refine AO ?_ ?_<;>intro _)<;>try (simp -implicitDefEqProofs only[go_sem,hs']))|simp (disch:=omega) only[Al]|((with_reducible refine A1 ?_);refine⟨_,rfl,?_,?_⟩)
    all_goals first|omega|(simp;done)|(simp;omega)|skip
    refine AY (α:=Nat) (l0:=?l2) (m0:=?m2) (fun x=>[(4,.d (.int .i64 (x:Int)))]) (fun x=>[]) (fun x=>x<=s/\∀j,j<x->c.code.stm j≠c.code.stm s) (fun x=>s-x) 0 ?h02 ?he2 ?he22 ?hI2 ?step2
    case h02=>(simp -implicitDefEqProofs only[go_sem];rfl)
    case he2=>rfl
    case he22=>rfl
    case' step2=>(rintro k hI2;try dsimp only at hI2)
    case' hI2=>try dsimp only
    ·exact⟨Nat.zero_le _,fun j hj=>by omega⟩
    ·obtain⟨k1,k2⟩:=hI2
     by_cases hk:k<s
     ·have hk':(k:Int)<(s:Int):=by omega
      have hwk:IntKind.i64.wrap ((k:Int)+1)=((k+1:Nat):Int):=by rw[AZ _ (by omega)];omega
      have ck:=Dw c h1 k (by omega)
      have c8:=Dy false false (c.code.stm s) (c.code.stm k)
      by_cases he:c.code.stm k=c.code.stm s
      ·rw[decide_eq_true he.symm] at c8
       rw[hnok (gO hs hk he)]
       (try (simp -implicitDefEqProofs only[go_sem,AG,AF,hk']));repeat' first|(with_reducible first|exact tI|refine aI ?_ ?_|intro _)|((first|with_reducible refine AO ?_ ?_<;>intro _|(with_reducible refine isCall ?_);first|refine AE cs ?_|refine AE ck ?_|refine AE c8 ?_)<;>try (simp -implicitDefEqProofs only[go_sem,AG,AF,hk']))|simp (disch:=omega) only[Al]|((with_reducible refine A1 ?_);refine⟨_,rfl,?_,?_⟩)
       all_goals first|omega|(simp;done)|(simp;omega)|skip
       all_goals first|rfl|skip
      ·rw[decide_eq_false fun e=>he e.symm] at c8
       (try (simp -implicitDefEqProofs only[go_sem,AG,AF,hk',hwk]));repeat' first|(with_reducible first|exact tI|refine aI ?_ ?_|intro _)|((first|with_reducible refine AO ?_ ?_<;>intro _|(with_reducible refine isCall ?_);first|refine AE cs ?_|refine AE ck ?_|refine AE c8 ?_)<;>try (simp -implicitDefEqProofs only[go_sem,AG,AF,hk',hwk]))|simp (disch:=omega) only[Al]|((with_reducible refine A1 ?_);refine⟨_,rfl,?_,?_⟩)
       all_goals first|omega|(simp;done)|(simp;omega)|skip
       rename_i j hj
       by_cases e:j=k
       ·rw[e];exact he
       ·exact k2 j (by omega)
     ·have hk':¬(k:Int)<(s:Int):=by omega
      have hds:=Wd i2 fun j hj=>k2 j (by omega)
      (try (simp -implicitDefEqProofs only[go_sem,hk',hws]));repeat' first|(with_reducible first|exact tI|refine aI ?_ ?_|intro _)|((first|with_reducible refine AO ?_ ?_<;>intro _)<;>try (simp -implicitDefEqProofs only[go_sem,hk',hws]))|simp (disch:=omega) only[Al]|((with_reducible refine A1 ?_);refine⟨_,rfl,?_,?_⟩)
      all_goals first|omega|(simp;done)|(simp;omega)|skip
      all_goals first|rfl|skip
   ·have hs16:s=16:=by omega
    subst hs16
    rw[hok i2]
    (try (simp -implicitDefEqProofs only[go_sem]));repeat' first|(with_reducible first|exact tI|refine aI ?_ ?_|intro _)|((first|with_reducible refine AO ?_ ?_<;>intro _)<;>try (simp -implicitDefEqProofs only[go_sem]))|simp (disch:=omega) only[Al]|((with_reducible refine A1 ?_);refine⟨_,rfl,?_,?_⟩)
    all_goals first|omega|(simp;done)|(simp;omega)|skip
    all_goals first|rfl|skip
 ·have h3':32<c.Q*c.L:=by omega
  rw[no (by rw[decide_eq_false h3];simp only[h1,h2,Bool.true_and,Bool.false_and])]
  (try (simp -implicitDefEqProofs only[go_sem,AG,AF,h3']));repeat' first|(with_reducible first|exact tI|refine aI ?_ ?_|intro _)|((first|with_reducible refine AO ?_ ?_<;>intro _|(with_reducible refine isCall ?_);first|refine AE c1 ?_|refine AE c2 ?_|refine AE c3 ?_)<;>try (simp -implicitDefEqProofs only[go_sem,AG,AF,h3']))|simp (disch:=omega) only[Al]|((with_reducible refine A1 ?_);refine⟨_,rfl,?_,?_⟩)
  all_goals first|rfl|skip
end Go.Pw
end
