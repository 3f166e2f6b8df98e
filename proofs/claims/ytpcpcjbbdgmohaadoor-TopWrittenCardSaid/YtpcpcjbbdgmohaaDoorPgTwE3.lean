/- A part of the proof. -/
import Derived.Test.YtpcpcjbbdgmohaaDoorPgTwD
import Derived.Test.YtpcpcjbbdgmohaaDoorTwE0
set_option linter.all false
open Go Go.Pw Go.Proofs
namespace Go.Pw
set_option maxRecDepth 100000
set_option maxHeartbeats 6400000
section
attribute [local congr] Bx A9 A_ Au Bz A0 A2 A1 Ar An Ai Ab Av Aj Ax BG BK BI BJ BH BL BD Ay Aw Al Az Am BB BT Ak BE BF BC A' BA B1
attribute [local irreducible] IntKind.wrap BM Option.getD and or
theorem NI (c:GCode) (hoT:c.ok=true->c.order.2=3) (L P Q:Int) (n1 n2:Bool) (d fl:List Int):DE E0 Ea [E7 c,.agg [.int .i64 L,.int .i64 P,.int .i64 Q],.agg [.list n1 (A4 d),.list n2 (A4 fl)]] (.bool true):=by
 have c0:=IY
 have cF:=KP c
 have cC:=Ic c
 have cF5:=KO L P
 have cW:=Fo L P Q
 have cA:=DQ n1 d (Q*(L-P))
 refine AP GH A5 (by simp) fun hwf=>?_
 rw[AU];unfold Er
 cases hfar:c.far with
 |true =>
  rw[hfar] at cF
  (try (simp -implicitDefEqProofs only[go_sem,AH,AF]));repeat' first|(with_reducible first|exact tI|refine aI ?_ ?_|intro _)|((first|with_reducible refine AN ?_ ?_<;>intro _|(with_reducible refine isCall ?_);first|refine AG c0 ?_|refine AG cF ?_)<;>try (simp -implicitDefEqProofs only[go_sem,AH,AF]))|simp (disch:=omega) only[Ap]|((with_reducible refine Ad ?_);refine⟨(_,_,_),rfl,?_,?_⟩)|((with_reducible refine AZ ?_);refine⟨(_,_),rfl,?_,?_⟩)|((with_reducible refine Ae ?_);refine⟨_,rfl,?_,?_⟩)
  all_goals first|rfl|skip
 |false =>
 rw[hfar] at cF
 cases hc:c.ok with
 |false =>
  rw[hc,show IJ false 40=40 from rfl] at cC
  (try (simp -implicitDefEqProofs only[go_sem,AH,AF]));repeat' first|(with_reducible first|exact tI|refine aI ?_ ?_|intro _)|((first|with_reducible refine AN ?_ ?_<;>intro _|(with_reducible refine isCall ?_);first|refine AG c0 ?_|refine AG cF ?_|refine AG cC ?_)<;>try (simp -implicitDefEqProofs only[go_sem,AH,AF]))|simp (disch:=omega) only[Ap]|((with_reducible refine Ad ?_);refine⟨(_,_,_),rfl,?_,?_⟩)|((with_reducible refine AZ ?_);refine⟨(_,_),rfl,?_,?_⟩)|((with_reducible refine Ae ?_);refine⟨_,rfl,?_,?_⟩)
  all_goals first|rfl|skip
 |true =>
 rw[hc,show IJ true 40=0 from rfl] at cC
 cases hf5:(DI L P && (decide (10<L) || decide (6<P))) with
 |true =>
  rw[hf5] at cF5
  (try (simp -implicitDefEqProofs only[go_sem,AH,AF]));repeat' first|(with_reducible first|exact tI|refine aI ?_ ?_|intro _)|((first|with_reducible refine AN ?_ ?_<;>intro _|(with_reducible refine isCall ?_);first|refine AG c0 ?_|refine AG cF ?_|refine AG cC ?_|refine AG cF5 ?_)<;>try (simp -implicitDefEqProofs only[go_sem,AH,AF]))|simp (disch:=omega) only[Ap]|((with_reducible refine Ad ?_);refine⟨(_,_,_),rfl,?_,?_⟩)|((with_reducible refine AZ ?_);refine⟨(_,_),rfl,?_,?_⟩)|((with_reducible refine Ae ?_);refine⟨_,rfl,?_,?_⟩)
  all_goals first|rfl|skip
 |false =>
 rw[hf5] at cF5
 cases hw:GB L P Q with
 |false =>
  rw[hw] at cW
  simp only[Bool.false_eq_true,if_false] at cW
  (try (simp -implicitDefEqProofs only[go_sem,AH,AF]));repeat' first|(with_reducible first|exact tI|refine aI ?_ ?_|intro _)|((first|with_reducible refine AN ?_ ?_<;>intro _|(with_reducible refine isCall ?_);first|refine AG c0 ?_|refine AG cF ?_|refine AG cC ?_|refine AG cF5 ?_|refine AG cW ?_)<;>try (simp -implicitDefEqProofs only[go_sem,AH,AF]))|simp (disch:=omega) only[Ap]|((with_reducible refine Ad ?_);refine⟨(_,_,_),rfl,?_,?_⟩)|((with_reducible refine AZ ?_);refine⟨(_,_),rfl,?_,?_⟩)|((with_reducible refine Ae ?_);refine⟨_,rfl,?_,?_⟩)
  all_goals first|rfl|skip
 |true =>
 rw[hw] at cW
 simp only[if_true] at cW
 by_cases h4:4<Q
 ·(try (simp -implicitDefEqProofs only[go_sem,AH,AF,h4]));repeat' first|(with_reducible first|exact tI|refine aI ?_ ?_|intro _)|((first|with_reducible refine AN ?_ ?_<;>intro _|(with_reducible refine isCall ?_);first|refine AG c0 ?_|refine AG cF ?_|refine AG cC ?_|refine AG cF5 ?_|refine AG cW ?_)<;>try (simp -implicitDefEqProofs only[go_sem,AH,AF,h4]))|simp (disch:=omega) only[Ap]|((with_reducible refine Ad ?_);refine⟨(_,_,_),rfl,?_,?_⟩)|((with_reducible refine AZ ?_);refine⟨(_,_),rfl,?_,?_⟩)|((with_reducible refine Ae ?_);refine⟨_,rfl,?_,?_⟩)
  all_goals first|rfl|skip
 obtain⟨l,p,q,e1,e2,e3,b1,b2,b3,b4,b5,b6,b7,hcc⟩:=LA hw
 have hmul:(q:Int)*((l:Int)-(p:Int))=((q*(l-p):Nat):Int):=by rw[show (l:Int)-(p:Int)=((l-p:Nat):Int) by omega,←Int.natCast_mul]
 have hmb:q*(l-p)<=8*15:=Nat.mul_le_mul (by omega) (by omega)
 have w1:IntKind.i64.wrap (L-P)=L-P:=Af _ (by omega)
 have w2:IntKind.i64.wrap (Q*(L-P))=Q*(L-P):=Af _ (by rw[e1,e2,e3,hmul];omega)
 cases hs:CX d (Q*(L-P)) with
 |false =>
  rw[hs] at cA
  (try (simp -implicitDefEqProofs only[go_sem,AH,AF,h4,w1,w2]));repeat' first|(with_reducible first|exact tI|refine aI ?_ ?_|intro _)|((first|with_reducible refine AN ?_ ?_<;>intro _|(with_reducible refine isCall ?_);first|refine AG c0 ?_|refine AG cF ?_|refine AG cC ?_|refine AG cF5 ?_|refine AG cW ?_|refine AG cA ?_)<;>try (simp -implicitDefEqProofs only[go_sem,AH,AF,h4,w1,w2]))|simp (disch:=omega) only[Ap]|((with_reducible refine Ad ?_);refine⟨(_,_,_),rfl,?_,?_⟩)|((with_reducible refine AZ ?_);refine⟨(_,_),rfl,?_,?_⟩)|((with_reducible refine Ae ?_);refine⟨_,rfl,?_,?_⟩)
  all_goals first|rfl|skip
 |true =>
 rw[hs] at cA
 by_cases h40:40<(fl.length:Int)
 ·(try (simp -implicitDefEqProofs only[go_sem,AH,AF,h4,w1,w2,h40]));repeat' first|(with_reducible first|exact tI|refine aI ?_ ?_|intro _)|((first|with_reducible refine AN ?_ ?_<;>intro _|(with_reducible refine isCall ?_);first|refine AG c0 ?_|refine AG cF ?_|refine AG cC ?_|refine AG cF5 ?_|refine AG cW ?_|refine AG cA ?_)<;>try (simp -implicitDefEqProofs only[go_sem,AH,AF,h4,w1,w2,h40]))|simp (disch:=omega) only[Ap]|((with_reducible refine Ad ?_);refine⟨(_,_,_),rfl,?_,?_⟩)|((with_reducible refine AZ ?_);refine⟨(_,_),rfl,?_,?_⟩)|((with_reducible refine Ae ?_);refine⟨_,rfl,?_,?_⟩)
  all_goals first|rfl|skip
 have cP:=Gi L P Q n1 d
 have hspE:eX L P Q d=0:=by unfold eX;rw[if_pos hw,if_pos hs]
 obtain⟨B,hB⟩:∃B,Z8 L P Q d=B:=⟨_,rfl⟩
 have hBv:B=iv (XQ l p q (fs d)):=by rw[←hB];unfold Z8;rw[if_pos hw,if_pos hs,e1,e2,e3];rfl
 have hBl:B.length=l*q:=by rw[hBv,Kt,LE]
 have hQL:Q*L=((l*q:Nat):Int):=by rw[e1,e3,Nat.mul_comm];push_cast;rfl
 have hqlb:l*q<=15*8:=Nat.mul_le_mul b2 b7
 have hql0:1*1<=l*q:=Nat.mul_le_mul (by omega) b6
 rw[hspE,hB] at cP
 have hBe:B.isEmpty=false:=J2 fun e=>by rw[e] at hBl;simp at hBl;omega
 rw[hBe] at cP
 have cAB:=DQ false B (Q*L)
 have hsB:CX B (Q*L)=true:=by rw[hBv,Nj,decide_eq_true_eq,LE];exact hQL.symm
 rw[hsB] at cAB
 have w3:IntKind.i64.wrap (Q*L)=Q*L:=Af _ (by omega)
 have hBr:∀i,i<B.length->0<=B[i]?.getD 0/\B[i]?.getD 0<=15:=fun i hi=>by
  rw[hBv] at hi ⊢
  exact Uy _ hi
 have cO:=Iv c
 have ho:=MM c hc
 have hd:=GCode.ok_head hc
 obtain⟨b,hb1,hb2,hb3⟩:=Sg hc
 have hz:=S9 hc
 have key:=fun hf hv=>@JD c hc L P Q hw d fl hs B hB (l*q) (by rw[hQL]) hf hv
 have hq0:0<=Q:=by omega
 have hqb:Q<=1073741824:=by omega
 have hqt:Q.toNat=q:=by omega
 obtain⟨K,hK⟩:∃K,4/b=K:=⟨_,rfl⟩
 have hK4:K=4\/K=2:=by rcases hb2 with rfl|rfl<;>omega
 have wK:IntKind.i64.wrap ((4:Int).tdiv c.bits)=(K:Int):=by
  rw[hb1]
  rcases hb2 with rfl|rfl
  ·rw[show (4:Int).tdiv ((1:Nat):Int)=4 from rfl,Af 4 (by omega)];omega
  ·rw[show (4:Int).tdiv ((2:Nat):Int)=2 from rfl,Af 2 (by omega)];omega
 have hbne:¬c.bits=0:=by omega
 obtain⟨od,hod⟩:∃od,c.order.1=od:=⟨_,rfl⟩
 obtain⟨oe,hoe⟩:∃oe,c.order.2=oe:=⟨_,rfl⟩
 rw[hod,hoe] at cO
 rw[hoe] at ho
 have ho2:¬(¬oe=0/\¬oe=3):=by omega
 have hlB:(B.length:Int)=((l*q:Nat):Int):=by omega
 have wKm:IntKind.i64.wrap ((K:Int)-1)=((K-1:Nat):Int):=by rw[Af _ (by omega)];omega
 have hoe0:oe=0\/oe=3:=ho
 have wb:IntKind.u64.wrap c.bits=c.bits:=Na _ (by omega)
 have hord:oe=0->od=1->∀s:Nat,∀l,(c.decR 0 (c.stm s)).1=some l->l=J9 b (s:Int):=fun h0 h1 s l hl=>by
  obtain⟨l',q1,q2,q3,q4⟩:=NT hc s
  rw[q1] at hl
  rw[←Option.some.inj hl,←hb3]
  exact q4 (by rw[hoe,h0]) (by rw[hod,h1])
 have ho:oe=3:=by rw[←hoe];exact hoT hc
 subst ho
 (try (simp -implicitDefEqProofs only[go_sem,AH,AF,h4,w1,w2,h40,w3,wK,hbne,hq0,hqb]));repeat' first|(with_reducible first|exact tI|refine aI ?_ ?_|intro _)|((first|with_reducible refine AN ?_ ?_<;>intro _|(with_reducible refine isCall ?_);first|refine AG c0 ?_|refine AG cF ?_|refine AG cC ?_|refine AG cF5 ?_|refine AG cW ?_|refine AG cA ?_|refine AG cP ?_|refine AG cO ?_|refine AG cAB ?_)<;>try (simp -implicitDefEqProofs only[go_sem,AH,AF,h4,w1,w2,h40,w3,wK,hbne,hq0,hqb]))|simp (disch:=omega) only[Ap]|((with_reducible refine Ad ?_);refine⟨(_,_,_),rfl,?_,?_⟩)|((with_reducible refine AZ ?_);refine⟨(_,_),rfl,?_,?_⟩)|((with_reducible refine Ae ?_);refine⟨_,rfl,?_,?_⟩)
 all_goals first|omega|(simp<;>omega)|skip
 rw[hqt,Y7 (Cq c fl B) q]
 refine AX (α:=Nat×Bool×Bool) (l0:=?l1) (m0:=?m1) (fun x=>[(15,.d (.int .i64 (x.1:Int)))]) (fun x=>[(115,.row 3 1 false (A4 (KB (Cq c fl B) q x.1))),(250,.row 3 1 x.2.1 (A4 (ni (KM c fl B x.1)))),(288,.row 3 1 x.2.2 (A4 (Pc c fl B x.1)))]) (fun x=>x.1<=l*q/\x.2.1=(KM c fl B x.1).isEmpty/\x.2.2=decide (x.1=0)/\∀j,j<x.1->0<=F3 c fl B j/\F3 c fl B j<=15) (fun x=>l*q-x.1) (0,true,true) ?h01 ?he1 ?he21 ?hI1 ?step1
 case h01=>(simp -implicitDefEqProofs only[go_sem];rfl)
 case he1=>rfl
 case he21=>rfl
 case' step1=>(rintro⟨i,e,f⟩ hI;try dsimp only at hI)
 case' hI1=>try dsimp only
 ·exact⟨Nat.zero_le _,rfl,rfl,fun j hj=>by omega⟩
 ·obtain⟨i1,i2,i3,i4⟩:=hI
  change e=(KM c fl B i).isEmpty at i2
  change f=decide (i=0) at i3
  by_cases hi:i<l*q
  ·have hi':(i:Int)<((l*q:Nat):Int):=by omega
   have hiB:i<B.length:=by omega
   have hwi:IntKind.i64.wrap ((i:Int)+1)=((i+1:Nat):Int):=by rw[Af _ (by omega)];omega
   have hbr:=hBr i hiB
   obtain⟨s,hsv⟩:∃s:Nat,B[i]?.getD 0=(s:Int):=⟨(B[i]?.getD 0).toNat,by omega⟩
   rw[hsv] at hbr
   (try (simp -implicitDefEqProofs only[go_sem,AH,AF,hlB,hi',wKm]));repeat' first|(with_reducible first|exact tI|refine aI ?_ ?_|intro _)|((first|with_reducible refine AN ?_ ?_<;>intro _)<;>try (simp -implicitDefEqProofs only[go_sem,AH,AF,hlB,hi',wKm]))|simp (disch:=omega) only[Ap]|((with_reducible refine Ad ?_);refine⟨(_,_,_),rfl,?_,?_⟩)|((with_reducible refine AZ ?_);refine⟨(_,_),rfl,?_,?_⟩)|((with_reducible refine Ae ?_);refine⟨_,rfl,?_,?_⟩)
   all_goals first|omega|(simp<;>omega)|skip
   refine AX (α:=Nat×Int×Bool) (l0:=?l2) (m0:=?m2) (fun x=>[(17,.d (.int .i64 x.2.1))]) (fun x=>[(146,.row 3 1 x.2.2 (A4 ((J9 b (s:Int)).take x.1)))]) (fun x=>x.1<=K/\x.2.1=(K:Int)-1-x.1/\x.2.2=decide (x.1=0)) (fun x=>K-x.1) (0,((K-1:Nat):Int),true) ?h02 ?he2 ?he22 ?hI2 ?step2
   case h02=>(simp -implicitDefEqProofs only[go_sem];rfl)
   case he2=>rfl
   case he22=>rfl
   case' step2=>(rintro⟨k,a,nl⟩ hI2;try dsimp only at hI2)
   case' hI2=>try dsimp only
   ·exact⟨Nat.zero_le _,by show ((K-1:Nat):Int)=(K:Int)-1-((0:Nat):Int);omega,rfl⟩
   ·obtain⟨k1,k2,k3⟩:=hI2
    change a=(K:Int)-1-k at k2
    change nl=decide (k=0) at k3
    by_cases hk:k<K
    ·have ha0:0<=a:=by omega
     have hwa:IntKind.i64.wrap (a-1)=a-1:=Af _ (by omega)
     have hm4:(K-1-k)*b<=4*2:=Nat.mul_le_mul (by omega) (by omega)
     have hwab:IntKind.i64.wrap (a*c.bits)=(((K-1-k)*b:Nat):Int):=by
      rw[hb1,k2,show (K:Int)-1-(k:Int)=((K-1-k:Nat):Int) by omega,←Int.natCast_mul];exact Af _ (by omega)
     have hword:=PM hb2 hK hk (s:=s) (by omega)
     have hstep:=PN (b:=b) (k:=k) (s:Int) (by omega)
     have hl4:((J9 b (s:Int)).take k).length<=4:=by rw[List.length_take,FA];have:=Nat.div_le_self 4 b;omega
     have hfe:false=decide (k+1=0):=by simp
     (try (simp -implicitDefEqProofs only[go_sem,AH,AF,hlB,hi',hiB,hsv,ha0,hwab,wb,hwa]));repeat' first|(with_reducible first|exact tI|refine aI ?_ ?_|intro _)|((first|with_reducible refine AN ?_ ?_<;>intro _)<;>try (simp -implicitDefEqProofs only[go_sem,AH,AF,hlB,hi',hiB,hsv,ha0,hwab,wb,hwa]))|simp (disch:=omega) only[Ap]|((with_reducible refine Ad ?_);refine⟨(_,_,_),rfl,?_,?_⟩)|((with_reducible refine AZ ?_);refine⟨(_,_),rfl,?_,?_⟩)|((with_reducible refine Ae ?_);refine⟨_,rfl,?_,?_⟩)
     all_goals first|omega|(simp<;>omega)|skip
     rw[hb3,hword,hstep]
     exact⟨(k+1,a-1,false),rfl,⟨by show k+1<=K;omega,by show a-1=(K:Int)-1-((k+1:Nat):Int);omega,hfe⟩,by show K-(k+1)<K-k;omega⟩
    ·have ha0:¬0<=a:=by omega
     have hke:k=K:=by omega
     have htk:(J9 b (s:Int)).take k=J9 b (s:Int):=List.take_of_length_le (by rw[FA];omega)
     have hnl:nl=false:=by rw[k3];exact decide_eq_false (by omega)
     rw[htk,hnl]
     have hst:=NK c s
     have cE:=Fe c 0 false (J9 c.bits.toNat (s:Int))
     rw[U7 hc,J2 (XO hc s),hb3] at cE
     have hszK:c.sz=K*c.out.toNat:=by unfold GCode.sz;rw[hb3,hK]
     have wKo:IntKind.i64.wrap ((K:Int)*c.out)=((c.sz:Nat):Int):=by
      rw[hszK];push_cast;rw[Int.toNat_of_nonneg (by omega)]
      refine Af _ ?_
      have h1:0<=(K:Int)*c.out:=Int.mul_nonneg (by omega) (by omega)
      have h2:(K:Int)*c.out<=4*5:=Int.mul_le_mul (by omega) (by omega) (by omega) (by omega)
      omega
     have cAb:=G2 false (c.stm s)
     rw[GU] at cAb
     have cFl:=IZ false n2 (c.stm s) fl i (GU ..) (by omega) (by omega)
     rw[hst] at cFl
     have hnow:Lc c.sz (i:Int) (c.stm s) fl=M7 c fl B i:=by unfold M7;rw[hsv,Int.toNat_natCast]
     have hnl2:(M7 c fl B i).length=c.sz:=by rw[←hnow,N',hst]
     have hnb:BR (M7 c fl B i)=true:=by rw[←hnow];exact J3 (by omega) _ (GU ..) hst
     rw[hnow] at cFl
     have hlS:((c.stm s).length:Int)=((c.sz:Nat):Int):=by omega
     obtain⟨S,hS⟩:∃S,c.stm s=S:=⟨_,rfl⟩
     obtain⟨N,hN⟩:∃N,M7 c fl B i=N:=⟨_,rfl⟩
     have hdt:Lx c fl B i=(c.decR 0 N).1:=by rw[SW,hN]
     have hvt:F3 c fl B i=Zx b (c.decR 0 N).1:=by unfold F3;rw[hb3,hdt]
     have hft:Cq c fl B i=if ((c.decR 0 N).1).isNone then 1 else if decide (Zx b (c.decR 0 N).1≠(s:Int)) then 2 else 0:=by unfold Cq;rw[hdt,hvt,hsv]
     have h2w:=U9 hc (now:=N) (by rw[←hN];exact hnb) (by rw[←hN];exact hnl2)
     have hown:=NT hc s
     have hords:=hord
     rw[hN] at cFl hnl2
     rw[hS] at cE cAb cFl hlS hst hown
     have hq00:0<q:=by omega
     have hmd:(i:Int).tmod Q=((i%q:Nat):Int):=by rw[e3,Int.tmod_eq_emod_of_nonneg (by omega)];push_cast;rfl
     have hmlt:=Nat.mod_lt i hq00
     have hQne:¬Q=0:=by omega
     have hcl:=Hl (Cq c fl B) q i
     have hmlt2:((i%q:Nat):Int)<(q:Int):=by omega
     have hcg:=Lg (Cq c fl B) q i hmlt
     have hcb:=OV (Cq c fl B) (U2 c fl B) q i (i%q)
     have hrs:=Rv c fl B i
     have hrl:=IB c fl B i
     have hml:=YL c fl B i
     have hnil:=Fc (KM c fl B i)
     have hfe:false=decide (i+1=0):=by simp
     (try (simp -implicitDefEqProofs only[go_sem,AH,AF,hlB,ha0,hlS,wKo]));repeat' first|(with_reducible first|exact tI|refine aI ?_ ?_|intro _)|((first|with_reducible refine AN ?_ ?_<;>intro _|(with_reducible refine isCall ?_);first|refine AG cE ?_|refine AG cAb ?_|refine AG cFl ?_)<;>try (simp -implicitDefEqProofs only[go_sem,AH,AF,hlB,ha0,hlS,wKo]))|simp (disch:=omega) only[Ap]|((with_reducible refine Ad ?_);refine⟨(_,_,_),rfl,?_,?_⟩)|((with_reducible refine AZ ?_);refine⟨(_,_),rfl,?_,?_⟩)|((with_reducible refine Ae ?_);refine⟨_,rfl,?_,?_⟩)
     all_goals first|omega|(simp<;>omega)|skip
     refine AX (α:=Nat×Bool) (l0:=?l3) (m0:=?m3) (fun x=>[(23,.d (.int .i64 (x.1:Int))),(22,.d (.bool x.2))]) (fun x=>[]) (fun x=>x.1<=c.sz/\x.2=Q2 S N x.1) (fun x=>c.sz-x.1) (0,false) ?h03 ?he3 ?he23 ?hI3 ?step3
     case h03=>(simp -implicitDefEqProofs only[go_sem];rfl)
     case he3=>rfl
     case he23=>rfl
     case' step3=>(rintro⟨t,g⟩ hI3;try dsimp only at hI3)
     case' hI3=>try dsimp only
     ·exact⟨Nat.zero_le _,rfl⟩
     ·obtain⟨t1,t2⟩:=hI3
      change g=Q2 S N t at t2
      have hcs:=ZQ S N t
      by_cases ht:t<c.sz
      ·have ht':(t:Int)<((c.sz:Nat):Int):=by omega
       have htS:t<S.length:=by omega
       have htN:t<N.length:=by omega
       have hwt:IntKind.i64.wrap ((t:Int)+1)=((t+1:Nat):Int):=by rw[Af _ (by omega)];omega
       rw[←t2] at hcs
       cases g with
       |true =>
        rw[Bool.true_or] at hcs
        (try (simp -implicitDefEqProofs only[go_sem,hlS,ht',hwt]));repeat' first|(with_reducible first|exact tI|refine aI ?_ ?_|intro _)|((first|with_reducible refine AN ?_ ?_<;>intro _)<;>try (simp -implicitDefEqProofs only[go_sem,hlS,ht',hwt]))|simp (disch:=omega) only[Ap]|((with_reducible refine Ad ?_);refine⟨(_,_,_),rfl,?_,?_⟩)|((with_reducible refine AZ ?_);refine⟨(_,_),rfl,?_,?_⟩)|((with_reducible refine Ae ?_);refine⟨_,rfl,?_,?_⟩)
        all_goals first|omega|(simp<;>omega)|skip
        all_goals exact hcs.symm
       |false =>
        rw[Bool.false_or] at hcs
        by_cases hv:S[t]?.getD 0=N[t]?.getD 0
        ·rw[decide_eq_false (fun h=>h hv)] at hcs
         (try (simp -implicitDefEqProofs only[go_sem,hlS,ht',hwt,htS,htN,hv]));repeat' first|(with_reducible first|exact tI|refine aI ?_ ?_|intro _)|((first|with_reducible refine AN ?_ ?_<;>intro _)<;>try (simp -implicitDefEqProofs only[go_sem,hlS,ht',hwt,htS,htN,hv]))|simp (disch:=omega) only[Ap]|((with_reducible refine Ad ?_);refine⟨(_,_,_),rfl,?_,?_⟩)|((with_reducible refine AZ ?_);refine⟨(_,_),rfl,?_,?_⟩)|((with_reducible refine Ae ?_);refine⟨_,rfl,?_,?_⟩)
         all_goals first|omega|(simp<;>omega)|skip
         all_goals exact hcs.symm
        ·rw[decide_eq_true hv] at hcs
         (try (simp -implicitDefEqProofs only[go_sem,hlS,ht',hwt,htS,htN,hv]));repeat' first|(with_reducible first|exact tI|refine aI ?_ ?_|intro _)|((first|with_reducible refine AN ?_ ?_<;>intro _)<;>try (simp -implicitDefEqProofs only[go_sem,hlS,ht',hwt,htS,htN,hv]))|simp (disch:=omega) only[Ap]|((with_reducible refine Ad ?_);refine⟨(_,_,_),rfl,?_,?_⟩)|((with_reducible refine AZ ?_);refine⟨(_,_),rfl,?_,?_⟩)|((with_reducible refine Ae ?_);refine⟨_,rfl,?_,?_⟩)
         all_goals first|omega|(simp<;>omega)|skip
         all_goals exact hcs.symm
      ·have ht':¬(t:Int)<((c.sz:Nat):Int):=by omega
       have hte:t=S.length:=by omega
       have hsame:g=false->S=N:=fun h=>U' (by omega) (by rw[←hte,←t2];exact h)
       have cD:=Hs c 0 false N
       clear hcs
       rcases h2w with⟨w,d1,d2,d3⟩|d1
       ·rw[d1] at cD hdt hvt hft
        simp only[E3] at cD
        simp only[Zx] at hvt hft
        have cId:=HY c false w (by omega)
        have hid:c.isData w=true:=by
         simp only[GCode.isData,Bool.and_eq_true,decide_eq_true_eq,List.all_eq_true]
         exact⟨by rw[d2,hb3];have:=Nat.div_le_self 4 b;omega,d3⟩
        rw[hid] at cId
        have hwl:(w.length:Int)=(K:Int):=by rw[d2,hb3,hK]
        have hvr:=XG hc d2 d3
        rw[hb3] at hvr
        have hwb:∀x,x∈w->0<=x/\x<=2^b-1:=fun x hx=>by
         have:=d3 x hx
         rw[GCode.isWord,Dp,decide_eq_true_eq,hb3] at this
         exact this
        have hmk:=YK hdt
        have hbd:=Nk hb2 hwb
        (try (simp -implicitDefEqProofs only[go_sem,AH,AF,hlS,ht',hwl]));repeat' first|(with_reducible first|exact tI|refine aI ?_ ?_|intro _)|((first|with_reducible refine AN ?_ ?_<;>intro _|(with_reducible refine isCall ?_);first|refine AG cD ?_|refine AG cId ?_)<;>try (simp -implicitDefEqProofs only[go_sem,AH,AF,hlS,ht',hwl]))|simp (disch:=omega) only[Ap]|((with_reducible refine Ad ?_);refine⟨(_,_,_),rfl,?_,?_⟩)|((with_reducible refine AZ ?_);refine⟨(_,_),rfl,?_,?_⟩)|((with_reducible refine Ae ?_);refine⟨_,rfl,?_,?_⟩)
        all_goals first|omega|(simp<;>omega)|skip
        refine AX (α:=Nat×Int) (l0:=?l4) (m0:=?m4) (fun x=>[(27,.d (.int .i64 (x.1:Int))),(26,.d (.int .i64 x.2))]) (fun x=>[]) (fun x=>x.1<=w.length/\x.2=Fl b (w.take x.1)) (fun x=>w.length-x.1) (0,0) ?h04 ?he4 ?he24 ?hI4 ?step4
        case h04=>(simp -implicitDefEqProofs only[go_sem];rfl)
        case he4=>rfl
        case he24=>rfl
        case' step4=>(rintro⟨u,y⟩ hI4;try dsimp only at hI4)
        case' hI4=>try dsimp only
        ·exact⟨Nat.zero_le _,rfl⟩
        ·obtain⟨u1,u2⟩:=hI4
         change y=Fl b (w.take u) at u2
         have hyb:=hbd u u1
         by_cases hu:u<w.length
         ·have hu':(u:Int)<(K:Int):=by omega
          have hwu:IntKind.i64.wrap ((u:Int)+1)=((u+1:Nat):Int):=by rw[Af _ (by omega)];omega
          have hst2:=Ki (b:=b) hu
          have hyb2:=hbd (u+1) hu
          have hp4:((2:Int)^b)^(u+1)<=16:=by
           have hwK:w.length=K:=by rw[d2,hb3,hK]
           rcases hb2 with h|h
           ·rw[h] at hK ⊢
            have h5:u=0\/u=1\/u=2\/u=3:=by omega
            rcases h5 with h5|h5|h5|h5<;>rw[h5]<;>decide
           ·rw[h] at hK ⊢
            have h5:u=0\/u=1:=by omega
            rcases h5 with h5|h5<;>rw[h5]<;>decide
          have hwx:=hwb _ (D7 hu)
          obtain⟨x,hx⟩:∃x,w[u]?.getD 0=x:=⟨_,rfl⟩
          rw[hx] at hst2 hwx
          rw[←u2] at hst2 hyb
          have hp3:((2:Int)^b)^u<=16:=by
           have hwK:w.length=K:=by rw[d2,hb3,hK]
           rcases hb2 with h|h
           ·rw[h] at hK ⊢
            have h5:u=0\/u=1\/u=2\/u=3:=by omega
            rcases h5 with h5|h5|h5|h5<;>rw[h5]<;>decide
           ·rw[h] at hK ⊢
            have h5:u=0\/u=1:=by omega
            rcases h5 with h5|h5<;>rw[h5]<;>decide
          have hy16:0<=y/\y<=15:=⟨hyb.1,by have:=hyb.2;omega⟩
          have hr16:0<=Fl b (w.take (u+1))/\Fl b (w.take (u+1))<=15:=⟨hyb2.1,by have:=hyb2.2;omega⟩
          have hyp:-100<=y*2^b/\y*2^b<=100:=by
           clear hp3 hp4
           rcases hb2 with h|h<;>rw[h]<;>omega
          have hmin:(2:Int)^min c.bits.toNat 64=2^b:=by rw[hb3,Nat.min_eq_left (by omega)]
          have hsh:IntKind.i64.wrap (y*2^min c.bits.toNat 64)=y*2^b:=by rw[hmin];exact Af _ (by clear hp3 hp4;omega)
          have hsum:IntKind.i64.wrap (y*2^b+x)=Fl b (w.take (u+1)):=by rw[hst2];exact Af _ (by clear hp3 hp4;omega)
          (try (simp -implicitDefEqProofs only[go_sem,AH,AF,hwl,hu',hu,hx,hwu,wb,hsh,hsum]));repeat' first|(with_reducible first|exact tI|refine aI ?_ ?_|intro _)|((first|with_reducible refine AN ?_ ?_<;>intro _)<;>try (simp -implicitDefEqProofs only[go_sem,AH,AF,hwl,hu',hu,hx,hwu,wb,hsh,hsum]))|simp (disch:=omega) only[Ap]|((with_reducible refine Ad ?_);refine⟨(_,_,_),rfl,?_,?_⟩)|((with_reducible refine AZ ?_);refine⟨(_,_),rfl,?_,?_⟩)|((with_reducible refine Ae ?_);refine⟨_,rfl,?_,?_⟩)
          all_goals first|omega|(simp<;>omega)|skip
          all_goals first|rfl|skip
         ·have hu':¬(u:Int)<(K:Int):=by omega
          have htk2:w.take u=w:=List.take_of_length_le (by omega)
          rw[htk2] at u2
          have hvt:F3 c fl B i=y:=by rw[hvt,u2]
          have hft:Cq c fl B i=if decide (y≠(s:Int)) then 2 else 0:=by rw[hft,u2];rfl
          have hvr:0<=y/\y<=15:=by rw[u2];exact hvr
          have hval:∀j,j<i+1->0<=F3 c fl B j/\F3 c fl B j<=15:=fun j hj=>by
           rcases Nat.lt_or_ge j i with h|h
           ·exact i4 j h
           ·have:j=i:=by omega
            subst this;rw[hvt];exact hvr
          rw[hvt] at hrs
          have hem:e=(KM c fl B (i+1)).isEmpty:=by rw[hmk];exact i2
          by_cases hys:y=(s:Int)
          ·have hf0:Cq c fl B i=0:=by rw[hft,decide_eq_false (fun h=>h hys)];rfl
           have hfa:=U3 (f:=Cq c fl B) (q:=q) hf0
           have hys':=hys
           subst hys
           (try (simp -implicitDefEqProofs only[go_sem,AH,AF,hwl,hu',hlB,hiB,hi',hsv,hwi,hrs]));repeat' first|(with_reducible first|exact tI|refine aI ?_ ?_|intro _)|((first|with_reducible refine AN ?_ ?_<;>intro _)<;>try (simp -implicitDefEqProofs only[go_sem,AH,AF,hwl,hu',hlB,hiB,hi',hsv,hwi,hrs]))|simp (disch:=omega) only[Ap]|((with_reducible refine Ad ?_);refine⟨(_,_,_),rfl,?_,?_⟩)|((with_reducible refine AZ ?_);refine⟨(_,_),rfl,?_,?_⟩)|((with_reducible refine Ae ?_);refine⟨_,rfl,?_,?_⟩)
           all_goals first|omega|(simp<;>omega)|skip
           rw[←hfa,←hmk]
           exact⟨(i+1,e,false),rfl,⟨by show i+1<=l*q;omega,hem,hfe,hval⟩,by show l*q-(i+1)<l*q-i;omega⟩
          ·have hf2:Cq c fl B i=2:=by rw[hft,decide_eq_true hys];rfl
           have hsw:=Lf (f:=Cq c fl B) (q:=q) (k:=i) (v:=((EW (Cq c fl B) q i (i%q):Nat):Int)+2) hq00 (by rw[hf2];push_cast;rfl)
           have hcw:IntKind.i64.wrap (((EW (Cq c fl B) q i (i%q):Nat):Int)+2)=((EW (Cq c fl B) q i (i%q):Nat):Int)+2:=Af _ (by omega)
           cases g with
           |true =>
            (try (simp -implicitDefEqProofs only[go_sem,AH,AF,hwl,hu',hlB,hiB,hi',hsv,hwi,hrs,hys,hmd,hQne,hmlt2,hmlt,hcl,hcg,hcw,hsw]));repeat' first|(with_reducible first|exact tI|refine aI ?_ ?_|intro _)|((first|with_reducible refine AN ?_ ?_<;>intro _)<;>try (simp -implicitDefEqProofs only[go_sem,AH,AF,hwl,hu',hlB,hiB,hi',hsv,hwi,hrs,hys,hmd,hQne,hmlt2,hmlt,hcl,hcg,hcw,hsw]))|simp (disch:=omega) only[Ap]|((with_reducible refine Ad ?_);refine⟨(_,_,_),rfl,?_,?_⟩)|((with_reducible refine AZ ?_);refine⟨(_,_),rfl,?_,?_⟩)|((with_reducible refine Ae ?_);refine⟨_,rfl,?_,?_⟩)
            all_goals first|omega|(simp<;>omega)|skip
            rw[←hmk]
            exact⟨(i+1,e,false),rfl,⟨by show i+1<=l*q;omega,hem,hfe,hval⟩,by show l*q-(i+1)<l*q-i;omega⟩
           |false =>
            by_cases hod1:od=1
            ·first
             |(
              exfalso
              have h1:=hords rfl hod1 s w (by rw[hS,hsame rfl,d1])
              exact hys (by rw[u2,h1];exact Ue hb2 hbr))
             |(
              (try (simp -implicitDefEqProofs only[go_sem,AH,AF,hwl,hu',hlB,hiB,hi',hsv,hwi,hrs,hys,hmd,hQne,hmlt2,hmlt,hcl,hcg,hcw,hsw,hod1]));repeat' first|(with_reducible first|exact tI|refine aI ?_ ?_|intro _)|((first|with_reducible refine AN ?_ ?_<;>intro _)<;>try (simp -implicitDefEqProofs only[go_sem,AH,AF,hwl,hu',hlB,hiB,hi',hsv,hwi,hrs,hys,hmd,hQne,hmlt2,hmlt,hcl,hcg,hcw,hsw,hod1]))|simp (disch:=omega) only[Ap]|((with_reducible refine Ad ?_);refine⟨(_,_,_),rfl,?_,?_⟩)|((with_reducible refine AZ ?_);refine⟨(_,_),rfl,?_,?_⟩)|((with_reducible refine Ae ?_);refine⟨_,rfl,?_,?_⟩)
              all_goals first|omega|(simp<;>omega)|skip
              rw[←hmk]
              exact⟨(i+1,e,false),rfl,⟨by show i+1<=l*q;omega,hem,hfe,hval⟩,by show l*q-(i+1)<l*q-i;omega⟩)
            ·(try (simp -implicitDefEqProofs only[go_sem,AH,AF,hwl,hu',hlB,hiB,hi',hsv,hwi,hrs,hys,hmd,hQne,hmlt2,hmlt,hcl,hcg,hcw,hsw,hod1]));repeat' first|(with_reducible first|exact tI|refine aI ?_ ?_|intro _)|((first|with_reducible refine AN ?_ ?_<;>intro _)<;>try (simp -implicitDefEqProofs only[go_sem,AH,AF,hwl,hu',hlB,hiB,hi',hsv,hwi,hrs,hys,hmd,hQne,hmlt2,hmlt,hcl,hcg,hcw,hsw,hod1]))|simp (disch:=omega) only[Ap]|((with_reducible refine Ad ?_);refine⟨(_,_,_),rfl,?_,?_⟩)|((with_reducible refine AZ ?_);refine⟨(_,_),rfl,?_,?_⟩)|((with_reducible refine Ae ?_);refine⟨_,rfl,?_,?_⟩)
             all_goals first|omega|(simp<;>omega)|skip
             rw[←hmk]
             exact⟨(i+1,e,false),rfl,⟨by show i+1<=l*q;omega,hem,hfe,hval⟩,by show l*q-(i+1)<l*q-i;omega⟩
       ·rw[d1] at cD hdt hvt hft
        simp only[CM] at cD
        simp only[Zx,Option.isNone_none,if_true] at hvt hft
        have hgt:g=true:=by
         cases g with
         |true=>rfl
         |false =>
          exfalso
          obtain⟨l',q1,_⟩:=hown
          rw[hsame rfl,d1] at q1
          cases q1
        subst hgt
        have hmk:=Ut hdt
        have hsn:=QY (KM c fl B i) i
        have hs1:=Lf (f:=Cq c fl B) (q:=q) (k:=i) (v:=((EW (Cq c fl B) q i (i%q):Nat):Int)+1) hq00 (by rw[hft];push_cast;rfl)
        have hcw:IntKind.i64.wrap (((EW (Cq c fl B) q i (i%q):Nat):Int)+1)=((EW (Cq c fl B) q i (i%q):Nat):Int)+1:=Af _ (by omega)
        have hem:false=(KM c fl B (i+1)).isEmpty:=by rw[hmk];cases KM c fl B i<;>rfl
        rw[←hmk] at hsn
        rw[hvt] at hrs
        have hval:∀j,j<i+1->0<=F3 c fl B j/\F3 c fl B j<=15:=fun j hj=>by
         rcases Nat.lt_or_ge j i with h|h
         ·exact i4 j h
         ·have:j=i:=by omega
          subst this;rw[hvt];omega
        (try (simp -implicitDefEqProofs only[go_sem,AH,AF,hlS,ht']));repeat' first|(with_reducible first|exact tI|refine aI ?_ ?_|intro _)|((first|with_reducible refine AN ?_ ?_<;>intro _|(with_reducible refine isCall ?_);first|refine AG cD ?_)<;>try (simp -implicitDefEqProofs only[go_sem,AH,AF,hlS,ht']))|simp (disch:=omega) only[Ap]|((with_reducible refine Ad ?_);refine⟨(_,_,_),rfl,?_,?_⟩)|((with_reducible refine AZ ?_);refine⟨(_,_),rfl,?_,?_⟩)|((with_reducible refine Ae ?_);refine⟨_,rfl,?_,?_⟩)
        all_goals first|omega|(simp<;>omega)|skip
        refine AX (α:=Nat) (l0:=?l5) (m0:=?m5) (fun x=>[(27,.d (.int .i64 (x:Int))),(26,.d (.int .i64 0))]) (fun x=>[]) (fun x=>x=0) (fun x=>0) 0 ?h05 ?he5 ?he25 ?hI5 ?step5
        case h05=>(simp -implicitDefEqProofs only[go_sem];rfl)
        case he5=>rfl
        case he25=>rfl
        case' step5=>(rintro u hI5;try dsimp only at hI5)
        case' hI5=>try dsimp only
        ·subst hI5
         (try (simp -implicitDefEqProofs only[go_sem,AH,AF,hlB,hiB,hi',hsv,hwi,hrs,hmd,hQne,hmlt2,hmlt,hcl,hcg,hcw,hs1,hsn]));repeat' first|(with_reducible first|exact tI|refine aI ?_ ?_|intro _)|((first|with_reducible refine AN ?_ ?_<;>intro _)<;>try (simp -implicitDefEqProofs only[go_sem,AH,AF,hlB,hiB,hi',hsv,hwi,hrs,hmd,hQne,hmlt2,hmlt,hcl,hcg,hcw,hs1,hsn]))|simp (disch:=omega) only[Ap]|((with_reducible refine Ad ?_);refine⟨(_,_,_),rfl,?_,?_⟩)|((with_reducible refine AZ ?_);refine⟨(_,_),rfl,?_,?_⟩)|((with_reducible refine Ae ?_);refine⟨_,rfl,?_,?_⟩)
         all_goals first|omega|(simp<;>omega)|skip
         all_goals first
          |(rename_i j hj;exact(hval j hj).1)
          |(rename_i j hj;exact(hval j hj).2)
          |skip
  ·have hie:i=l*q:=by omega
   subst hie
   have hi':¬((l*q:Nat):Int)<((l*q:Nat):Int):=by omega
   have hcl:=Hl (Cq c fl B) q (l*q)
   have hcg:=fun j (hj:j<q)=>Lg (Cq c fl B) q (l*q) hj
   (try (simp -implicitDefEqProofs only[go_sem,hlB,hi']));repeat' first|(with_reducible first|exact tI|refine aI ?_ ?_|intro _)|((first|with_reducible refine AN ?_ ?_<;>intro _)<;>try (simp -implicitDefEqProofs only[go_sem,hlB,hi']))|simp (disch:=omega) only[Ap]|((with_reducible refine Ad ?_);refine⟨(_,_,_),rfl,?_,?_⟩)|((with_reducible refine AZ ?_);refine⟨(_,_),rfl,?_,?_⟩)|((with_reducible refine Ae ?_);refine⟨_,rfl,?_,?_⟩)
   all_goals first|omega|(simp<;>omega)|skip
   refine AX (α:=Nat) (l0:=?l6) (m0:=?m6) (fun x=>[(28,.d (.int .i64 (x:Int)))]) (fun x=>[]) (fun x=>x<=q/\∀j,j<x->((EW (Cq c fl B) q (l*q) j:Nat):Int)<=P) (fun x=>q-x) 0 ?h06 ?he6 ?he26 ?hI6 ?step6
   case h06=>(simp -implicitDefEqProofs only[go_sem];rfl)
   case he6=>rfl
   case he26=>rfl
   case' step6=>(rintro k hI6;try dsimp only at hI6)
   case' hI6=>try dsimp only
   ·exact⟨Nat.zero_le _,fun j hj=>by omega⟩
   ·obtain⟨k1,k2⟩:=hI6
    by_cases hk:k<q
    ·have hk':(k:Int)<(q:Int):=by omega
     have hwk:IntKind.i64.wrap ((k:Int)+1)=((k+1:Nat):Int):=by rw[Af _ (by omega)];omega
     have hgk:=hcg k hk
     by_cases hP:P<((EW (Cq c fl B) q (l*q) k:Nat):Int)
     ·(try (simp -implicitDefEqProofs only[go_sem,hcl,hk',hk,hgk,hP]));repeat' first|(with_reducible first|exact tI|refine aI ?_ ?_|intro _)|((first|with_reducible refine AN ?_ ?_<;>intro _|(with_reducible refine isCall ?_);first|refine AG c0 ?_)<;>try (simp -implicitDefEqProofs only[go_sem,hcl,hk',hk,hgk,hP]))|simp (disch:=omega) only[Ap]|((with_reducible refine Ad ?_);refine⟨(_,_,_),rfl,?_,?_⟩)|((with_reducible refine AZ ?_);refine⟨(_,_),rfl,?_,?_⟩)|((with_reducible refine Ae ?_);refine⟨_,rfl,?_,?_⟩)
      all_goals first|rfl|omega|skip
     ·(try (simp -implicitDefEqProofs only[go_sem,hcl,hk',hk,hgk,hP,hwk]));repeat' first|(with_reducible first|exact tI|refine aI ?_ ?_|intro _)|((first|with_reducible refine AN ?_ ?_<;>intro _|(with_reducible refine isCall ?_);first|refine AG c0 ?_)<;>try (simp -implicitDefEqProofs only[go_sem,hcl,hk',hk,hgk,hP,hwk]))|simp (disch:=omega) only[Ap]|((with_reducible refine Ad ?_);refine⟨(_,_,_),rfl,?_,?_⟩)|((with_reducible refine AZ ?_);refine⟨(_,_),rfl,?_,?_⟩)|((with_reducible refine Ae ?_);refine⟨_,rfl,?_,?_⟩)
      all_goals first|omega|(simp<;>omega)|skip
      rename_i j hj
      have hj2:j<k+1:=hj
      rcases Nat.lt_or_ge j k with h|h
      ·exact k2 j h
      ·have:j=k:=by omega
       subst this;omega
    ·have hk':¬(k:Int)<(q:Int):=by omega
     obtain⟨z1,z2⟩:=key (fun j hj=>by rw[hqt] at hj ⊢;exact k2 j (by omega)) i4
     have hrl:=IB c fl B (l*q)
     have cG:=fun n1 n2=>Gj L P Q n1 n2 (Pc c fl B (l*q)) (ni (KM c fl B (l*q))) (by omega)
     rw[z1,z2] at cG
     (try (simp -implicitDefEqProofs only[go_sem,hcl,hk']));repeat' first|(with_reducible first|exact tI|refine aI ?_ ?_|intro _)|((first|with_reducible refine AN ?_ ?_<;>intro _|(with_reducible refine isCall ?_);first|refine AG c0 ?_|refine AG (cG _ _) ?_)<;>try (simp -implicitDefEqProofs only[go_sem,hcl,hk']))|simp (disch:=omega) only[Ap]|((with_reducible refine Ad ?_);refine⟨(_,_,_),rfl,?_,?_⟩)|((with_reducible refine AZ ?_);refine⟨(_,_),rfl,?_,?_⟩)|((with_reducible refine Ae ?_);refine⟨_,rfl,?_,?_⟩)
     all_goals first|omega|(simp<;>omega)|skip
     have hdl:d.length<=120:=by
      have:=(HU hs).1
      rw[e1,e2,e3,hmul] at this
      omega
     refine AX (α:=Nat) (l0:=?l7) (m0:=?m7) (fun x=>[(31,.d (.int .i64 (x:Int)))]) (fun x=>[]) (fun x=>x<=d.length) (fun x=>d.length-x) 0 ?h07 ?he7 ?he27 ?hI7 ?step7
     case h07=>(simp -implicitDefEqProofs only[go_sem];rfl)
     case he7=>rfl
     case he27=>rfl
     case' step7=>(rintro t hI7;try dsimp only at hI7)
     case' hI7=>try dsimp only
     ·exact Nat.zero_le _
     ·by_cases ht:t<d.length
      ·have ht':(t:Int)<(d.length:Int):=by omega
       have hwt:IntKind.i64.wrap ((t:Int)+1)=((t+1:Nat):Int):=by rw[Af _ (by omega)];omega
       (try (simp -implicitDefEqProofs only[go_sem,ht',ht,hwt]));repeat' first|(with_reducible first|exact tI|refine aI ?_ ?_|intro _)|((first|with_reducible refine AN ?_ ?_<;>intro _)<;>try (simp -implicitDefEqProofs only[go_sem,ht',ht,hwt]))|simp (disch:=omega) only[Ap]|((with_reducible refine Ad ?_);refine⟨(_,_,_),rfl,?_,?_⟩)|((with_reducible refine AZ ?_);refine⟨(_,_),rfl,?_,?_⟩)|((with_reducible refine Ae ?_);refine⟨_,rfl,?_,?_⟩)
       all_goals first|omega|(simp<;>omega)|skip
       all_goals first|rfl|exact⟨t+1,rfl,ht,by omega⟩|skip
      ·have ht':¬(t:Int)<(d.length:Int):=by omega
       (try (simp -implicitDefEqProofs only[go_sem,ht']));repeat' first|(with_reducible first|exact tI|refine aI ?_ ?_|intro _)|((first|with_reducible refine AN ?_ ?_<;>intro _|(with_reducible refine isCall ?_);first|refine AG c0 ?_)<;>try (simp -implicitDefEqProofs only[go_sem,ht']))|simp (disch:=omega) only[Ap]|((with_reducible refine Ad ?_);refine⟨(_,_,_),rfl,?_,?_⟩)|((with_reducible refine AZ ?_);refine⟨(_,_),rfl,?_,?_⟩)|((with_reducible refine Ae ?_);refine⟨_,rfl,?_,?_⟩)
       all_goals first|rfl|skip
end
theorem Oq (c:GCode) (L P Q:Int) (n1 n2:Bool) (d fl:List Int):DE E0 Ea [E7 c,.agg [.int .i64 L,.int .i64 P,.int .i64 Q],.agg [.list n1 (A4 d),.list n2 (A4 fl)]] (.bool true):=by
 cases hc:c.ok with
 |false=>exact Iw c (fun h=>by rw[hc] at h;cases h) L P Q n1 n2 d fl
 |true =>
  rcases MM c hc with h|h
  ·exact Iw c (fun _=>h) L P Q n1 n2 d fl
  ·exact NI c (fun _=>h) L P Q n1 n2 d fl
end Go.Pw
