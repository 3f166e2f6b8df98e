/- A part of the proof. -/
import Derived.Test.YtibkjeolahobbaaGreatDoorPgChFw
set_option linter.all false
open Go Go.Pw Go.Proofs
namespace Go.Pw
set_option maxRecDepth 100000
set_option maxHeartbeats 3200000
theorem nM {c:AX}(hk:Fj c):1<=QS c.code 16:=by
 have key:∀(X Y:List Int),X.length=Y.length->X≠Y->1<=B5 X Y:=fun X=>by
  induction X with
  |nil=>intro Y h1 h2;exact absurd (List.eq_nil_of_length_eq_zero h1.symm).symm h2
  |cons x X ih =>
   intro Y h1 h2
   match Y with
   |[]=>cases h1
   |y::Y =>
    have hb:=(HY X Y).1
    simp only[B5]
    by_cases e:x=y
    ·subst e
     rw[if_pos rfl]
     have:=ih Y (by simpa using h1) (fun e=>h2 (by rw[e]));omega
    ·rw[if_neg e];omega
 have hd:=QX.1 hk.dst
 have h1:∀a n (l:Int),a<16->n<=a->1<=l->1<=Vv c.code a l n:=fun a n l ha=>by
  induction n with
  |zero=>intro _ h;exact h
  |succ n ih =>
   intro hn h
   have h2:=ih (by omega) h
   have h3:=key (c.code.stm a) (c.code.stm n) (by rw[Eb,Eb]) fun e=>hd a n ha (by omega) e.symm
   unfold Vv;omega
 have h2:∀n,n<=16->1<=QS c.code n:=fun n=>by
  induction n with
  |zero=>intro _;have:=EC hk.code;unfold QS;omega
  |succ n ih=>intro hn;exact h1 n n _ (by omega) (Nat.le_refl _) (ih (by omega))
 exact h2 16 (Nat.le_refl _)
theorem nv {c:AX}{S R:List Int}{i n:Nat}(h:¬R[c.mark.length+i*c.code.sz+n]?.getD 0=S[c.mark.length+i*c.code.sz+n]?.getD 0):Uz c S R i (n+1)=Uz c S R i n+1:=by simp[Uz,GB,h]
theorem pM {c:AX}{S R:List Int}{i n:Nat}(h:R[c.mark.length+i*c.code.sz+n]?.getD 0=S[c.mark.length+i*c.code.sz+n]?.getD 0):Uz c S R i (n+1)=Uz c S R i n:=by simp[Uz,GB,h]
theorem pN (c:AX) (S R:List Int) (i n:Nat):Uz c S R i n<=n:=Uk ..
attribute [local congr] Bl A_ A' Ar Bm Ay A0 Az Aq Ak Ae Aa Av Af Aw BL BP BN BO BM BQ BF Ai Ax Aj BD BX Ah BJ BK BE BG BI BH BB BC A9 Bn BA Au Ag
attribute [local irreducible] IntKind.wrap A4 Option.getD and or
theorem SH (c:AX) (n1 n2 n3:Bool) (d fl rest:List Int):CE E0 Hp [Dg c,.agg [.list n1 (Am d),.list n2 (Am fl),.list n3 (Am rest)]] (.bool true):=by
 have c0:=Gu
 have c1:=KC c n1 d
 refine AP LM Ap (by simp) fun hwf=>?_
 rw[AW];unfold G3
 cases hr:ah c d with
 |false =>
  rw[hr] at c1
  (try (simp -implicitDefEqProofs only[go_sem,AG,AF]));repeat' first|(with_reducible first|exact tI|refine aI ?_ ?_|intro _)|((first|with_reducible refine AO ?_ ?_<;>intro _|(with_reducible refine isCall ?_);first|refine AE c0 ?_|refine AE c1 ?_)<;>try (simp -implicitDefEqProofs only[go_sem,AG,AF]))|simp (disch:=omega) only[Al]|((with_reducible refine Ab ?_);refine⟨(_,_),rfl,?_,?_⟩)|((with_reducible refine A1 ?_);refine⟨_,rfl,?_,?_⟩)
  all_goals first|rfl|omega|(exfalso;rename_i h;exact h rfl)|skip
 |true =>
 rw[hr] at c1
 have r:=eC hr
 have hk:=Dh r.ok
 have hm:=hk.markl
 have ht:=r.tot
 have hs:=hk.syms
 have hz:=EC hk.code
 by_cases hfl:100<(fl.length:Int)
 ·(try (simp -implicitDefEqProofs only[go_sem,AG,AF,hfl]));repeat' first|(with_reducible first|exact tI|refine aI ?_ ?_|intro _)|((first|with_reducible refine AO ?_ ?_<;>intro _|(with_reducible refine isCall ?_);first|refine AE c0 ?_|refine AE c1 ?_)<;>try (simp -implicitDefEqProofs only[go_sem,AG,AF,hfl]))|simp (disch:=omega) only[Al]|((with_reducible refine Ab ?_);refine⟨(_,_),rfl,?_,?_⟩)|((with_reducible refine A1 ?_);refine⟨_,rfl,?_,?_⟩)
  all_goals first|rfl|omega|(exfalso;rename_i h;exact h rfl)|skip
 obtain⟨w1,w2,w3⟩:=r.wr
 have c2:=Fy c n1 d
 rw[w2] at c2
 have hsb:Ao (Zw c d)=true:=by rw[w1];exact Vc hk _
 obtain⟨S,hS⟩:∃S,Zw c d=S:=⟨_,rfl⟩
 rw[hS] at c2 w3 hsb w1
 have htt:c.tot=c.mark.length+c.syms*c.code.sz:=rfl
 have hne:¬S=[]:=fun e=>by rw[e] at w3;simp at w3;omega
 have hSe:S.isEmpty=false:=GN hne
 rw[hSe] at c2
 have c3:=FO c hk.wev hk.code (by omega)
 have c4:=IH false n2 S fl hsb (by omega) hne
 have hRl:=NQ fl S
 have hRb:=Ow fl hsb
 obtain⟨R,hR⟩:∃R,P2 S fl=R:=⟨_,rfl⟩
 rw[hR] at c4 hRl hRb
 have hRok:Mp R=true:=by unfold Mp;rw[hRb,decide_eq_true (by omega)];simp only[Bool.and_self]
 have c5:=GP c false R
 have cN:=JN c
 have hn1:=nM hk
 rw[Nx r.ok,show Nl c=QS c.code 16 by unfold Nl;rw[if_pos r.ok]] at cN
 obtain⟨nr,hnr⟩:∃nr,QS c.code 16=nr:=⟨_,rfl⟩
 rw[hnr] at cN hn1
 have cZ:=Dx c hk.code
 have cS:=CT c hk.wev
 rw[hs.2.2] at cS
 have c7:=II c hk false false S R (by omega) (by omega)
 have hcl:=LT c S R c.syms
 have hw:=Ki hk.wev
 have hlen:(S.length:Int)=(c.tot:Int):=by omega
 have hn1':¬nr<1:=by omega
 have key:=fun a b d=>@f9 c hk _ r.spE S R w1 (by omega) a b d
 rw[hnr] at key
 clear hS hR
 (try (simp -implicitDefEqProofs only[go_sem,AG,AF,hfl,hlen,hn1']));repeat' first|(with_reducible first|exact tI|refine aI ?_ ?_|intro _)|((first|with_reducible refine AO ?_ ?_<;>intro _|(with_reducible refine isCall ?_);first|refine AE c0 ?_|refine AE c1 ?_|refine AE c2 ?_|refine AE c3 ?_|refine AE c4 ?_|refine AE cN ?_)<;>try (simp -implicitDefEqProofs only[go_sem,AG,AF,hfl,hlen,hn1']))|simp (disch:=omega) only[Al]|((with_reducible refine Ab ?_);refine⟨(_,_),rfl,?_,?_⟩)|((with_reducible refine A1 ?_);refine⟨_,rfl,?_,?_⟩)
 all_goals first|omega|(simp;done)|(simp;omega)|skip
 refine AY (α:=Nat) (l0:=?l1) (m0:=?m1) (fun x=>[(10,.d (.int .i64 (x:Int)))]) (fun x=>[]) (fun x=>x<=c.mark.length/\∀j,j<x->R[j]?.getD 0=S[j]?.getD 0) (fun x=>c.mark.length-x) 0 ?h01 ?he1 ?he21 ?hI1 ?step1
 case h01=>(simp -implicitDefEqProofs only[go_sem];rfl)
 case he1=>rfl
 case he21=>rfl
 case' step1=>(rintro k hI;try dsimp only at hI)
 case' hI1=>try dsimp only
 ·exact⟨Nat.zero_le _,fun j hj=>by omega⟩
 ·obtain⟨k1,k2⟩:=hI
  by_cases hkm:k<c.mark.length
  ·have hk':(k:Int)<(c.mark.length:Int):=by omega
   have hwk:IntKind.i64.wrap ((k:Int)+1)=((k+1:Nat):Int):=by rw[AZ _ (by omega)];omega
   have hkS:k<S.length:=by omega
   have hkR:k<R.length:=by omega
   by_cases hv:R[k]?.getD 0=S[k]?.getD 0
   ·(try (simp -implicitDefEqProofs only[go_sem,AG,AF,hk',hwk,hkS,hkR,hv]));repeat' first|(with_reducible first|exact tI|refine aI ?_ ?_|intro _)|((first|with_reducible refine AO ?_ ?_<;>intro _|(with_reducible refine isCall ?_);first|refine AE c0 ?_)<;>try (simp -implicitDefEqProofs only[go_sem,AG,AF,hk',hwk,hkS,hkR,hv]))|simp (disch:=omega) only[Al]|((with_reducible refine Ab ?_);refine⟨(_,_),rfl,?_,?_⟩)|((with_reducible refine A1 ?_);refine⟨_,rfl,?_,?_⟩)
    all_goals first|omega|(simp;done)|(simp;omega)|skip
    rename_i j hj
    have hj2:j<k+1:=hj
    rcases Nat.lt_or_ge j k with h|h
    ·exact k2 j h
    ·have:j=k:=by omega
     subst this;exact hv
   ·(try (simp -implicitDefEqProofs only[go_sem,AG,AF,hk',hkS,hkR,hv]));repeat' first|(with_reducible first|exact tI|refine aI ?_ ?_|intro _)|((first|with_reducible refine AO ?_ ?_<;>intro _|(with_reducible refine isCall ?_);first|refine AE c0 ?_)<;>try (simp -implicitDefEqProofs only[go_sem,AG,AF,hk',hkS,hkR,hv]))|simp (disch:=omega) only[Al]|((with_reducible refine Ab ?_);refine⟨(_,_),rfl,?_,?_⟩)|((with_reducible refine A1 ?_);refine⟨_,rfl,?_,?_⟩)
    all_goals first|rfl|omega|(exfalso;rename_i h;exact h rfl)|skip
  ·have hk':¬(k:Int)<(c.mark.length:Int):=by omega
   have hmk:∀j,j<c.mark.length->R[j]?.getD 0=S[j]?.getD 0:=fun j hj=>k2 j (by omega)
   have key2:=key hmk
   (try (simp -implicitDefEqProofs only[go_sem,AG,AF,hk']));repeat' first|(with_reducible first|exact tI|refine aI ?_ ?_|intro _)|((first|with_reducible refine AO ?_ ?_<;>intro _|(with_reducible refine isCall ?_);first|refine AE c0 ?_|refine AE cZ ?_)<;>try (simp -implicitDefEqProofs only[go_sem,AG,AF,hk']))|simp (disch:=omega) only[Al]|((with_reducible refine Ab ?_);refine⟨(_,_),rfl,?_,?_⟩)|((with_reducible refine A1 ?_);refine⟨_,rfl,?_,?_⟩)
   all_goals first|omega|(simp;done)|(simp;omega)|skip
   refine AY (α:=Nat) (l0:=?l2) (m0:=?m2) (fun x=>[(12,.d (.int .i64 (x:Int)))]) (fun x=>[]) (fun x=>x<=c.syms/\∀j,j<x->((Uz c S R j c.code.sz:Nat):Int)<nr) (fun x=>c.syms-x) 0 ?h02 ?he2 ?he22 ?hI2 ?step2
   case h02=>(simp -implicitDefEqProofs only[go_sem];rfl)
   case he2=>rfl
   case he22=>rfl
   case' step2=>(rintro i hI2;try dsimp only at hI2)
   case' hI2=>try dsimp only
   ·exact⟨Nat.zero_le _,fun j hj=>by omega⟩
   ·obtain⟨i1,i2⟩:=hI2
    by_cases hi:i<c.syms
    ·have hi':(i:Int)<((c.syms:Nat):Int):=by omega
     have h1:(i+1)*c.code.sz<=c.syms*c.code.sz:=Nat.mul_le_mul_right _ hi
     rw[Nat.succ_mul] at h1
     have hwi:IntKind.i64.wrap ((i:Int)+1)=((i+1:Nat):Int):=by rw[AZ _ (by omega)];omega
     have hwm:IntKind.i64.wrap ((i:Int)*(c.code.sz:Int))=((i*c.code.sz:Nat):Int):=by rw[←Int.natCast_mul];exact AZ _ (by omega)
     have hwf1:IntKind.i64.wrap ((c.mark.length:Int)+((i*c.code.sz:Nat):Int))=((c.mark.length+i*c.code.sz:Nat):Int):=by rw[AZ _ (by omega)];omega
     (try (simp -implicitDefEqProofs only[go_sem,AG,AF,hi']));repeat' first|(with_reducible first|exact tI|refine aI ?_ ?_|intro _)|((first|with_reducible refine AO ?_ ?_<;>intro _|(with_reducible refine isCall ?_);first|refine AE c0 ?_|refine AE cS ?_)<;>try (simp -implicitDefEqProofs only[go_sem,AG,AF,hi']))|simp (disch:=omega) only[Al]|((with_reducible refine Ab ?_);refine⟨(_,_),rfl,?_,?_⟩)|((with_reducible refine A1 ?_);refine⟨_,rfl,?_,?_⟩)
     all_goals first|omega|(simp;done)|(simp;omega)|skip
     refine AY (α:=Nat×Int) (l0:=?l3) (m0:=?m3) (fun x=>[(14,.d (.int .i64 (x.1:Int))),(13,.d (.int .i64 x.2))]) (fun x=>[]) (fun x=>x.1<=c.code.sz/\x.2=((Uz c S R i x.1:Nat):Int)) (fun x=>c.code.sz-x.1) (0,0) ?h03 ?he3 ?he23 ?hI3 ?step3
     case h03=>(simp -implicitDefEqProofs only[go_sem];rfl)
     case he3=>rfl
     case he23=>rfl
     case' step3=>(rintro⟨t,m⟩ hI3;try dsimp only at hI3)
     case' hI3=>try dsimp only
     ·exact⟨Nat.zero_le _,rfl⟩
     ·obtain⟨t1,t2⟩:=hI3
      change m=((Uz c S R i t:Nat):Int) at t2
      subst t2
      have hfl2:=pN c S R i t
      by_cases htz:t<c.code.sz
      ·have ht':(t:Int)<(c.code.sz:Int):=by omega
       have hwt:IntKind.i64.wrap ((t:Int)+1)=((t+1:Nat):Int):=by rw[AZ _ (by omega)];omega
       have hwa:IntKind.i64.wrap (((c.mark.length+i*c.code.sz:Nat):Int)+(t:Int))=((c.mark.length+i*c.code.sz+t:Nat):Int):=by rw[AZ _ (by omega)];omega
       have hwc:IntKind.i64.wrap (((Uz c S R i t:Nat):Int)+1)=((Uz c S R i t+1:Nat):Int):=by rw[AZ _ (by omega)];omega
       have hxS:c.mark.length+i*c.code.sz+t<S.length:=by omega
       have hxR:c.mark.length+i*c.code.sz+t<R.length:=by omega
       by_cases hv:R[c.mark.length+i*c.code.sz+t]?.getD 0=S[c.mark.length+i*c.code.sz+t]?.getD 0
       ·have hst:=pM hv
        (try (simp -implicitDefEqProofs only[go_sem,AG,AF,ht',hwm,hwf1,hwa,hxS,hxR,hv,hwt]));repeat' first|(with_reducible first|exact tI|refine aI ?_ ?_|intro _)|((first|with_reducible refine AO ?_ ?_<;>intro _|(with_reducible refine isCall ?_);first|refine AE c0 ?_)<;>try (simp -implicitDefEqProofs only[go_sem,AG,AF,ht',hwm,hwf1,hwa,hxS,hxR,hv,hwt]))|simp (disch:=omega) only[Al]|((with_reducible refine Ab ?_);refine⟨(_,_),rfl,?_,?_⟩)|((with_reducible refine A1 ?_);refine⟨_,rfl,?_,?_⟩)
        all_goals first|omega|(simp;done)|(simp;omega)|skip
        all_goals first|exact hst.symm|exact congrArg (fun x:Nat=>(x:Int)) hst.symm
       ·have hst:=nv hv
        (try (simp -implicitDefEqProofs only[go_sem,AG,AF,ht',hwm,hwf1,hwa,hxS,hxR,hv,hwt,hwc]));repeat' first|(with_reducible first|exact tI|refine aI ?_ ?_|intro _)|((first|with_reducible refine AO ?_ ?_<;>intro _|(with_reducible refine isCall ?_);first|refine AE c0 ?_)<;>try (simp -implicitDefEqProofs only[go_sem,AG,AF,ht',hwm,hwf1,hwa,hxS,hxR,hv,hwt,hwc]))|simp (disch:=omega) only[Al]|((with_reducible refine Ab ?_);refine⟨(_,_),rfl,?_,?_⟩)|((with_reducible refine A1 ?_);refine⟨_,rfl,?_,?_⟩)
        all_goals first|omega|(simp;done)|(simp;omega)|skip
        all_goals first|exact hst.symm|exact congrArg (fun x:Nat=>(x:Int)) hst.symm
      ·have ht':¬(t:Int)<(c.code.sz:Int):=by omega
       have hte:t=c.code.sz:=by omega
       subst hte
       by_cases hge:((Uz c S R i c.code.sz:Nat):Int)<nr
       ·have hge':¬nr<=((Uz c S R i c.code.sz:Nat):Int):=by omega
        (try (simp -implicitDefEqProofs only[go_sem,AG,AF,ht',hge',hwi]));repeat' first|(with_reducible first|exact tI|refine aI ?_ ?_|intro _)|((first|with_reducible refine AO ?_ ?_<;>intro _|(with_reducible refine isCall ?_);first|refine AE c0 ?_)<;>try (simp -implicitDefEqProofs only[go_sem,AG,AF,ht',hge',hwi]))|simp (disch:=omega) only[Al]|((with_reducible refine Ab ?_);refine⟨(_,_),rfl,?_,?_⟩)|((with_reducible refine A1 ?_);refine⟨_,rfl,?_,?_⟩)
        all_goals first|omega|(simp;done)|(simp;omega)|skip
        rename_i j hj
        have hj2:j<i+1:=hj
        rcases Nat.lt_or_ge j i with h|h
        ·exact i2 j h
        ·have:j=i:=by omega
         subst this;exact hge
       ·have hge':nr<=((Uz c S R i c.code.sz:Nat):Int):=by omega
        (try (simp -implicitDefEqProofs only[go_sem,AG,AF,ht',hge']));repeat' first|(with_reducible first|exact tI|refine aI ?_ ?_|intro _)|((first|with_reducible refine AO ?_ ?_<;>intro _|(with_reducible refine isCall ?_);first|refine AE c0 ?_)<;>try (simp -implicitDefEqProofs only[go_sem,AG,AF,ht',hge']))|simp (disch:=omega) only[Al]|((with_reducible refine Ab ?_);refine⟨(_,_),rfl,?_,?_⟩)|((with_reducible refine A1 ?_);refine⟨_,rfl,?_,?_⟩)
        all_goals first|rfl|omega|(exfalso;rename_i h;exact h rfl)|skip
    ·have hi':¬(i:Int)<((c.syms:Nat):Int):=by omega
     have key3:=key2 fun j hj=>i2 j (by omega)
     (try (simp -implicitDefEqProofs only[go_sem,AG,AF,hi']));repeat' first|(with_reducible first|exact tI|refine aI ?_ ?_|intro _)|((first|with_reducible refine AO ?_ ?_<;>intro _|(with_reducible refine isCall ?_);first|refine AE c0 ?_|refine AE cS ?_|refine AE c7 ?_)<;>try (simp -implicitDefEqProofs only[go_sem,AG,AF,hi']))|simp (disch:=omega) only[Al]|((with_reducible refine Ab ?_);refine⟨(_,_),rfl,?_,?_⟩)|((with_reducible refine A1 ?_);refine⟨_,rfl,?_,?_⟩)
     all_goals first|omega|(simp;done)|(simp;omega)|skip
     refine AY (α:=Nat) (l0:=?l4) (m0:=?m4) (fun x=>[(17,.d (.int .i64 (x:Int)))]) (fun x=>[]) (fun x=>x<=c.Q.toNat/\∀j,j<x->DU (Fx c S R) c.Q.toNat c.syms j<=c.P.toNat) (fun x=>c.Q.toNat-x) 0 ?h04 ?he4 ?he24 ?hI4 ?step4
     case h04=>(simp -implicitDefEqProofs only[go_sem];rfl)
     case he4=>rfl
     case he24=>rfl
     case' step4=>(rintro q hI4;try dsimp only at hI4)
     case' hI4=>try dsimp only
     ·exact⟨Nat.zero_le _,fun j hj=>by omega⟩
     ·obtain⟨q1,q2⟩:=hI4
      by_cases hq:q<c.Q.toNat
      ·have hq':(q:Int)<((GC c S R c.syms).length:Int):=by omega
       have hql:q<(GC c S R c.syms).length:=by omega
       have hg:=OQ c S R c.syms hq
       have hwq:IntKind.i64.wrap ((q:Int)+1)=((q+1:Nat):Int):=by rw[AZ _ (by omega)];omega
       by_cases hv:c.P<((DU (Fx c S R) c.Q.toNat c.syms q:Nat):Int)
       ·(try (simp -implicitDefEqProofs only[go_sem,AG,AF,hq',hql,hg,hv]));repeat' first|(with_reducible first|exact tI|refine aI ?_ ?_|intro _)|((first|with_reducible refine AO ?_ ?_<;>intro _|(with_reducible refine isCall ?_);first|refine AE c0 ?_)<;>try (simp -implicitDefEqProofs only[go_sem,AG,AF,hq',hql,hg,hv]))|simp (disch:=omega) only[Al]|((with_reducible refine Ab ?_);refine⟨(_,_),rfl,?_,?_⟩)|((with_reducible refine A1 ?_);refine⟨_,rfl,?_,?_⟩)
        all_goals first|rfl|omega|(exfalso;rename_i h;exact h rfl)|skip
       ·(try (simp -implicitDefEqProofs only[go_sem,AG,AF,hq',hql,hg,hv,hwq]));repeat' first|(with_reducible first|exact tI|refine aI ?_ ?_|intro _)|((first|with_reducible refine AO ?_ ?_<;>intro _|(with_reducible refine isCall ?_);first|refine AE c0 ?_)<;>try (simp -implicitDefEqProofs only[go_sem,AG,AF,hq',hql,hg,hv,hwq]))|simp (disch:=omega) only[Al]|((with_reducible refine Ab ?_);refine⟨(_,_),rfl,?_,?_⟩)|((with_reducible refine A1 ?_);refine⟨_,rfl,?_,?_⟩)
        all_goals first|omega|(simp;done)|(simp;omega)|skip
        rename_i j hj
        have hj2:j<q+1:=hj
        rcases Nat.lt_or_ge j q with h|h
        ·exact q2 j h
        ·have:j=q:=by omega
         subst this;omega
      ·have hq':¬(q:Int)<((GC c S R c.syms).length:Int):=by omega
       obtain⟨e1,e2,e3⟩:=key3 fun j hj=>q2 j (by omega)
       rw[ZK r.ok hRok e1,e2,e3,if_pos rfl] at c5
       have c9:=Dy d.isEmpty n1 d d
       rw[decide_eq_true rfl] at c9
       (try (simp -implicitDefEqProofs only[go_sem,AG,AF,hq']));repeat' first|(with_reducible first|exact tI|refine aI ?_ ?_|intro _)|((first|with_reducible refine AO ?_ ?_<;>intro _|(with_reducible refine isCall ?_);first|refine AE c0 ?_|refine AE c5 ?_|refine AE c9 ?_)<;>try (simp -implicitDefEqProofs only[go_sem,AG,AF,hq']))|simp (disch:=omega) only[Al]|((with_reducible refine Ab ?_);refine⟨(_,_),rfl,?_,?_⟩)|((with_reducible refine A1 ?_);refine⟨_,rfl,?_,?_⟩)
       all_goals first|rfl|omega|(exfalso;rename_i h;exact h rfl)|skip
end Go.Pw
