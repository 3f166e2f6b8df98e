/- A part of the proof. -/
import Derived.Test.YtibkjeolahobbaaGreatDoorPgChN
import Derived.Test.YtibkjeolahobbaaGreatDoorPgChrN
import Derived.Test.YtibkjeolahobbaaGreatDoorPgChcS
set_option linter.all false
section
open Go Go.Pw
namespace Go.Pw
theorem eY (c:AR) (a:Nat) (l:Int):∀n,Vv c a l n<=l
 |0=>Int.le_refl _
 |n+1=>by have:=eY c a l n;unfold Vv;omega
theorem ZO (c:AR) (a:Nat) (l:Int) {b:Nat}:∀n,b<n->Vv c a l n<=B5 (c.stm a) (c.stm b)
 |0,h=>by omega
 |n+1,h=>by
  unfold Vv
  by_cases e:b=n
  ·subst e;omega
  ·have:=ZO c a l (b:=b) n (by omega);omega
theorem UE (c:AR) {a b:Nat}(hb:b<a):∀n,a<n->QS c n<=B5 (c.stm a) (c.stm b)
 |0,h=>by omega
 |n+1,h=>by
  unfold QS
  by_cases e:a=n
  ·subst e;exact ZO c a _ a hb
  ·exact Int.le_trans (eY ..) (UE c hb n (by omega))
theorem TH:∀(X Y:List Int),B5 X Y=B5 Y X
 |[],[]=>rfl
 |[],_::_=>rfl
 |_::_,[]=>rfl
 |x::X,y::Y=>by
  have:=TH X Y
  simp only[B5,this]
  by_cases h:x=y
  ·rw[if_pos h,if_pos h.symm]
  ·rw[if_neg h,if_neg fun e=>h e.symm]
theorem nJ (c:AR) {a b:Nat}(ha:a<16) (hb:b<16) (h:a≠b):QS c 16<=B5 (c.stm a) (c.stm b):=by
 rcases Nat.lt_or_gt_of_ne h with h|h
 ·rw[TH];exact UE c h 16 hb
 ·exact UE c h 16 ha
def Uz (c:AX) (S R:List Int) (i n:Nat):Nat:=GB (fun k=>decide (R[c.mark.length+i*c.code.sz+k]?.getD 0≠S[c.mark.length+i*c.code.sz+k]?.getD 0)) n
theorem kU {c:AX}{S R:List Int}(hS:S.length=c.tot) (hR:R.length=c.tot) {i:Nat}(hi:i<c.syms):B5 (c.part R 0 i) (c.part S 0 i)=(Uz c S R i c.code.sz:Nat):=by
 have h1:(i+1)*c.code.sz<=c.syms*c.code.sz:=Nat.mul_le_mul_right _ hi
 rw[Nat.succ_mul] at h1
 have ht:c.tot=c.mark.length+c.syms*c.code.sz:=rfl
 have h2:=QZ c.code.sz R S (c.mark.length+i*c.code.sz) (c.mark.length+i*c.code.sz) (by omega) (by omega)
 have h3:∀(g:Nat) (X Y:List Int),X.length=g->B5 X Y=B5 X (Y.take g):=fun g=>by
  induction g with
  |zero=>intro X Y h;have:X=[]:=List.eq_nil_of_length_eq_zero h;subst this;rfl
  |succ g ih =>
   intro X Y h
   match X,Y with
   |[],_=>cases h
   |x::X,[]=>rfl
   |x::X,y::Y=>rw[List.take_succ_cons];simp only[B5];rw[ih X Y (by simpa using h)]
 unfold AX.part Uz
 rw[Nat.zero_add,←h2]
 exact(h3 _ _ _ (by rw[List.length_take,List.length_drop];omega)).symm
theorem f9 {c:AX}(hk:Fj c) {d:List Int}(he:spE c.L c.P c.Q d=0) {S R:List Int}(hSe:S=IU c (Tn c.L c.P c.Q d)) (hR:R.length=c.tot)
  (hm:∀k,k<c.mark.length->R[k]?.getD 0=S[k]?.getD 0) (hs:∀i,i<c.syms->((Uz c S R i c.code.sz:Nat):Int)<QS c.code 16)
  (hp:∀k,k<c.Q.toNat->DU (Fx c S R) c.Q.toNat c.syms k<=c.P.toNat):c.find R=some 0/\RI c (c.syL R 0)=0/\Uy c (c.syL R 0)=d:=by
 have hbl:=NS hk.wev he
 have ht:c.tot=c.mark.length+c.syms*c.code.sz:=rfl
 have hSl:S.length=c.tot:=by rw[hSe,T3,hbl];rfl
 refine⟨Lu.2 ⟨by omega,?_,fun j hj=>by omega⟩,?_⟩
 ·have h1:R=c.mark++R.drop c.mark.length:=by
   have h2:R.take c.mark.length=c.mark:=by
    apply List.ext_getElem
    ·rw[List.length_take];omega
    ·intro k h3 h4
     have h5:=hm k h4
     rw[List.getElem_take]
     have h6:S[k]?.getD 0=c.mark[k]:=by
      rw[hSe];unfold IU;rw[List.getElem?_append_left h4,List.getElem?_eq_getElem h4];rfl
     rw[h6,List.getElem?_eq_getElem (by rw[List.length_take] at h3;omega)] at h5
     exact h5
   have h3:=(List.take_append_drop c.mark.length R).symm
   rw[h2] at h3;exact h3
  rw[List.drop_zero,h1,Ra]
  exact hk.errs.1
 obtain⟨l,p,q,e,h1,h2,h3,b1,b2,b3,b4,b5,b6,b7,rfl,hel,hsp,hsy⟩:=Tl hk he
 have hq:c.Q.toNat=q:=by rw[h3];rfl
 have hpp:c.P.toNat=p:=by rw[h2];rfl
 rw[hq,hpp] at hp
 refine Q4 hk h1 h2 h3 b2 b5 b6 hel hsy (Jf ..) (f:=Fx c S R) (fun i hi hne=>?_) fun k hkq=>by rw[←hsy];exact hp k hkq
 have hi':i<c.syms:=by omega
 rw[←hsp] at hne
 have hch:Fx c S R i=1:=by rw[hSe];exact Yt hk hbl hi' hne
 have hown:=Xj hk hbl [] hi'
 rw[List.append_nil,←hSe,Qp hi'] at hown
 rw[Qp hi'] at hne ⊢
 rw[hch]
 cases hy:SM c.code (c.part R 0 i) with
 |none=>exact Nat.le_refl _
 |some y =>
  exfalso
  obtain⟨y1,y2⟩:=Lp hy
  obtain⟨x1,x2⟩:=Lp hown
  have h4:=hs i hi'
  rw[←kU hSl hR hi',←y2,←x2] at h4
  have h5:=nJ c.code y1 x1 (fun e=>hne (by rw[hy,e]))
  omega
end Go.Pw
end
section
open Go Go.Pw Go.Proofs
namespace Go.Pw
set_option maxRecDepth 100000
set_option maxHeartbeats 3200000
theorem kS {c:AX}(hk:Fj c) {sy:List (Option Nat)}(hl:sy.length=c.syms):RI c sy=0\/RI c sy=52:=by
 obtain⟨l,p,q,h1,h2,h3,b1,b2,b3,b4,b5,b6,b7,hc⟩:=Jc hk.wev
 have hs:c.syms=l*q:=by
  have:=hk.syms.2.2
  rw[h1,h3] at this
  have e:(q:Int)*(l:Int)=((l*q:Nat):Int):=by push_cast;exact Int.mul_comm ..
  rw[e] at this;omega
 rw[(fP hk h1 h2 h3 hs hl).1]
 cases YJ l p q (fs (Cx c.seed (NL sy))) (bC sy) with
 |none=>exact .inr rfl
 |some r=>exact .inl rfl
theorem ZK {c:AX}(hok:c.ok=true) {R:List Int}(hb:Mp R=true) {a:Nat}(hf:c.find R=some a):Vm c R=.tup [.list (Uy c (c.syL R a)).isEmpty (Am (Uy c (c.syL R a))),.int .i64 (if RI c (c.syL R a)=0 then (a:Int) else 0),.int .i64 (RI c (c.syL R a))]:=by
 unfold Vm S5 Vo Vn
 simp only[hok,hb,if_true,hf]
theorem jP {c:AX}(hok:c.ok=true) {R:List Int}(hb:Mp R=true) (hf:c.find R=none):Vm c R=.tup [.list true [],.int .i64 0,.int .i64 3]:=by
 unfold Vm S5 Vo Vn
 simp only[hok,hb,if_true,hf];rfl
theorem Vc {c:AX}(hk:Fj c) (b:List Int):Ao (IU c b)=true:=by
 unfold IU
 refine IP hk.markl.2.2 ?_
 unfold AX.flat
 generalize Cx c.seed b=X
 induction X with
 |nil=>rfl
 |cons x X ih=>exact IP (NR ..) ih
theorem n_ {L P m:Int}(hc:De L P=true) (h0:0<=m) (hf:bS L P (min m L)=false):m+P/2<=P:=by
 have hb:=Gl hc
 unfold bS at hf
 rw[hc] at hf
 simp only[Bool.true_and,Bool.and_eq_false_iff,decide_eq_false_iff_not] at hf
 omega
theorem l9 {L P m:Int}(hc:De L P=true) (h0:0<=m):kd L P (min m L)=0:=by
 have hb:=Gl hc
 unfold kd
 rw[if_pos hc,if_pos (by omega)]
attribute [local congr] Bl A_ A' Ar Bm Ay A0 Az Aq Ak Ae Aa Av Af Aw BL BP BN BO BM BQ BF Ai Ax Aj BD BX Ah BJ BK BE BG BI BH BB BC A9 Bn BA Au Ag
attribute [local irreducible] IntKind.wrap A4 Option.getD and or
theorem QN (c:AX) (n1 n2 n3:Bool) (d fl rest:List Int):CE E0 G8 [Dg c,.agg [.list n1 (Am d),.list n2 (Am fl),.list n3 (Am rest)]] (.bool true):=by
 have c0:=Gu
 have c1:=KC c n1 d
 refine AP KY Ap (by simp) fun hwf=>?_
 rw[AW];unfold GY
 cases hr:ah c d with
 |false =>
  rw[hr] at c1
  (try (simp -implicitDefEqProofs only[go_sem,AG,AF]));repeat' first|(with_reducible first|exact tI|refine aI ?_ ?_|intro _)|((first|with_reducible refine AO ?_ ?_<;>intro _|(with_reducible refine isCall ?_);first|refine AE c0 ?_|refine AE c1 ?_)<;>try (simp -implicitDefEqProofs only[go_sem,AG,AF]))|simp (disch:=omega) only[Al]|((with_reducible refine Ab ?_);refine⟨(_,_),rfl,?_,?_⟩)
  all_goals first|rfl|skip
 |true =>
 rw[hr] at c1
 have r:=eC hr
 have hk:=Dh r.ok
 have hm:=hk.markl
 have ht:=r.tot
 have hs:=hk.syms
 by_cases hfl:100<(fl.length:Int)
 ·(try (simp -implicitDefEqProofs only[go_sem,AG,AF,hfl]));repeat' first|(with_reducible first|exact tI|refine aI ?_ ?_|intro _)|((first|with_reducible refine AO ?_ ?_<;>intro _|(with_reducible refine isCall ?_);first|refine AE c0 ?_|refine AE c1 ?_)<;>try (simp -implicitDefEqProofs only[go_sem,AG,AF,hfl]))|simp (disch:=omega) only[Al]|((with_reducible refine Ab ?_);refine⟨(_,_),rfl,?_,?_⟩)
  all_goals first|rfl|skip
 obtain⟨w1,w2,w3⟩:=r.wr
 have c2:=Fy c n1 d
 rw[w2] at c2
 have hsb:Ao (Zw c d)=true:=by rw[w1];exact Vc hk _
 obtain⟨S,hS⟩:∃S,Zw c d=S:=⟨_,rfl⟩
 rw[hS] at c2 w3 hsb
 have hne:¬S=[]:=fun e=>by rw[e] at w3;have:c.tot=c.mark.length+c.syms*c.code.sz:=rfl;simp at w3;omega
 have hSe:S.isEmpty=false:=GN hne
 rw[hSe] at c2
 have c3:=FO c hk.wev hk.code (by omega)
 have c4:=IH false n2 S fl hsb (by omega) hne
 have hRl:=NQ fl S
 have hRb:=Ow fl hsb
 obtain⟨R,hR⟩:∃R,P2 S fl=R:=⟨_,rfl⟩
 rw[hR] at c4 hRl hRb
 have hRok:Mp R=true:=by unfold Mp;rw[hRb,decide_eq_true (by omega)];simp only[Bool.and_self]
 have c5:=GP c false R
 have c6:=Q0 c hk false R (by omega)
 unfold bT at c6
 have hlen:(S.length:Int)=(c.tot:Int):=by omega
 cases hf:c.find R with
 |none =>
  rw[hf] at c6
  rw[jP r.ok hRok hf] at c5
  simp only[Option.isSome_none] at c6
  (try (simp -implicitDefEqProofs only[go_sem,AG,AF,hfl,hlen]));repeat' first|(with_reducible first|exact tI|refine aI ?_ ?_|intro _)|((first|with_reducible refine AO ?_ ?_<;>intro _|(with_reducible refine isCall ?_);first|refine AE c0 ?_|refine AE c1 ?_|refine AE c2 ?_|refine AE c3 ?_|refine AE c4 ?_|refine AE c5 ?_|refine AE c6 ?_)<;>try (simp -implicitDefEqProofs only[go_sem,AG,AF,hfl,hlen]))|simp (disch:=omega) only[Al]|((with_reducible refine Ab ?_);refine⟨(_,_),rfl,?_,?_⟩)
  all_goals first|rfl|skip
 |some a =>
 rw[hf] at c6
 rw[ZK r.ok hRok hf] at c5
 simp only[Option.isSome_some] at c6
 by_cases ha:a=0
 ·subst ha
  have h2:=kS hk (Jf c R 0)
  have key:=fun n hn=>@aW c hk d r.spE R n hn
  rw[←w1,hS] at key
  obtain⟨E,hE⟩:∃E,RI c (c.syL R 0)=E:=⟨_,rfl⟩
  obtain⟨G,hG⟩:∃G,Uy c (c.syL R 0)=G:=⟨_,rfl⟩
  rw[hE,hG] at c5 key
  rw[hE] at h2
  rw[show (if E=0 then ((0:Nat):Int) else 0)=0 by split<;>rfl] at c5
  have c7:=II c hk false false S R (by omega) (by omega)
  have hcl:=LT c S R c.syms
  have hw:=Ki hk.wev
  have hcod:De c.L c.P=true:=by
   obtain⟨l,p,q,h1,h2,h3,_,_,_,_,_,_,_,hc⟩:=Jc hk.wev
   rw[h1,h2];exact hc
  have wP:IntKind.i64.wrap (c.P.tdiv 2)=c.P/2:=by rw[Int.tdiv_eq_ediv_of_nonneg (by omega)];exact AZ _ (by omega)
  rcases h2 with h2|h2
  ·subst h2
   (try (simp -implicitDefEqProofs only[go_sem,AG,AF,hfl,hlen]));repeat' first|(with_reducible first|exact tI|refine aI ?_ ?_|intro _)|((first|with_reducible refine AO ?_ ?_<;>intro _|(with_reducible refine isCall ?_);first|refine AE c0 ?_|refine AE c1 ?_|refine AE c2 ?_|refine AE c3 ?_|refine AE c4 ?_|refine AE c5 ?_|refine AE c6 ?_|refine AE c7 ?_)<;>try (simp -implicitDefEqProofs only[go_sem,AG,AF,hfl,hlen]))|simp (disch:=omega) only[Al]|((with_reducible refine Ab ?_);refine⟨(_,_),rfl,?_,?_⟩)
   all_goals first|omega|(simp;done)|(simp;omega)|skip
   refine AY (α:=Nat×Int) (l0:=?l1) (m0:=?m1) (fun x=>[(15,.d (.int .i64 (x.1:Int))),(14,.d (.int .i64 x.2))]) (fun x=>[]) (fun x=>x.1<=c.Q.toNat/\0<=x.2/\∀j,j<x.1->((DU (Fx c S R) c.Q.toNat c.syms j:Nat):Int)<=x.2) (fun x=>c.Q.toNat-x.1) (0,0) ?h01 ?he1 ?he21 ?hI1 ?step1
   case h01=>(simp -implicitDefEqProofs only[go_sem];rfl)
   case he1=>rfl
   case he21=>rfl
   case' step1=>(rintro⟨k,m⟩ hI;try dsimp only at hI)
   case' hI1=>try dsimp only
   ·exact⟨Nat.zero_le _,Int.le_refl _,fun j hj=>by omega⟩
   ·obtain⟨k1,m0,k2⟩:=hI
    by_cases hkq:k<c.Q.toNat
    ·have hk':(k:Int)<((GC c S R c.syms).length:Int):=by omega
     have hkl:k<(GC c S R c.syms).length:=by omega
     have hg:=OQ c S R c.syms hkq
     have hwk:IntKind.i64.wrap ((k:Int)+1)=((k+1:Nat):Int):=by rw[AZ _ (by omega)];omega
     (try (simp -implicitDefEqProofs only[go_sem,hk',hkl,hg,hwk]));repeat' first|(with_reducible first|exact tI|refine aI ?_ ?_|intro _)|((first|with_reducible refine AO ?_ ?_<;>intro _)<;>try (simp -implicitDefEqProofs only[go_sem,hk',hkl,hg,hwk]))|simp (disch:=omega) only[Al]|((with_reducible refine Ab ?_);refine⟨(_,_),rfl,?_,?_⟩)
     all_goals first|omega|(simp;done)|(simp;omega)|skip
     rename_i j hj
     have hj2:j<k+1:=hj
     rcases Nat.lt_or_ge j k with h|h
     ·have:=k2 j h;omega
     ·have:j=k:=by omega
      subst this;omega
    ·have hk':¬(k:Int)<((GC c S R c.syms).length:Int):=by omega
     have hn:∀j,j<c.Q.toNat->DU (Fx c S R) c.Q.toNat c.syms j<=m.toNat:=fun j hj=>by have:=k2 j (by omega);omega
     have hkey:=key m.toNat hn
     by_cases hmp:m<=c.P/2
     ·obtain⟨_,hd⟩:=hkey.1 (by omega)
      subst hd
      have c9:=Dy G.isEmpty n1 G G
      rw[decide_eq_true rfl] at c9
      (try (simp -implicitDefEqProofs only[go_sem,hk',hmp,wP]));repeat' first|(with_reducible first|exact tI|refine aI ?_ ?_|intro _)|((first|with_reducible refine AO ?_ ?_<;>intro _|(with_reducible refine isCall ?_);first|refine AE c0 ?_|refine AE c9 ?_)<;>try (simp -implicitDefEqProofs only[go_sem,hk',hmp,wP]))|simp (disch:=omega) only[Al]|((with_reducible refine Ab ?_);refine⟨(_,_),rfl,?_,?_⟩)
      all_goals first|rfl|skip
     ·have c8:=Hf c.L c.P (min m c.L)
      rw[l9 hcod m0] at c8
      obtain⟨fb,hfb⟩:∃fb,bS c.L c.P (min m c.L)=fb:=⟨_,rfl⟩
      rw[hfb] at c8
      cases fb with
      |true =>
       (try (simp -implicitDefEqProofs only[go_sem,hk',hmp,wP]));repeat' first|(with_reducible first|exact tI|refine aI ?_ ?_|intro _)|((first|with_reducible refine AO ?_ ?_<;>intro _|(with_reducible refine isCall ?_);first|refine AE c0 ?_|refine AE c8 ?_)<;>try (simp -implicitDefEqProofs only[go_sem,hk',hmp,wP]))|simp (disch:=omega) only[Al]|((with_reducible refine Ab ?_);refine⟨(_,_),rfl,?_,?_⟩)
       all_goals first|rfl|skip
      |false =>
       have hfn:=n_ hcod m0 hfb
       rcases hkey.2 (by omega) with⟨_,hd⟩|h52
       ·subst hd
        have c9:=Dy G.isEmpty n1 G G
        rw[decide_eq_true rfl] at c9
        (try (simp -implicitDefEqProofs only[go_sem,hk',hmp,wP]));repeat' first|(with_reducible first|exact tI|refine aI ?_ ?_|intro _)|((first|with_reducible refine AO ?_ ?_<;>intro _|(with_reducible refine isCall ?_);first|refine AE c0 ?_|refine AE c8 ?_|refine AE c9 ?_)<;>try (simp -implicitDefEqProofs only[go_sem,hk',hmp,wP]))|simp (disch:=omega) only[Al]|((with_reducible refine Ab ?_);refine⟨(_,_),rfl,?_,?_⟩)
        all_goals first|rfl|skip
       ·exact absurd h52 (by omega)
  ·subst h2
   (try (simp -implicitDefEqProofs only[go_sem,AG,AF,hfl,hlen]));repeat' first|(with_reducible first|exact tI|refine aI ?_ ?_|intro _)|((first|with_reducible refine AO ?_ ?_<;>intro _|(with_reducible refine isCall ?_);first|refine AE c0 ?_|refine AE c1 ?_|refine AE c2 ?_|refine AE c3 ?_|refine AE c4 ?_|refine AE c5 ?_|refine AE c6 ?_|refine AE c7 ?_)<;>try (simp -implicitDefEqProofs only[go_sem,AG,AF,hfl,hlen]))|simp (disch:=omega) only[Al]|((with_reducible refine Ab ?_);refine⟨(_,_),rfl,?_,?_⟩)
   all_goals first|omega|(simp;done)|(simp;omega)|skip
   refine AY (α:=Nat×Int) (l0:=?l2) (m0:=?m2) (fun x=>[(15,.d (.int .i64 (x.1:Int))),(14,.d (.int .i64 x.2))]) (fun x=>[]) (fun x=>x.1<=c.Q.toNat/\0<=x.2/\∀j,j<x.1->((DU (Fx c S R) c.Q.toNat c.syms j:Nat):Int)<=x.2) (fun x=>c.Q.toNat-x.1) (0,0) ?h02 ?he2 ?he22 ?hI2 ?step2
   case h02=>(simp -implicitDefEqProofs only[go_sem];rfl)
   case he2=>rfl
   case he22=>rfl
   case' step2=>(rintro⟨k,m⟩ hI2;try dsimp only at hI2)
   case' hI2=>try dsimp only
   ·exact⟨Nat.zero_le _,Int.le_refl _,fun j hj=>by omega⟩
   ·obtain⟨k1,m0,k2⟩:=hI2
    by_cases hkq:k<c.Q.toNat
    ·have hk':(k:Int)<((GC c S R c.syms).length:Int):=by omega
     have hkl:k<(GC c S R c.syms).length:=by omega
     have hg:=OQ c S R c.syms hkq
     have hwk:IntKind.i64.wrap ((k:Int)+1)=((k+1:Nat):Int):=by rw[AZ _ (by omega)];omega
     (try (simp -implicitDefEqProofs only[go_sem,hk',hkl,hg,hwk]));repeat' first|(with_reducible first|exact tI|refine aI ?_ ?_|intro _)|((first|with_reducible refine AO ?_ ?_<;>intro _)<;>try (simp -implicitDefEqProofs only[go_sem,hk',hkl,hg,hwk]))|simp (disch:=omega) only[Al]|((with_reducible refine Ab ?_);refine⟨(_,_),rfl,?_,?_⟩)
     all_goals first|omega|(simp;done)|(simp;omega)|skip
     rename_i j hj
     have hj2:j<k+1:=hj
     rcases Nat.lt_or_ge j k with h|h
     ·have:=k2 j h;omega
     ·have:j=k:=by omega
      subst this;omega
    ·have hk':¬(k:Int)<((GC c S R c.syms).length:Int):=by omega
     have hn:∀j,j<c.Q.toNat->DU (Fx c S R) c.Q.toNat c.syms j<=m.toNat:=fun j hj=>by have:=k2 j (by omega);omega
     have hkey:=key m.toNat hn
     by_cases hmp:m<=c.P/2
     ·have:=(hkey.1 (by omega)).1
      exact absurd this (by omega)
     ·have c8:=Hf c.L c.P (min m c.L)
      rw[l9 hcod m0] at c8
      obtain⟨fb,hfb⟩:∃fb,bS c.L c.P (min m c.L)=fb:=⟨_,rfl⟩
      rw[hfb] at c8
      cases fb with
      |true =>
       (try (simp -implicitDefEqProofs only[go_sem,hk',hmp,wP]));repeat' first|(with_reducible first|exact tI|refine aI ?_ ?_|intro _)|((first|with_reducible refine AO ?_ ?_<;>intro _|(with_reducible refine isCall ?_);first|refine AE c0 ?_|refine AE c8 ?_)<;>try (simp -implicitDefEqProofs only[go_sem,hk',hmp,wP]))|simp (disch:=omega) only[Al]|((with_reducible refine Ab ?_);refine⟨(_,_),rfl,?_,?_⟩)
       all_goals first|rfl|skip
      |false =>
       (try (simp -implicitDefEqProofs only[go_sem,hk',hmp,wP]));repeat' first|(with_reducible first|exact tI|refine aI ?_ ?_|intro _)|((first|with_reducible refine AO ?_ ?_<;>intro _|(with_reducible refine isCall ?_);first|refine AE c0 ?_|refine AE c8 ?_)<;>try (simp -implicitDefEqProofs only[go_sem,hk',hmp,wP]))|simp (disch:=omega) only[Al]|((with_reducible refine Ab ?_);refine⟨(_,_),rfl,?_,?_⟩)
       all_goals first|rfl|skip
 ·have ha':¬(a:Int)=0:=by omega
  obtain⟨E,hE⟩:∃E,RI c (c.syL R a)=E:=⟨_,rfl⟩
  obtain⟨G,hG⟩:∃G,Uy c (c.syL R a)=G:=⟨_,rfl⟩
  rw[hE,hG] at c5
  obtain⟨A,hA⟩:∃A,(if E=0 then (a:Int) else 0)=A:=⟨_,rfl⟩
  rw[hA] at c5
  (try (simp -implicitDefEqProofs only[go_sem,AG,AF,hfl,hlen,ha']));repeat' first|(with_reducible first|exact tI|refine aI ?_ ?_|intro _)|((first|with_reducible refine AO ?_ ?_<;>intro _|(with_reducible refine isCall ?_);first|refine AE c0 ?_|refine AE c1 ?_|refine AE c2 ?_|refine AE c3 ?_|refine AE c4 ?_|refine AE c5 ?_|refine AE c6 ?_)<;>try (simp -implicitDefEqProofs only[go_sem,AG,AF,hfl,hlen,ha']))|simp (disch:=omega) only[Al]|((with_reducible refine Ab ?_);refine⟨(_,_),rfl,?_,?_⟩)
  all_goals first|rfl|skip
end Go.Pw
end
section
open Go Go.Pw Go.Proofs
namespace Go.Pw
set_option maxRecDepth 100000
set_option maxHeartbeats 3200000
def EF (c:AX):AX:={ c with code:=Er c.code,nm:=false }
theorem NB (c:AX):(Er c.code).stm=c.code.stm:=by
 funext s;unfold AR.stm;rw[Pt];rfl
theorem Yq (c:AX) (m:Nat):JF (Er c.code) m=JF c.code m:=by unfold JF;rw[NB]
theorem Lx (c:AX):(EF c).ok=c.ok:=by
 unfold AX.ok EF
 simp only[ky,Yq]
theorem Wq (c:AX):Dg (EF c)=.agg [.int .i64 c.code.bits,.int .i64 c.code.out,.int .i64 c.code.least,.int .i64 c.code.most,.list c.code.words.isEmpty (C7 (Er c.code).words),.list c.code.next.isEmpty (C7 (Er c.code).next),.int .i64 c.L,.int .i64 c.P,.int .i64 c.Q,.list false (Am c.mark),.int .i64 c.seed,.int .i64 c.errs]:=rfl
theorem kz (c:AR):Fw (Er c)=.agg [.int .i64 c.bits,.int .i64 c.out,.int .i64 c.least,.int .i64 c.most,.list c.words.isEmpty (C7 (Er c).words),.list c.next.isEmpty (C7 (Er c).next)]:=rfl
theorem Nx {c:AX}(h:c.ok=true):IX c=0:=(HT h).2
theorem UY {c:AX}(h:c.ok=false):IX c=130:=(Gt h).2
attribute [local congr] Bl A_ A' Ar Bm Ay A0 Az Aq Ak Ae Aa Av Af Aw BL BP BN BO BM BQ BF Ai Ax Aj BD BX Ah BJ BK BE BG BI BH BB BC A9 Bn BA Au Ag
attribute [local irreducible] IntKind.wrap A4 Option.getD and or
theorem Q2 (c:AX) (hf:c.code.far=false) (hm:c.mark.length<=1000):CE E0 Oh [Dg c] (Dg (EF c)):=by
 have c1:=Q3 c.code hf
 rw[kz] at c1
 rw[Wq]
 refine AP Rf Ap (by simp) fun hwf=>?_
 rw[AW];unfold MN
 (try (simp -implicitDefEqProofs only[go_sem,AG,AF,A8,A5]));repeat' first|(with_reducible first|exact tI|refine aI ?_ ?_|intro _)|((first|with_reducible refine AO ?_ ?_<;>intro _|(with_reducible refine isCall ?_);first|refine AE c1 ?_)<;>try (simp -implicitDefEqProofs only[go_sem,AG,AF,A8,A5]))|simp (disch:=omega) only[Al]
 all_goals first|rfl|omega|(rename_i h;rw[h];rfl)|skip
theorem Qz (c:AX):CE E0 Oe [Dg c] (.tup [.int .i64 (Nl c),.int .i64 (IX c)]):=by
 have c1:=EH c
 refine AP Rd Ap (by simp) fun hwf=>?_
 rw[AW];unfold ML Nl
 rcases hok:c.ok with _|_
 ·rw[UY hok] at c1 ⊢
  (try (simp -implicitDefEqProofs only[go_sem,AG,AF]));repeat' first|(with_reducible first|exact tI|refine aI ?_ ?_|intro _)|((first|with_reducible refine AO ?_ ?_<;>intro _|(with_reducible refine isCall ?_);first|refine AE c1 ?_)<;>try (simp -implicitDefEqProofs only[go_sem,AG,AF]))|simp (disch:=omega) only[Al]|((with_reducible refine Ab ?_);refine⟨(_,_),rfl,?_,?_⟩)
  all_goals first|rfl|skip
 ·have hk:=Dh hok
  have hz:=EC hk.code
  have cZ:=Dx c hk.code
  rw[Nx hok] at c1 ⊢
  simp only[if_true]
  (try (simp -implicitDefEqProofs only[go_sem,AG,AF]));repeat' first|(with_reducible first|exact tI|refine aI ?_ ?_|intro _)|((first|with_reducible refine AO ?_ ?_<;>intro _|(with_reducible refine isCall ?_);first|refine AE c1 ?_|refine AE cZ ?_)<;>try (simp -implicitDefEqProofs only[go_sem,AG,AF]))|simp (disch:=omega) only[Al]|((with_reducible refine Ab ?_);refine⟨(_,_),rfl,?_,?_⟩)
  all_goals first|omega|(simp;done)|(simp;omega)|skip
  refine AY (α:=Nat×Int) (l0:=?l1) (m0:=?m1) (fun x=>[(5,.d (.int .i64 (x.1:Int))),(4,.d (.int .i64 x.2))]) (fun x=>[]) (fun x=>x.1<=16/\x.2=QS c.code x.1) (fun x=>16-x.1) (0,(c.code.sz:Int)) ?h01 ?he1 ?he21 ?hI1 ?step1
  case h01=>(simp -implicitDefEqProofs only[go_sem];rfl)
  case he1=>rfl
  case he21=>rfl
  case' step1=>(rintro⟨s,n⟩ hI;try dsimp only at hI)
  case' hI1=>try dsimp only
  ·exact⟨Nat.zero_le _,rfl⟩
  ·obtain⟨s1,s2⟩:=hI
   change n=QS c.code s at s2
   by_cases hs:s<16
   ·have hs':(s:Int)<16:=by omega
    have hws:IntKind.i64.wrap ((s:Int)+1)=((s+1:Nat):Int):=by rw[AZ _ (by omega)];omega
    have cs:=Dw c hk.code s hs
    (try (simp -implicitDefEqProofs only[go_sem,hs']));repeat' first|(with_reducible first|exact tI|refine aI ?_ ?_|intro _)|((first|with_reducible refine AO ?_ ?_<;>intro _)<;>try (simp -implicitDefEqProofs only[go_sem,hs']))|simp (disch:=omega) only[Al]|((with_reducible refine Ab ?_);refine⟨(_,_),rfl,?_,?_⟩)
    all_goals first|omega|(simp;done)|(simp;omega)|skip
    refine AY (α:=Nat×Int) (l0:=?l2) (m0:=?m2) (fun x=>[(6,.d (.int .i64 (x.1:Int))),(4,.d (.int .i64 x.2))]) (fun x=>[]) (fun x=>x.1<=s/\x.2=Vv c.code s (QS c.code s) x.1) (fun x=>s-x.1) (0,n) ?h02 ?he2 ?he22 ?hI2 ?step2
    case h02=>(simp -implicitDefEqProofs only[go_sem];rfl)
    case he2=>rfl
    case he22=>rfl
    case' step2=>(rintro⟨b,m⟩ hI2;try dsimp only at hI2)
    case' hI2=>try dsimp only
    ·exact⟨Nat.zero_le _,s2⟩
    ·obtain⟨b1,b2⟩:=hI2
     change m=Vv c.code s (QS c.code s) b at b2
     by_cases hb:b<s
     ·have hb':(b:Int)<(s:Int):=by omega
      have hwb:IntKind.i64.wrap ((b:Int)+1)=((b+1:Nat):Int):=by rw[AZ _ (by omega)];omega
      have l1:=Eb c.code s
      have l2:=Eb c.code b
      have ck:=Dw c hk.code b (by omega)
      have cD:=HN false false (c.code.stm s) (c.code.stm b) 0 (by omega) (by omega) (by omega) (by omega)
      rw[show (0:Int).toNat=0 from rfl,List.drop_zero] at cD
      obtain⟨dv,hdv⟩:∃dv,B5 (c.code.stm s) (c.code.stm b)=dv:=⟨_,rfl⟩
      rw[hdv] at cD
      have hmm:min m dv=Vv c.code s (QS c.code s) (b+1):=by rw[b2,←hdv];rfl
      (try (simp -implicitDefEqProofs only[go_sem,AG,AF,hb',hwb,hmm]));repeat' first|(with_reducible first|exact tI|refine aI ?_ ?_|intro _)|((first|with_reducible refine AO ?_ ?_<;>intro _|(with_reducible refine isCall ?_);first|refine AE cs ?_|refine AE ck ?_|refine AE cD ?_)<;>try (simp -implicitDefEqProofs only[go_sem,AG,AF,hb',hwb,hmm]))|simp (disch:=omega) only[Al]|((with_reducible refine Ab ?_);refine⟨(_,_),rfl,?_,?_⟩)
      all_goals first|omega|(simp;done)|(simp;omega)|skip
      all_goals skip
     ·have hb':¬(b:Int)<(s:Int):=by omega
      have hbe:b=s:=by omega
      subst hbe
      (try (simp -implicitDefEqProofs only[go_sem,hb',hws]));repeat' first|(with_reducible first|exact tI|refine aI ?_ ?_|intro _)|((first|with_reducible refine AO ?_ ?_<;>intro _)<;>try (simp -implicitDefEqProofs only[go_sem,hb',hws]))|simp (disch:=omega) only[Al]|((with_reducible refine Ab ?_);refine⟨(_,_),rfl,?_,?_⟩)
      all_goals first|omega|(simp;done)|(simp;omega)|skip
      all_goals first|exact b2|skip
   ·have hs':¬(s:Int)<16:=by omega
    have hse:s=16:=by omega
    subst hse
    rw[s2]
    (try (simp -implicitDefEqProofs only[go_sem,hs']));repeat' first|(with_reducible first|exact tI|refine aI ?_ ?_|intro _)|((first|with_reducible refine AO ?_ ?_<;>intro _)<;>try (simp -implicitDefEqProofs only[go_sem,hs']))|simp (disch:=omega) only[Al]|((with_reducible refine Ab ?_);refine⟨(_,_),rfl,?_,?_⟩)
    all_goals first|omega|(simp;done)|(simp;omega)|skip
    all_goals first|rfl|skip
theorem P6 (c:AX):CE E0 Mb [Dg c] (.tup [.int .i64 (Rx c),.int .i64 (IX c)]):=by
 have c1:=EH c
 refine AP QC Ap (by simp) fun hwf=>?_
 rw[AW];unfold K0 Rx
 rcases hok:c.ok with _|_
 ·rw[UY hok] at c1 ⊢
  (try (simp -implicitDefEqProofs only[go_sem,AG,AF]));repeat' first|(with_reducible first|exact tI|refine aI ?_ ?_|intro _)|((first|with_reducible refine AO ?_ ?_<;>intro _|(with_reducible refine isCall ?_);first|refine AE c1 ?_)<;>try (simp -implicitDefEqProofs only[go_sem,AG,AF]))|simp (disch:=omega) only[Al]
  all_goals first|rfl|skip
 ·have hk:=Dh hok
  have hz:=EC hk.code
  have hs:=hk.syms
  have cZ:=Dx c hk.code
  have cS:=CT c hk.wev
  rw[Nx hok] at c1 ⊢
  have hb:=Ki hk.wev
  have hqp:=lx hk.wev
  have w1:IntKind.i64.wrap (c.P.tdiv 2)=c.P/2:=by rw[Int.tdiv_eq_ediv_of_nonneg (by omega)];exact AZ _ (by omega)
  have w2:IntKind.i64.wrap (c.Q*(c.P/2))=c.Q*(c.P/2):=AZ _ (by omega)
  have w7:IntKind.i64.wrap (c.Q*c.L*(c.code.sz:Int))=((c.syms*c.code.sz:Nat):Int):=by
   have h1:c.Q*c.L=((c.syms:Nat):Int):=by unfold AX.syms at hs ⊢;omega
   rw[h1,←Int.natCast_mul]
   have:c.syms*c.code.sz<=32*20:=Nat.mul_le_mul (by have:=hk.ql;unfold AX.syms;omega) hz.2
   exact AZ _ (by omega)
  simp only[if_true]
  unfold oW
  obtain⟨h,hh⟩:∃h,c.Q*(c.P/2)=h:=⟨_,rfl⟩
  rw[hh] at w2 hqp ⊢
  have hmul:(h-1)*(c.code.sz:Int)<=31*20:=by
   by_cases h0:0<=h-1
   ·exact Int.mul_le_mul (by omega) (by omega) (by omega) (by omega)
   ·have:h=0:=by omega
    subst this
    omega
  have hmul0:h≠0->0<=(h-1)*(c.code.sz:Int):=fun h0=>Int.mul_nonneg (by omega) (by omega)
  have w3:IntKind.i64.wrap (h-1)=h-1:=AZ _ (by omega)
  by_cases h0:h=0
  ·rw[if_pos h0]
   have w6:IntKind.i64.wrap 0=0:=AZ 0 (by omega)
   (try (simp -implicitDefEqProofs only[go_sem,AG,AF,w1,w2,w6,hh,h0]));repeat' first|(with_reducible first|exact tI|refine aI ?_ ?_|intro _)|((first|with_reducible refine AO ?_ ?_<;>intro _|(with_reducible refine isCall ?_);first|refine AE c1 ?_)<;>try (simp -implicitDefEqProofs only[go_sem,AG,AF,w1,w2,w6,hh,h0]))|simp (disch:=omega) only[Al]
   all_goals first|rfl|skip
  ·rw[if_neg h0]
   have w4:IntKind.i64.wrap ((h-1)*(c.code.sz:Int))=(h-1)*(c.code.sz:Int):=AZ _ (by have:=hmul0 h0;omega)
   have w5:IntKind.i64.wrap ((h-1)*(c.code.sz:Int)+1)=(h-1)*(c.code.sz:Int)+1:=AZ _ (by have:=hmul0 h0;omega)
   by_cases h1:c.Q*c.L<=h
   ·rw[if_pos h1]
    (try (simp -implicitDefEqProofs only[go_sem,AG,AF,w1,w2,w7,hh,h0,h1]));repeat' first|(with_reducible first|exact tI|refine aI ?_ ?_|intro _)|((first|with_reducible refine AO ?_ ?_<;>intro _|(with_reducible refine isCall ?_);first|refine AE c1 ?_|refine AE cZ ?_|refine AE cS ?_)<;>try (simp -implicitDefEqProofs only[go_sem,AG,AF,w1,w2,w7,hh,h0,h1]))|simp (disch:=omega) only[Al]
    all_goals first|rfl|skip
   ·rw[if_neg h1]
    (try (simp -implicitDefEqProofs only[go_sem,AG,AF,w1,w2,hh,h0,h1,w3,w4,w5]));repeat' first|(with_reducible first|exact tI|refine aI ?_ ?_|intro _)|((first|with_reducible refine AO ?_ ?_<;>intro _|(with_reducible refine isCall ?_);first|refine AE c1 ?_|refine AE cZ ?_|refine AE cS ?_)<;>try (simp -implicitDefEqProofs only[go_sem,AG,AF,w1,w2,hh,h0,h1,w3,w4,w5]))|simp (disch:=omega) only[Al]
    all_goals first|rfl|skip
end Go.Pw
end
