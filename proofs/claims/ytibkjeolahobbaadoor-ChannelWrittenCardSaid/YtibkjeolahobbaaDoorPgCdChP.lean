/- A part of the proof. -/
import Derived.Test.YtibkjeolahobbaaDoorPgCdChCnt
import Derived.Test.YtibkjeolahobbaaDoorPgCdChrN
set_option linter.all false
section
open Go Go.Pw
namespace Go.Pw
theorem aX {L P:Nat}(hL:L<=15) {w r c:List F}{mk:List Nat}(hw:w.length=L) (h2:r.length=L) (hc:c.length=L) (hm:Xv L mk) (h1:fA L P r) (hcode:fA L P c) (h:mk.length+(MR L r w mk).length+(MR L c w mk).length<=P):r=c:=by
 have hs:=NQ L c w mk
 have hs2:=NQ L r w mk
 obtain⟨at_,hat⟩:∃at_,mk++((MR L r w mk)++(MR L c w mk).filter fun j=>!(MR L r w mk).contains j)=at_:=⟨_,rfl⟩
 refine SS hL (at_:=at_) h2 hc ?_ ?_ h1 hcode fun j hj=>?_
 ·rw[←hat]
  refine⟨List.nodup_append.2 ⟨EL hm.asc,List.nodup_append.2 ⟨EL hs2.asc,(EL hs.asc).filter _,fun a ha b hb e=>?_⟩,fun a ha b hb e=>?_⟩,fun j hj=>?_⟩
  ·simp at hb;exact hb.2 (e ▸ ha)
  ·subst e
   rcases List.mem_append.1 hb with hb|hb
   ·exact hs2.un a hb ha
   ·exact hs.un a (List.mem_filter.1 hb).1 ha
  ·rcases List.mem_append.1 hj with hj|hj
   ·exact hm.lt j hj
   ·rcases List.mem_append.1 hj with hj|hj
    ·exact hs2.lt j hj
    ·exact hs.lt j (List.mem_filter.1 hj).1
 ·rw[←hat]
  have:=List.length_filter_le (fun j=>!(MR L r w mk).contains j) (MR L c w mk)
  simp only[List.length_append]
  omega
 ·rw[←hat] at hj
  simp only[List.mem_append,not_or,List.mem_filter] at hj
  obtain⟨j1,j2,j3⟩:=hj
  have j4:j∉MR L c w mk:=fun hh=>j3 ⟨hh,by simpa using j2⟩
  exact(NR h2 hw (fun e=>(List.mem_append.1 e).elim j1 j2)).trans (NR hc hw (fun e=>(List.mem_append.1 e).elim j1 j4)).symm
theorem XQ {L P:Nat}(hL:L<=15) {w R r:List F}{mk:List Nat}(hw:w.length=L) (hR:R.length=L) (hm:Xv L mk) (hcod:fA L P w) (hd:MX L P R mk=some r) (h:(MR L w R mk).length+mk.length+P/2<=P):r=w:=by
 obtain⟨h1,h2,h3⟩:=NS hR hm hd
 exact aX hL hR h2 hw hm h1 hcod (by omega)
theorem U4 {l p q:Nat}(hl:l<=15) (hpl:p<l) (hq:0<q) {d R:List F}{ms:List Nat}(hd:d.length=(l-p)*q) (hR:R.length=l*q) (hm:Xv (l*q) ms)
  (h:∀k,k<q->(MR l (Ga p (CR (l-p) q k d)) (CR l q k R) (O9 q k ms)).length+(O9 q k ms).length+p/2<=p):XF l p q R ms=some d\/XF l p q R ms=none:=by
 by_cases ha:∀k,k<q->(YS l p q R ms k).isSome=true
 ·left
  have hO:∀k,k<q->YS l p q R ms k=some (Ga p (CR (l-p) q k d)):=fun k hk=>by
   have hl1:=CY (l-p) q k d
   have hc:=Vb p (CR (l-p) q k d)
   rw[hl1,show l-p+p=l by omega] at hc
   cases hg:YS l p q R ms k with
   |none=>have:=ha k hk;rw[hg] at this;cases this
   |some r =>
    congr 1
    exact XQ hl (by rw[HK,hl1];omega) (CY ..) (TH hq hm) hc hg (h k hk)
  rw[XE ha]
  congr 1
  rw[Qw hq (V:=fun k=>CR (l-p) q k d) fun k hk=>by
   rw[NJ (hO k hk)]
   unfold Ga
   rw[List.take_append_of_le_length (by rw[CY];omega),List.take_of_length_le (by rw[CY];omega)]]
  exact Vt hq hd
 ·right
  unfold XF;rw[if_neg ha]
theorem Ya (f g:Nat->Nat) (q:Nat):∀n k,FF f q n k+FF g q n k=FF (fun i=>f i+g i) q n k
 |0,_=>rfl
 |n+1,k=>by
  have ih:=Ya f g q n k
  show FF f q n k+(if n%q=k then f n else 0)+(FF g q n k+(if n%q=k then g n else 0))=FF (fun i=>f i+g i) q n k+(if n%q=k then f n+g n else 0)
  rw[←ih];split<;>omega
theorem ZN {c:AX}(hk:Fg c) {l p q:Nat}{e:List F}(h1:c.L=(l:Int)) (h2:c.P=(p:Int)) (h3:c.Q=(q:Int)) (b2:l<=15) (b5:p<l) (b6:1<=q) (he:e.length=(l-p)*q) (hs:c.syms=l*q)
  {sy:List (Option Nat)}(hl:sy.length=c.syms) {f:Nat->Nat}
  (hf:∀i,i<l*q->sy[i]?.getD none≠some ((CP c.seed (iv (Rs l p q e)))[i]?.getD 0).toNat->1<=f i)
  (hc:∀k,k<q->FF f q (l*q) k+p/2<=p):(RE c sy=0/\VH c sy=iv e)\/RE c sy=52:=by
 obtain⟨g1,g2⟩:=dV hk h1 h2 h3 hs hl
 have hBl:(Rs l p q e).length=l*q:=Sr ..
 have hrl:(fs (CP c.seed (Mo sy))).length=l*q:=by rw[TN,Ce,FM,hl,hs]
 obtain⟨mB,hmB⟩:∃mB:Nat->Bool,mB=fun i=>(sy[i]?.getD none).isNone:=⟨_,rfl⟩
 obtain⟨wB,hwB⟩:∃wB:Nat->Bool,wB=fun i=>decide (sy[i]?.getD none≠some ((CP c.seed (iv (Rs l p q e)))[i]?.getD 0).toNat) && !mB i:=⟨_,rfl⟩
 have hmk:Zf sy=(List.range (l*q)).filter mB:=by rw[hmB];unfold Zf;rw[hl,hs]
 have key:=U4 (l:=l) (p:=p) (q:=q) (R:=fs (CP c.seed (Mo sy))) (ms:=(List.range (l*q)).filter mB) b2 b5 (by omega) he hrl (QP mB _) fun k hkq=>by
  have d1:=YY (a:=[]) (wB:=wB) (mB:=mB) (R:=fs (CP c.seed (Mo sy))) (W:=fun k=>Ga p (CR (l-p) q k e)) (l:=l) hkq fun j hj hne hmj=>by
   have hlt:=PE hkq hj
   have h4:(Rs l p q e)[j*q+k]?.getD 0=(Ga p (CR (l-p) q k e))[j]?.getD 0:=by
    unfold Rs
    rw[Nx _ hlt,Td hkq,Qd hkq]
   rw[hwB]
   simp only[hmj,Bool.not_false,Bool.and_true,decide_eq_true_eq]
   intro hs2
   have hx:0<=(CP c.seed (iv (Rs l p q e)))[j*q+k]?.getD 0:=(HB _ _ _ (DS (by rw[Ce,JR,hBl];exact hlt))).1
   exact hne (h4.symm.trans (bn (by omega) (by omega) hs2 (by omega)).symm)
  have d2:=TI mB (q:=q) k (l*q)
  have d3:FF f q (l*q) k>=M4 (fun i=>if wB i then 1 else 0) q l k+FF (fun i=>if mB i then 1 else 0) q (l*q) k:=by
   rw[←Ns _ hkq,Ya]
   refine Qp (fun i hi=>?_) k
   by_cases hw:sy[i]?.getD none=some ((CP c.seed (iv (Rs l p q e)))[i]?.getD 0).toNat
   ·have:mB i=false:=by rw[hmB];simp only[hw];rfl
    have h5:wB i=false:=by rw[hwB];simp[hw]
    rw[this,h5];simp
   ·have:=hf i hi hw
    cases hm:mB i with
    |true =>
     have h5:wB i=false:=by rw[hwB];simp[hm]
     rw[h5];simpa using this
    |false=>simp only[Bool.false_eq_true,if_false,Nat.add_zero];split<;>omega
  have:=hc k hkq
  omega
 rw[g1,g2,hmk]
 rcases key with h|h
 ·left;rw[h];exact⟨rfl,rfl⟩
 ·right;rw[h];rfl
end Go.Pw
end
section
open Go Go.Pw
namespace Go.Pw
theorem eW {c:AX}(hk:Fg c) {b:List Int}(hb:b.length=c.syms) {R:List Int}{i:Nat}(hi:i<c.syms) (h:(c.syL R 0)[i]?.getD none≠some ((CP c.seed b)[i]?.getD 0).toNat):Qr c (DL c b) R i=1:=by
 unfold Qr
 rw[if_neg]
 intro he
 have h1:=bj hk hb [] hi
 rw[List.append_nil,WQ hi,he,←WQ hi] at h1
 exact h h1
theorem YZ (f:Nat->Nat) (q:Nat):∀n k,FF (fun i=>2*f i) q n k=2*FF f q n k
 |0,_=>rfl
 |n+1,k=>by
  have ih:=YZ f q n k
  show FF (fun i=>2*f i) q n k+(if n%q=k then 2*f n else 0)=2*(FF f q n k+(if n%q=k then f n else 0))
  rw[ih];split<;>omega
theorem ZH {c:AX}(hk:Fg c) {d:List Int}(he:spE c.L c.P c.Q d=0) {R:List Int}
  {n:Nat}(hn:∀k,k<c.Q.toNat->FF (Qr c (DL c (Rt c.L c.P c.Q d)) R) c.Q.toNat c.syms k<=n) :
  (2*n<=c.P.toNat->RE c (c.syL R 0)=0/\VH c (c.syL R 0)=d)/\(n+c.P.toNat/2<=c.P.toNat->(RE c (c.syL R 0)=0/\VH c (c.syL R 0)=d)\/RE c (c.syL R 0)=52):=by
 have hbl:=Hq hk.wev he
 obtain⟨l,p,q,e,h1,h2,h3,b1,b2,b3,b4,b5,b6,b7,rfl,hel,hsp,hs⟩:=Sq hk he
 have hq:c.Q.toNat=q:=by rw[h3];rfl
 have hp:c.P.toNat=p:=by rw[h2];rfl
 rw[hq] at hn
 rw[hp]
 refine⟨fun h=>?_,fun h=>?_⟩
 ·refine Ut hk h1 h2 h3 b2 b5 b6 hel hs (LS ..) (f:=fun i=>2*Qr c (DL c (Rt c.L c.P c.Q (iv e))) R i) (fun i hi hne=>?_) fun k hkq=>?_
  ·rw[hsp] at hbl ⊢
   rw[eW hk hbl (by omega) hne];split<;>omega
  ·rw[YZ,←hs]
   have:=hn k hkq;omega
 ·refine ZN hk h1 h2 h3 b2 b5 b6 hel hs (LS ..) (f:=Qr c (DL c (Rt c.L c.P c.Q (iv e))) R) (fun i hi hne=>?_) fun k hkq=>?_
  ·rw[hsp] at hbl ⊢
   rw[eW hk hbl (by omega) hne];omega
  ·rw[←hs]
   have:=hn k hkq;omega
end Go.Pw
end
section
open Go Go.Pw Go.Proofs
namespace Go.Pw
set_option maxRecDepth 100000
set_option maxHeartbeats 3200000
theorem iE {c:AX}(hk:Fg c) {sy:List (Option Nat)}(hl:sy.length=c.syms):RE c sy=0\/RE c sy=52:=by
 obtain⟨l,p,q,h1,h2,h3,b1,b2,b3,b4,b5,b6,b7,hc⟩:=LR hk.wev
 have hs:c.syms=l*q:=by
  have:=hk.syms.2.2
  rw[h1,h3] at this
  have e:(q:Int)*(l:Int)=((l*q:Nat):Int):=by push_cast;exact Int.mul_comm ..
  rw[e] at this;omega
 rw[(dV hk h1 h2 h3 hs hl).1]
 cases XF l p q (fs (CP c.seed (Mo sy))) (Zf sy) with
 |none=>exact .inr rfl
 |some r=>exact .inl rfl
theorem TA {c:AX}(hok:c.ok=true) {R:List Int}(hb:Hi R=true) {a:Nat}(hf:c.find R=some a):ZO c R=.tup [.list (VH c (c.syL R a)).isEmpty (Al (VH c (c.syL R a))),.int .i64 (if RE c (c.syL R a)=0 then (a:Int) else 0),.int .i64 (RE c (c.syL R a))]:=by
 unfold ZO Uv YD YC
 simp only[hok,hb,if_true,hf]
theorem Mv {c:AX}(hk:Fg c) (b:List Int):Ab (DL c b)=true:=by
 unfold DL
 refine El hk.markl.2.2 ?_
 unfold AX.flat
 generalize CP c.seed b=X
 induction X with
 |nil=>rfl
 |cons x X ih=>exact El (UK ..) ih
attribute [local congr] Bi A9 A_ Aq Bj Ax Az Ay Ap Aj Ad AY Au Ae Av BH BL BJ BK BI BM BE Ah Aw Ai BC BT Ag BF BG BD BA BB A8 Bk A' Ar Af
attribute [local irreducible] IntKind.wrap A3 Option.getD and or
end Go.Pw
end
section
open Go Go.Pw Go.Proofs
namespace Go.Pw
set_option maxRecDepth 100000
set_option maxHeartbeats 3200000
theorem bk (c:AX) (b:List Int):(DL c b).take c.mark.length=c.mark:=by
 unfold DL;exact List.take_left' rfl
theorem bl {s:Int}{B:List Int}{i:Nat}(h:i<B.length):∃x:Nat,x<16/\(CP s B)[i]?.getD 0=(x:Int)/\((B8 s (EZ B)).drop (4*i)).take 4=JE 1 (x:Int):=by
 have h1:=Uh s B h
 have hl:(B8 s (EZ B)).length=4*B.length:=by rw[EF,Kk]
 obtain⟨p,hp⟩:∃p,((B8 s (EZ B)).drop (i*4)).take 4=p:=⟨_,rfl⟩
 have hpl:p.length=4:=by rw[←hp,List.length_take,List.length_drop,hl];omega
 have hpb:Ab p=true:=by rw[←hp];exact Et (Dg (Hr ..) _) _
 rw[hp,List.take_add_one,List.getElem?_eq_getElem (by rw[Ce];exact h)] at h1
 have h2:=List.append_cancel_left h1
 have h3:GO 1 p=(CP s B)[i]'(by rw[Ce];exact h):=by simpa using h2
 have h4:=Sj hpb (by omega)
 refine⟨(GO 1 p).toNat,by omega,?_,?_⟩
 ·rw[List.getElem?_eq_getElem (by rw[Ce];exact h),Option.getD_some,←h3];omega
 ·rw[Int.toNat_of_nonneg h4.1,je hpl hpb,Nat.mul_comm 4 i,hp]
attribute [local congr] Bi A9 A_ Aq Bj Ax Az Ay Ap Aj Ad AY Au Ae Av BH BL BJ BK BI BM BE Ah Aw Ai BC BT Ag BF BG BD BA BB A8 Bk A' Ar Af
attribute [local irreducible] IntKind.wrap A3 Option.getD and or
theorem Ml (c:AX) (n1 n2 n3:Bool) (d fl rest:List Int):CK E0 Fw [FG c,.agg [.list n1 (Al d),.list n2 (Al fl),.list n3 (Al rest)]] (.bool true):=by
 have c0:=Gm
 have c1:=FL c n1 d
 have cA:=Hu n3 rest
 refine AM II A0 (by simp) fun hwf=>?_
 rw[AW];unfold FU
 cases hr:Uu c d with
 |false =>
  rw[hr] at c1
  (try (simp -implicitDefEqProofs only[go_sem,AJ,AI]));repeat' first|(with_reducible first|exact tI|refine aI ?_ ?_|intro _)|((first|with_reducible refine AO ?_ ?_<;>intro _|(with_reducible refine isCall ?_);first|refine AE c0 ?_|refine AE c1 ?_)<;>try (simp -implicitDefEqProofs only[go_sem,AJ,AI]))|simp (disch:=omega) only[An]|((with_reducible refine BV ?_);refine⟨(_,_,_),rfl,?_,?_⟩)|((with_reducible refine Ao ?_);refine⟨(_,_),rfl,?_,?_⟩)|((with_reducible refine A5 ?_);refine⟨_,rfl,?_,?_⟩)
  all_goals first|rfl|skip
 |true =>
 rw[hr] at c1
 have r:=S' hr
 have hk:=D7 r.ok
 have hm:=hk.markl
 have ht:=r.tot
 have hs:=hk.syms
 have hz:=E3 hk.code
 by_cases hrl:200<(rest.length:Int)
 ·(try (simp -implicitDefEqProofs only[go_sem,AJ,AI,hrl]));repeat' first|(with_reducible first|exact tI|refine aI ?_ ?_|intro _)|((first|with_reducible refine AO ?_ ?_<;>intro _|(with_reducible refine isCall ?_);first|refine AE c0 ?_|refine AE c1 ?_)<;>try (simp -implicitDefEqProofs only[go_sem,AJ,AI,hrl]))|simp (disch:=omega) only[An]|((with_reducible refine BV ?_);refine⟨(_,_,_),rfl,?_,?_⟩)|((with_reducible refine Ao ?_);refine⟨(_,_),rfl,?_,?_⟩)|((with_reducible refine A5 ?_);refine⟨_,rfl,?_,?_⟩)
  all_goals first|rfl|skip
 cases hab:Ab rest with
 |false =>
  unfold Hi at cA
  rw[hab,Bool.and_false] at cA
  (try (simp -implicitDefEqProofs only[go_sem,AJ,AI,hrl]));repeat' first|(with_reducible first|exact tI|refine aI ?_ ?_|intro _)|((first|with_reducible refine AO ?_ ?_<;>intro _|(with_reducible refine isCall ?_);first|refine AE c0 ?_|refine AE c1 ?_|refine AE cA ?_)<;>try (simp -implicitDefEqProofs only[go_sem,AJ,AI,hrl]))|simp (disch:=omega) only[An]|((with_reducible refine BV ?_);refine⟨(_,_,_),rfl,?_,?_⟩)|((with_reducible refine Ao ?_);refine⟨(_,_),rfl,?_,?_⟩)|((with_reducible refine A5 ?_);refine⟨_,rfl,?_,?_⟩)
  all_goals first|rfl|skip
 |true =>
 unfold Hi at cA
 rw[hab,Bool.and_true,decide_eq_true (by omega)] at cA
 obtain⟨w1,w2,w3⟩:=r.wr
 have c2:=Dd c n1 d
 rw[w2] at c2
 have hsb:Ab (T4 c d)=true:=by rw[w1];exact Mv hk _
 obtain⟨S,hS⟩:∃S,T4 c d=S:=⟨_,rfl⟩
 rw[hS] at c2 w3 hsb w1
 have htt:c.tot=c.mark.length+c.syms*c.code.sz:=rfl
 have hne:¬S=[]:=fun e=>by rw[e] at w3;simp at w3;omega
 have hSe:S.isEmpty=false:=DR hne
 rw[hSe] at c2
 have c3:=Gk c hk.wev hk.code (by omega)
 have cB:=Oq c
 rw[(GG r.ok).2,if_pos r.ok] at cB
 have cP:=HT c.L c.P c.Q n1 d
 rw[r.spE] at cP
 obtain⟨B,hB⟩:∃B,Rt c.L c.P c.Q d=B:=⟨_,rfl⟩
 have hBl:=Hq hk.wev r.spE
 have hown:=Us hk r.spE rest
 rw[hB] at cP hBl w1 hown
 have hBe:B.isEmpty=false:=DR (fun e=>by rw[e] at hBl;simp at hBl;omega)
 rw[hBe] at cP
 have cS:=EV c hk.wev
 rw[hs.2.2] at cS
 have cZ:=KX c hk.code
 have hmk:=bk c B
 rw[←w1] at hmk hown
 have hsp:=fun i hi=>@QA c (CP c.seed B) [] i hi
 rw[List.append_nil,show c.mark++c.flat (CP c.seed B)=DL c B from rfl,←w1] at hsp
 have hscl:=Ce B c.seed
 have hlen:(S.length:Int)=(c.tot:Int):=by omega
 have hBl':(B.length:Int)=((c.syms:Nat):Int):=by omega
 have hnl:=Kk B
 clear hS
 (try (simp -implicitDefEqProofs only[go_sem,AJ,AI,hrl,hlen,hBl']));repeat' first|(with_reducible first|exact tI|refine aI ?_ ?_|intro _)|((first|with_reducible refine AO ?_ ?_<;>intro _|(with_reducible refine isCall ?_);first|refine AE c0 ?_|refine AE c1 ?_|refine AE c2 ?_|refine AE c3 ?_|refine AE cA ?_|refine AE cB ?_|refine AE cP ?_|refine AE cS ?_)<;>try (simp -implicitDefEqProofs only[go_sem,AJ,AI,hrl,hlen,hBl']))|simp (disch:=omega) only[An]|((with_reducible refine BV ?_);refine⟨(_,_,_),rfl,?_,?_⟩)|((with_reducible refine Ao ?_);refine⟨(_,_),rfl,?_,?_⟩)|((with_reducible refine A5 ?_);refine⟨_,rfl,?_,?_⟩)
 all_goals first|omega|(simp;done)|(simp;omega)|skip
 refine AZ (α:=Nat×Bool) (l0:=?l1) (m0:=?m1) (fun x=>[(12,.d (.int .i64 (x.1:Int)))]) (fun x=>[(112,.row 3 1 x.2 (Al ((EZ B).take (4*x.1))))]) (fun x=>x.1<=B.length/\x.2=decide (x.1=0)) (fun x=>B.length-x.1) (0,true) ?h01 ?he1 ?he21 ?hI1 ?step1
 case h01=>(simp -implicitDefEqProofs only[go_sem];rfl)
 case he1=>rfl
 case he21=>rfl
 case' step1=>(rintro⟨i,nl⟩ hI;try dsimp only at hI)
 case' hI1=>try dsimp only
 ·exact⟨Nat.zero_le _,rfl⟩
 ·obtain⟨i1,i2⟩:=hI
  change nl=decide (i=0) at i2
  subst i2
  by_cases hi:i<B.length
  ·have hi':(i:Int)<((c.syms:Nat):Int):=by omega
   have hwi:IntKind.i64.wrap ((i:Int)+1)=((i+1:Nat):Int):=by rw[Ak _ (by omega)];omega
   obtain⟨x,hx⟩:∃x,B[i]?.getD 0=x:=⟨_,rfl⟩
   have hst:=fun k hk=>@U2 B i k hi hk
   simp only[hx] at hst
   (try (simp -implicitDefEqProofs only[go_sem,hBl',hi',hi,hx]));repeat' first|(with_reducible first|exact tI|refine aI ?_ ?_|intro _)|((first|with_reducible refine AO ?_ ?_<;>intro _)<;>try (simp -implicitDefEqProofs only[go_sem,hBl',hi',hi,hx]))|simp (disch:=omega) only[An]|((with_reducible refine BV ?_);refine⟨(_,_,_),rfl,?_,?_⟩)|((with_reducible refine Ao ?_);refine⟨(_,_),rfl,?_,?_⟩)|((with_reducible refine A5 ?_);refine⟨_,rfl,?_,?_⟩)
   all_goals first|omega|(simp;done)|(simp;omega)|skip
   refine AZ (α:=Nat×Int×Bool) (l0:=?l2) (m0:=?m2) (fun x=>[(13,.d (.int .i64 x.2.1))]) (fun x=>[(112,.row 3 1 x.2.2 (Al ((EZ B).take (4*i+x.1))))]) (fun x=>x.1<=4/\x.2.1=3-(x.1:Int)/\x.2.2=(decide (i=0) && decide (x.1=0))) (fun x=>4-x.1) (0,3,(decide (i=0))) ?h02 ?he2 ?he22 ?hI2 ?step2
   case h02=>(simp -implicitDefEqProofs only[go_sem];rfl)
   case he2=>rfl
   case he22=>rfl
   case' step2=>(rintro⟨k,a,e⟩ hI2;try dsimp only at hI2)
   case' hI2=>try dsimp only
   ·exact⟨Nat.zero_le _,rfl,by cases i<;>simp⟩
   ·obtain⟨k1,k2,k3⟩:=hI2
    change a=3-(k:Int) at k2
    change e=(decide (i=0) && decide (k=0)) at k3
    by_cases hk4:k<4
    ·have ha:0<=a:=by omega
     have hat:a.toNat=3-k:=by omega
     have hst:=hst k hk4
     have hwa:IntKind.i64.wrap (a-1)=a-1:=Ak _ (by omega)
     have hl4:((EZ B).take (4*i+k)).length<=128:=by rw[List.length_take];omega
     have hfe:false=(decide (i=0) && decide (k+1=0)):=by simp
     (try (simp -implicitDefEqProofs only[go_sem,ha,hwa,hBl',hi',hi,hx]));repeat' first|(with_reducible first|exact tI|refine aI ?_ ?_|intro _)|((first|with_reducible refine AO ?_ ?_<;>intro _)<;>try (simp -implicitDefEqProofs only[go_sem,ha,hwa,hBl',hi',hi,hx]))|simp (disch:=omega) only[An]|((with_reducible refine BV ?_);refine⟨(_,_,_),rfl,?_,?_⟩)|((with_reducible refine Ao ?_);refine⟨(_,_),rfl,?_,?_⟩)|((with_reducible refine A5 ?_);refine⟨_,rfl,?_,?_⟩)
     all_goals first|omega|(simp;done)|(simp;omega)|skip
     rw[hat,hst]
     exact⟨(k+1,a-1,false),rfl,⟨by show k+1<=4;omega,by show a-1=3-((k+1:Nat):Int);omega,hfe⟩,by show 4-(k+1)<4-k;omega⟩
    ·have ha:¬0<=a:=by omega
     have hk4:4*i+k=4*(i+1):=by omega
     have hfe:e=decide (i+1=0):=by rw[k3];simp;omega
     (try (simp -implicitDefEqProofs only[go_sem,ha,hwi,hk4]));repeat' first|(with_reducible first|exact tI|refine aI ?_ ?_|intro _)|((first|with_reducible refine AO ?_ ?_<;>intro _)<;>try (simp -implicitDefEqProofs only[go_sem,ha,hwi,hk4]))|simp (disch:=omega) only[An]|((with_reducible refine BV ?_);refine⟨(_,_,_),rfl,?_,?_⟩)|((with_reducible refine Ao ?_);refine⟨(_,_),rfl,?_,?_⟩)|((with_reducible refine A5 ?_);refine⟨_,rfl,?_,?_⟩)
     all_goals first|omega|(simp;done)|(simp;omega)|skip
     all_goals skip
  ·have hi':¬(i:Int)<((c.syms:Nat):Int):=by omega
   have htk:(EZ B).take (4*i)=EZ B:=List.take_of_length_le (by omega)
   have hi0:decide (i=0)=false:=decide_eq_false (by omega)
   rw[htk,hi0]
   have hso:Jg c.seed (EZ B)=(B8 c.seed (EZ B),0):=QB (by unfold Eo;rw[hk.seed,SB,decide_eq_true (by omega)];simp only[Bool.and_self])
   have c4:=FP c.seed false (EZ B)
   rw[hso] at c4
   have hr1:=EF c.seed (EZ B)
   have hpart:=fun i hi=>@bl c.seed B i hi
   obtain⟨R,hR⟩:∃R,B8 c.seed (EZ B)=R:=⟨_,rfl⟩
   rw[hR] at c4 hr1
   simp only[hR] at hpart
   have hRe:R.isEmpty=false:=DR (fun e=>by rw[e] at hr1;simp at hr1;omega)
   rw[hRe] at c4
   have hr2:(R.length:Int)=((EZ B).length:Int):=by omega
   have c5:=Du false c.nm c.mark c.mark
   rw[decide_eq_true rfl] at c5
   have gm:(c.mark.length:Int)<=((c.tot:Nat):Int):=by omega
   (try (simp -implicitDefEqProofs only[go_sem,AJ,AI,hi',hBl',hr2,hmk,hlen,gm]));repeat' first|(with_reducible first|exact tI|refine aI ?_ ?_|intro _)|((first|with_reducible refine AO ?_ ?_<;>intro _|(with_reducible refine isCall ?_);first|refine AE c4 ?_|refine AE c5 ?_)<;>try (simp -implicitDefEqProofs only[go_sem,AJ,AI,hi',hBl',hr2,hmk,hlen,gm]))|simp (disch:=omega) only[An]|((with_reducible refine BV ?_);refine⟨(_,_,_),rfl,?_,?_⟩)|((with_reducible refine Ao ?_);refine⟨(_,_),rfl,?_,?_⟩)|((with_reducible refine A5 ?_);refine⟨_,rfl,?_,?_⟩)
   all_goals first|omega|(simp;done)|(simp;omega)|skip
   refine AZ (α:=Nat) (l0:=?l3) (m0:=?m3) (fun x=>[(16,.d (.int .i64 (x:Int)))]) (fun x=>[]) (fun x=>x<=B.length) (fun x=>B.length-x) 0 ?h03 ?he3 ?he23 ?hI3 ?step3
   case h03=>(simp -implicitDefEqProofs only[go_sem];rfl)
   case he3=>rfl
   case he23=>rfl
   case' step3=>(rintro j hI3;try dsimp only at hI3)
   case' hI3=>try dsimp only
   ·exact Nat.zero_le _
   ·by_cases hj:j<B.length
    ·have hj':(j:Int)<((c.syms:Nat):Int):=by omega
     have hwj:IntKind.i64.wrap ((j:Int)+1)=((j+1:Nat):Int):=by rw[Ak _ (by omega)];omega
     have hq1:IntKind.i64.wrap (4*(j:Int))=((4*j:Nat):Int):=by rw[Ak _ (by omega)];omega
     have hq2:IntKind.i64.wrap (((4*j:Nat):Int)+4)=((4*j+4:Nat):Int):=by rw[Ak _ (by omega)];omega
     obtain⟨x,hx1,hx2,hx3⟩:=hpart j hj
     have hsj:=hsp j (by omega)
     rw[hx2,Int.toNat_natCast] at hsj
     have hq3:((4*j+4:Nat):Int)<=(R.length:Int):=by omega
     have hq4:((4*j:Nat):Int)<=((4*j+4:Nat):Int):=by omega
     have h1:j*c.code.sz+c.code.sz<=c.syms*c.code.sz:=by have:=Nat.mul_le_mul_right c.code.sz (show j+1<=c.syms by omega);rw[Nat.add_mul,Nat.one_mul] at this;exact this
     have v1:IntKind.i64.wrap ((j:Int)*(c.code.sz:Int))=((j*c.code.sz:Nat):Int):=by rw[←Int.natCast_mul];exact Ak _ (by omega)
     have v2:IntKind.i64.wrap ((c.mark.length:Int)+((j*c.code.sz:Nat):Int))=((c.mark.length+j*c.code.sz:Nat):Int):=by rw[Ak _ (by omega)];omega
     have v3:IntKind.i64.wrap (((c.mark.length+j*c.code.sz:Nat):Int)+(c.code.sz:Int))=((c.mark.length+j*c.code.sz+c.code.sz:Nat):Int):=by rw[Ak _ (by omega)];omega
     obtain⟨f,hf⟩:∃f,c.mark.length+j*c.code.sz=f:=⟨_,rfl⟩
     have hpa:(S.drop f).take c.code.sz=c.code.stm x:=by rw[←hsj];unfold AX.part;rw[←hf,Nat.zero_add]
     rw[hf] at v2 v3
     have hsub:f+c.code.sz-f=c.code.sz:=by omega
     have g1:((f+c.code.sz:Nat):Int)<=((c.tot:Nat):Int):=by omega
     have g3:(f:Int)<=((f+c.code.sz:Nat):Int):=by omega
     obtain⟨F4,hF4⟩:∃F4,4*j=F4:=⟨_,rfl⟩
     rw[hF4] at hx3 hq1 hq2 hq3 hq4
     have hsub4:F4+4-F4=4:=by omega
     have c6:=I6 c.code 0 false (JE c.code.bits.toNat (x:Int))
     rw[YX hk.code,DR (Sl hk.code x)] at c6
     have c7:=Du false false (c.code.stm x) (c.code.stm x)
     rw[decide_eq_true rfl] at c7
     obtain⟨y0,hy0⟩:∃y,(x:Int)/8%2=y:=⟨_,rfl⟩
     obtain⟨y1,hy1⟩:∃y,(x:Int)/4%2=y:=⟨_,rfl⟩
     obtain⟨y2,hy2⟩:∃y,(x:Int)/2%2=y:=⟨_,rfl⟩
     obtain⟨y3,hy3⟩:∃y,(x:Int)/1%2=y:=⟨_,rfl⟩
     have hw1:JE 1 (x:Int)=[y0,y1,y2,y3]:=by rw[←hy0,←hy1,←hy2,←hy3];rfl
     rw[hw1] at hx3
     by_cases hb:c.code.bits=2
     ·have h2:JE c.code.bits.toNat (x:Int)=[2*y0+y1,2*y2+y3]:=by
       rw[hb]
       show [(x:Int)/4%4,(x:Int)/1%4]=_
       congr 1
       ·omega
       ·congr 1;omega
      rw[h2] at c6
      have wa:IntKind.i64.wrap (2*y0)=2*y0:=Ak _ (by omega)
      have wb:IntKind.i64.wrap (2*y2)=2*y2:=Ak _ (by omega)
      have wc:IntKind.i64.wrap (2*y0+y1)=2*y0+y1:=Ak _ (by omega)
      have wd:IntKind.i64.wrap (2*y2+y3)=2*y2+y3:=Ak _ (by omega)
      have hbT:=eq_true hb
      (try (simp -implicitDefEqProofs only[go_sem,AJ,AI,BO,A6,hj',hBl',hlen,hwj,hq1,hq2,hq3,hq4,hsub4,hx3,Oz,hbT,wa,wb,wc,wd,v1,v2,v3,hpa,hsub,g1,g3]));repeat' first|(with_reducible first|exact tI|refine aI ?_ ?_|intro _)|((first|with_reducible refine AO ?_ ?_<;>intro _|(with_reducible refine isCall ?_);first|refine AE c6 ?_|refine AE c7 ?_|refine AE cZ ?_)<;>try (simp -implicitDefEqProofs only[go_sem,AJ,AI,BO,A6,hj',hBl',hlen,hwj,hq1,hq2,hq3,hq4,hsub4,hx3,Oz,hbT,wa,wb,wc,wd,v1,v2,v3,hpa,hsub,g1,g3]))|simp (disch:=omega) only[An]|((with_reducible refine BV ?_);refine⟨(_,_,_),rfl,?_,?_⟩)|((with_reducible refine Ao ?_);refine⟨(_,_),rfl,?_,?_⟩)|((with_reducible refine A5 ?_);refine⟨_,rfl,?_,?_⟩)
      all_goals first|omega|(simp;done)|(simp;omega)|skip
      all_goals skip
     ·have h2:c.code.bits.toNat=1:=by have:=Ny hk.code;omega
      rw[h2,hw1] at c6
      (try (simp -implicitDefEqProofs only[go_sem,AJ,AI,BO,A6,hj',hBl',hlen,hwj,hq1,hq2,hq3,hq4,hsub4,hx3,Oz,hb,v1,v2,v3,hpa,hsub,g1,g3]));repeat' first|(with_reducible first|exact tI|refine aI ?_ ?_|intro _)|((first|with_reducible refine AO ?_ ?_<;>intro _|(with_reducible refine isCall ?_);first|refine AE c6 ?_|refine AE c7 ?_|refine AE cZ ?_)<;>try (simp -implicitDefEqProofs only[go_sem,AJ,AI,BO,A6,hj',hBl',hlen,hwj,hq1,hq2,hq3,hq4,hsub4,hx3,Oz,hb,v1,v2,v3,hpa,hsub,g1,g3]))|simp (disch:=omega) only[An]|((with_reducible refine BV ?_);refine⟨(_,_,_),rfl,?_,?_⟩)|((with_reducible refine Ao ?_);refine⟨(_,_),rfl,?_,?_⟩)|((with_reducible refine A5 ?_);refine⟨_,rfl,?_,?_⟩)
      all_goals first|omega|(simp;done)|(simp;omega)|skip
      all_goals skip
    ·have hj':¬(j:Int)<((c.syms:Nat):Int):=by omega
     have hSR:Hi (S++rest)=true:=by unfold Hi;rw[El hsb hab,decide_eq_true (by rw[List.length_append];omega)];simp only[Bool.and_self]
     have c8:=Er c false (S++rest)
     rw[TA r.ok hSR hown.1,hown.2.1,hown.2.2,if_pos rfl] at c8
     have c9:=Du d.isEmpty n1 d d
     rw[decide_eq_true rfl] at c9
     (try (simp -implicitDefEqProofs only[go_sem,AJ,AI,hj',hBl',hne]));repeat' first|(with_reducible first|exact tI|refine aI ?_ ?_|intro _)|((first|with_reducible refine AO ?_ ?_<;>intro _|(with_reducible refine isCall ?_);first|refine AE c0 ?_|refine Xo 208 2 (c8) rfl (by simp[D6]) (by simp[B1,Di,AK.reach,AV.sites,AV.sites.sitesL,AK.osites,BW]) rfl ?_|refine AE c9 ?_)<;>try (simp -implicitDefEqProofs only[go_sem,AJ,AI,hj',hBl',hne]))|simp (disch:=omega) only[An]|((with_reducible refine BV ?_);refine⟨(_,_,_),rfl,?_,?_⟩)|((with_reducible refine Ao ?_);refine⟨(_,_),rfl,?_,?_⟩)|((with_reducible refine A5 ?_);refine⟨_,rfl,?_,?_⟩)
     all_goals first|rfl|omega|(exfalso;rename_i h;exact h rfl)|skip
end Go.Pw
end
