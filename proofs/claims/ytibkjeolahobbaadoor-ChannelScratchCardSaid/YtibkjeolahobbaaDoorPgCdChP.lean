/- A part of the proof. -/
import Derived.Test.YtibkjeolahobbaaDoorPgCdChCnt
import Derived.Test.YtibkjeolahobbaaDoorPgCdChrN
set_option linter.all false
section
open Go Go.Pw
namespace Go.Pw
theorem aX {L P:Nat}(hL:L<=15) {w r c:List F}{mk:List Nat}(hw:w.length=L) (h2:r.length=L) (hc:c.length=L) (hm:Xv L mk) (h1:fA L P r) (hcode:fA L P c) (h:mk.length+(MR L r w mk).length+(MR L c w mk).length<=P):r=c:=by
 have hs:=NQ L c w mk
 have hs2:=NQ L r w mk
 obtain⟨at_,hat⟩:∃at_,mk++((MR L r w mk)++(MR L c w mk).filter fun j=>!(MR L r w mk).contains j)=at_:=⟨_,rfl⟩
 refine SS hL (at_:=at_) h2 hc ?_ ?_ h1 hcode fun j hj=>?_
 ·rw[←hat]
  refine⟨List.nodup_append.2 ⟨EL hm.asc,List.nodup_append.2 ⟨EL hs2.asc,(EL hs.asc).filter _,fun a ha b hb e=>?_⟩,fun a ha b hb e=>?_⟩,fun j hj=>?_⟩
  ·simp at hb;exact hb.2 (e ▸ ha)
  ·subst e
   rcases List.mem_append.1 hb with hb|hb
   ·exact hs2.un a hb ha
   ·exact hs.un a (List.mem_filter.1 hb).1 ha
  ·rcases List.mem_append.1 hj with hj|hj
   ·exact hm.lt j hj
   ·rcases List.mem_append.1 hj with hj|hj
    ·exact hs2.lt j hj
    ·exact hs.lt j (List.mem_filter.1 hj).1
 ·rw[←hat]
  have:=List.length_filter_le (fun j=>!(MR L r w mk).contains j) (MR L c w mk)
  simp only[List.length_append]
  omega
 ·rw[←hat] at hj
  simp only[List.mem_append,not_or,List.mem_filter] at hj
  obtain⟨j1,j2,j3⟩:=hj
  have j4:j∉MR L c w mk:=fun hh=>j3 ⟨hh,by simpa using j2⟩
  exact(NR h2 hw (fun e=>(List.mem_append.1 e).elim j1 j2)).trans (NR hc hw (fun e=>(List.mem_append.1 e).elim j1 j4)).symm
theorem XQ {L P:Nat}(hL:L<=15) {w R r:List F}{mk:List Nat}(hw:w.length=L) (hR:R.length=L) (hm:Xv L mk) (hcod:fA L P w) (hd:MX L P R mk=some r) (h:(MR L w R mk).length+mk.length+P/2<=P):r=w:=by
 obtain⟨h1,h2,h3⟩:=NS hR hm hd
 exact aX hL hR h2 hw hm h1 hcod (by omega)
theorem U4 {l p q:Nat}(hl:l<=15) (hpl:p<l) (hq:0<q) {d R:List F}{ms:List Nat}(hd:d.length=(l-p)*q) (hR:R.length=l*q) (hm:Xv (l*q) ms)
  (h:∀k,k<q->(MR l (Ga p (CS (l-p) q k d)) (CS l q k R) (O9 q k ms)).length+(O9 q k ms).length+p/2<=p):XF l p q R ms=some d\/XF l p q R ms=none:=by
 by_cases ha:∀k,k<q->(YS l p q R ms k).isSome=true
 ·left
  have hO:∀k,k<q->YS l p q R ms k=some (Ga p (CS (l-p) q k d)):=fun k hk=>by
   have hl1:=CZ (l-p) q k d
   have hc:=Vb p (CS (l-p) q k d)
   rw[hl1,show l-p+p=l by omega] at hc
   cases hg:YS l p q R ms k with
   |none=>have:=ha k hk;rw[hg] at this;cases this
   |some r =>
    congr 1
    exact XQ hl (by rw[HK,hl1];omega) (CZ ..) (TH hq hm) hc hg (h k hk)
  rw[XE ha]
  congr 1
  rw[Qw hq (V:=fun k=>CS (l-p) q k d) fun k hk=>by
   rw[NJ (hO k hk)]
   unfold Ga
   rw[List.take_append_of_le_length (by rw[CZ];omega),List.take_of_length_le (by rw[CZ];omega)]]
  exact Vt hq hd
 ·right
  unfold XF;rw[if_neg ha]
theorem Ya (f g:Nat->Nat) (q:Nat):∀n k,FF f q n k+FF g q n k=FF (fun i=>f i+g i) q n k
 |0,_=>rfl
 |n+1,k=>by
  have ih:=Ya f g q n k
  show FF f q n k+(if n%q=k then f n else 0)+(FF g q n k+(if n%q=k then g n else 0))=FF (fun i=>f i+g i) q n k+(if n%q=k then f n+g n else 0)
  rw[←ih];split<;>omega
theorem ZN {c:AX}(hk:Fg c) {l p q:Nat}{e:List F}(h1:c.L=(l:Int)) (h2:c.P=(p:Int)) (h3:c.Q=(q:Int)) (b2:l<=15) (b5:p<l) (b6:1<=q) (he:e.length=(l-p)*q) (hs:c.syms=l*q)
  {sy:List (Option Nat)}(hl:sy.length=c.syms) {f:Nat->Nat}
  (hf:∀i,i<l*q->sy[i]?.getD none≠some ((CQ c.seed (iv (Rs l p q e)))[i]?.getD 0).toNat->1<=f i)
  (hc:∀k,k<q->FF f q (l*q) k+p/2<=p):(RE c sy=0/\VH c sy=iv e)\/RE c sy=52:=by
 obtain⟨g1,g2⟩:=dV hk h1 h2 h3 hs hl
 have hBl:(Rs l p q e).length=l*q:=Sr ..
 have hrl:(fs (CQ c.seed (Mo sy))).length=l*q:=by rw[TN,Ce,FM,hl,hs]
 obtain⟨mB,hmB⟩:∃mB:Nat->Bool,mB=fun i=>(sy[i]?.getD none).isNone:=⟨_,rfl⟩
 obtain⟨wB,hwB⟩:∃wB:Nat->Bool,wB=fun i=>decide (sy[i]?.getD none≠some ((CQ c.seed (iv (Rs l p q e)))[i]?.getD 0).toNat) && !mB i:=⟨_,rfl⟩
 have hmk:Zf sy=(List.range (l*q)).filter mB:=by rw[hmB];unfold Zf;rw[hl,hs]
 have key:=U4 (l:=l) (p:=p) (q:=q) (R:=fs (CQ c.seed (Mo sy))) (ms:=(List.range (l*q)).filter mB) b2 b5 (by omega) he hrl (QP mB _) fun k hkq=>by
  have d1:=YY (a:=[]) (wB:=wB) (mB:=mB) (R:=fs (CQ c.seed (Mo sy))) (W:=fun k=>Ga p (CS (l-p) q k e)) (l:=l) hkq fun j hj hne hmj=>by
   have hlt:=PE hkq hj
   have h4:(Rs l p q e)[j*q+k]?.getD 0=(Ga p (CS (l-p) q k e))[j]?.getD 0:=by
    unfold Rs
    rw[Nx _ hlt,Td hkq,Qd hkq]
   rw[hwB]
   simp only[hmj,Bool.not_false,Bool.and_true,decide_eq_true_eq]
   intro hs2
   have hx:0<=(CQ c.seed (iv (Rs l p q e)))[j*q+k]?.getD 0:=(HB _ _ _ (DS (by rw[Ce,JR,hBl];exact hlt))).1
   exact hne (h4.symm.trans (bn (by omega) (by omega) hs2 (by omega)).symm)
  have d2:=TI mB (q:=q) k (l*q)
  have d3:FF f q (l*q) k>=M4 (fun i=>if wB i then 1 else 0) q l k+FF (fun i=>if mB i then 1 else 0) q (l*q) k:=by
   rw[←Ns _ hkq,Ya]
   refine Qp (fun i hi=>?_) k
   by_cases hw:sy[i]?.getD none=some ((CQ c.seed (iv (Rs l p q e)))[i]?.getD 0).toNat
   ·have:mB i=false:=by rw[hmB];simp only[hw];rfl
    have h5:wB i=false:=by rw[hwB];simp[hw]
    rw[this,h5];simp
   ·have:=hf i hi hw
    cases hm:mB i with
    |true =>
     have h5:wB i=false:=by rw[hwB];simp[hm]
     rw[h5];simpa using this
    |false=>simp only[Bool.false_eq_true,if_false,Nat.add_zero];split<;>omega
  have:=hc k hkq
  omega
 rw[g1,g2,hmk]
 rcases key with h|h
 ·left;rw[h];exact⟨rfl,rfl⟩
 ·right;rw[h];rfl
end Go.Pw
end
section
open Go Go.Pw
namespace Go.Pw
theorem eW {c:AX}(hk:Fg c) {b:List Int}(hb:b.length=c.syms) {R:List Int}{i:Nat}(hi:i<c.syms) (h:(c.syL R 0)[i]?.getD none≠some ((CQ c.seed b)[i]?.getD 0).toNat):Qr c (DL c b) R i=1:=by
 unfold Qr
 rw[if_neg]
 intro he
 have h1:=bj hk hb [] hi
 rw[List.append_nil,WQ hi,he,←WQ hi] at h1
 exact h h1
theorem YZ (f:Nat->Nat) (q:Nat):∀n k,FF (fun i=>2*f i) q n k=2*FF f q n k
 |0,_=>rfl
 |n+1,k=>by
  have ih:=YZ f q n k
  show FF (fun i=>2*f i) q n k+(if n%q=k then 2*f n else 0)=2*(FF f q n k+(if n%q=k then f n else 0))
  rw[ih];split<;>omega
theorem ZH {c:AX}(hk:Fg c) {d:List Int}(he:spE c.L c.P c.Q d=0) {R:List Int}
  {n:Nat}(hn:∀k,k<c.Q.toNat->FF (Qr c (DL c (Rt c.L c.P c.Q d)) R) c.Q.toNat c.syms k<=n) :
  (2*n<=c.P.toNat->RE c (c.syL R 0)=0/\VH c (c.syL R 0)=d)/\(n+c.P.toNat/2<=c.P.toNat->(RE c (c.syL R 0)=0/\VH c (c.syL R 0)=d)\/RE c (c.syL R 0)=52):=by
 have hbl:=Hq hk.wev he
 obtain⟨l,p,q,e,h1,h2,h3,b1,b2,b3,b4,b5,b6,b7,rfl,hel,hsp,hs⟩:=Sq hk he
 have hq:c.Q.toNat=q:=by rw[h3];rfl
 have hp:c.P.toNat=p:=by rw[h2];rfl
 rw[hq] at hn
 rw[hp]
 refine⟨fun h=>?_,fun h=>?_⟩
 ·refine Ut hk h1 h2 h3 b2 b5 b6 hel hs (LS ..) (f:=fun i=>2*Qr c (DL c (Rt c.L c.P c.Q (iv e))) R i) (fun i hi hne=>?_) fun k hkq=>?_
  ·rw[hsp] at hbl ⊢
   rw[eW hk hbl (by omega) hne];split<;>omega
  ·rw[YZ,←hs]
   have:=hn k hkq;omega
 ·refine ZN hk h1 h2 h3 b2 b5 b6 hel hs (LS ..) (f:=Qr c (DL c (Rt c.L c.P c.Q (iv e))) R) (fun i hi hne=>?_) fun k hkq=>?_
  ·rw[hsp] at hbl ⊢
   rw[eW hk hbl (by omega) hne];omega
  ·rw[←hs]
   have:=hn k hkq;omega
end Go.Pw
end
section
open Go Go.Pw
namespace Go.Pw
theorem Um (f:Nat->Nat) (h1:∀i,f i<=1) (q k:Nat):∀m,M4 f q m k<=((List.range m).filter fun j=>decide (f (j*q+k)≠0)).length
 |0=>Nat.le_refl 0
 |m+1=>by
  have ih:=Um f h1 q k m
  have:=h1 (m*q+k)
  rw[List.range_succ,List.filter_append,List.length_append]
  show M4 f q m k+f (m*q+k)<=_
  by_cases h:f (m*q+k)=0
  ·rw[h];omega
  ·have:([m].filter fun j=>decide (f (j*q+k)≠0)).length=1:=by simp[h]
   omega
theorem ik {q k a t l:Nat}(hk:k<q) {f:Nat->Nat}(h1:∀i,f i<=1) (h2:∀i,i<l*q->f i≠0->a<=i/\i<a+q*t):FF f q (l*q) k<=t:=by
 rw[Ns f hk]
 refine Nat.le_trans (Um f h1 q k l) ?_
 refine af (a:=a) hk (Nat.le_refl _) (List.Pairwise.filter _ List.nodup_range) fun j hj=>?_
 rw[List.mem_filter,List.mem_range,decide_eq_true_eq] at hj
 exact h2 _ (PE hk hj.1) hj.2
theorem Zg {c:AX}(hk:Fg c) {b:List Int}{S R:List Int}(hSe:S=DL c b) (hR:R.length=c.tot) (hm:∀k,k<c.mark.length->R[k]?.getD 0=S[k]?.getD 0):c.find R=some 0:=by
 have ht:c.tot=c.mark.length+c.syms*c.code.sz:=rfl
 refine Iz.2 ⟨by omega,?_,fun j hj=>by omega⟩
 have h1:R=c.mark++R.drop c.mark.length:=by
  have h2:R.take c.mark.length=c.mark:=by
   apply List.ext_getElem
   ·rw[List.length_take];omega
   ·intro k h3 h4
    have h5:=hm k h4
    rw[List.getElem_take]
    have h6:S[k]?.getD 0=c.mark[k]:=by
     rw[hSe];unfold DL;rw[List.getElem?_append_left h4,List.getElem?_eq_getElem h4];rfl
    rw[h6,List.getElem?_eq_getElem (by rw[List.length_take] at h3;omega)] at h5
    exact h5
  have h3:=(List.take_append_drop c.mark.length R).symm
  rw[h2] at h3;exact h3
 rw[List.drop_zero,h1,NP]
 exact hk.errs.1
theorem R9 {c:AX}{S R:List Int}(hS:S.length=c.tot) (hR:R.length=c.tot) {i:Nat}(hi:i<c.syms) (h:∀t,t<c.code.sz->R[c.mark.length+i*c.code.sz+t]?.getD 0=S[c.mark.length+i*c.code.sz+t]?.getD 0):c.part S 0 i=c.part R 0 i:=by
 have h1:(i+1)*c.code.sz<=c.syms*c.code.sz:=Nat.mul_le_mul_right _ hi
 rw[Nat.succ_mul] at h1
 have ht:c.tot=c.mark.length+c.syms*c.code.sz:=rfl
 unfold AX.part
 rw[Nat.zero_add]
 apply List.ext_getElem
 ·rw[List.length_take,List.length_take,List.length_drop,List.length_drop];omega
 ·intro t h2 h3
  rw[List.getElem_take,List.getElem_take,List.getElem_drop,List.getElem_drop]
  rw[List.length_take,List.length_drop] at h2
  have h4:=h t (by omega)
  rw[List.getElem?_eq_getElem (by omega),List.getElem?_eq_getElem (by omega)] at h4
  exact h4.symm
def aq (S:List Int) (b:Nat) (A:List Int):Nat->List Int
 |0=>S
 |n+1=>(aq S b A n).set (b+n) (A3 .xor .i64 ((aq S b A n)[b+n]?.getD 0) (A[n]?.getD 0))
theorem Pk (S:List Int) (b:Nat) (A:List Int):∀n,(aq S b A n).length=S.length
 |0=>rfl
 |n+1=>by unfold aq;rw[List.length_set,Pk S b A n]
theorem X8 (S:List Int) (b:Nat) (A:List Int) {j:Nat}:∀n,(j<b\/b+n<=j)->(aq S b A n)[j]?.getD 0=S[j]?.getD 0
 |0,_=>rfl
 |n+1,h=>by
  unfold aq
  rw[List.getElem?_set_ne (by omega)]
  exact X8 S b A n (by omega)
theorem Uk {S:List Int}(hS:Ab S=true) (b:Nat) {A:List Int}(hA:Ab A=true):∀n,n<=A.length->b+n<=S.length->Ab (aq S b A n)=true
 |0,_,_=>hS
 |n+1,h1,h2=>by
  have ih:=Uk hS b hA n (by omega) (by omega)
  unfold aq
  refine PI ih _ ?_
  have hl:=Pk S b A n
  rw[Pg (Df ih (by omega)) (Df hA (by omega))]
  simp only[Cq,decide_eq_true_eq];split<;>omega
theorem S6 {c:AX}(hk:Fg c) {d:List Int}(he:spE c.L c.P c.Q d=0) {S R:List Int}(hSe:S=DL c (Rt c.L c.P c.Q d)) {fr:Nat}{A:List Int}
  (hA:(A.length:Int)<=Tl c) (hfr:c.mark.length+fr+A.length<=c.tot) (hR:R=aq S (c.mark.length+fr) A A.length):c.find R=some 0/\RE c (c.syL R 0)=0/\VH c (c.syL R 0)=d:=by
 have hbl:=Hq hk.wev he
 have ht:c.tot=c.mark.length+c.syms*c.code.sz:=rfl
 have hSl:S.length=c.tot:=by rw[hSe,JO,hbl];rfl
 have hRl:R.length=c.tot:=by rw[hR,Pk,hSl]
 have hout:∀j,(j<c.mark.length+fr\/c.mark.length+fr+A.length<=j)->R[j]?.getD 0=S[j]?.getD 0:=fun j hj=>by rw[hR];exact X8 _ _ _ _ hj
 refine⟨Zg hk hSe hRl fun k hkm=>hout k (.inl (by omega)),?_⟩
 obtain⟨l,p,q,e,h1,h2,h3,b1,b2,b3,b4,b5,b6,b7,hde,hel,hsp,hsy⟩:=Sq hk he
 have hq:c.Q.toNat=q:=by rw[h3];rfl
 have hpp:c.P.toNat=p:=by rw[h2];rfl
 have hz:=E3 hk.code
 have hcnt:∀k,k<c.Q.toNat->FF (Qr c S R) c.Q.toNat c.syms k<=p/2:=fun k hkq=>by
  rw[hq] at hkq ⊢
  rw[hsy]
  refine ik (a:=fr/c.code.sz) hkq (iu c S R) fun i hi hne=>?_
  have hi':i<c.syms:=by omega
  have hex:¬(i*c.code.sz+c.code.sz<=fr\/fr+A.length<=i*c.code.sz):=fun h=>by
   apply hne
   unfold Qr
   rw[if_pos]
   exact R9 hSl hRl hi' fun t htz=>hout _ (by omega)
  have hA0:A.length≠0:=fun h0=>hex (by
   rcases Nat.lt_or_ge fr (i*c.code.sz+c.code.sz) with h|h
   ·rcases Nat.lt_or_ge fr (i*c.code.sz) with h'|h'
    ·right;omega
    ·exfalso
     apply hne
     unfold Qr
     rw[if_pos]
     exact R9 hSl hRl hi' fun t htz=>hout _ (by omega)
   ·left;exact h)
  have hdm:=Nat.div_add_mod fr c.code.sz
  have hml:=Nat.mod_lt fr (show 0<c.code.sz by omega)
  rw[Nat.mul_comm] at hdm
  have hlo:fr/c.code.sz<=i:=by
   rcases Nat.lt_or_ge i (fr/c.code.sz) with h|h
   ·exfalso
    have:=Nat.mul_le_mul_right c.code.sz (show i+1<=fr/c.code.sz from h)
    rw[Nat.succ_mul] at this
    exact hex (.inl (by omega))
   ·exact h
  refine⟨hlo,?_⟩
  have hh:c.Q*(c.P/2)=((q*(p/2):Nat):Int):=by rw[h3,h2];push_cast;rfl
  unfold Tl at hA
  rw[hh] at hA
  by_cases h0:q*(p/2)=0
  ·rw[h0,if_pos (by rfl)] at hA;omega
  ·rw[if_neg (by omega)] at hA
   have hlt:q*(p/2)<q*l:=Nat.mul_lt_mul_of_pos_left (by omega) (by omega)
   have hQL:c.Q*c.L=((q*l:Nat):Int):=by rw[h3,h1];push_cast;rfl
   rw[hQL,if_neg (by omega)] at hA
   obtain⟨h,hhh⟩:∃h,q*(p/2)=h+1:=⟨q*(p/2)-1,by omega⟩
   rw[hhh] at hA ⊢
   have hA2:A.length<=h*c.code.sz+1:=by
    have:((h+1:Nat):Int)-1=(h:Int):=by omega
    rw[this,←Int.natCast_mul] at hA
    omega
   rcases Nat.lt_or_ge i (fr/c.code.sz+(h+1)) with hh2|hh2
   ·exact hh2
   ·exfalso
    have:=Nat.mul_le_mul_right c.code.sz hh2
    rw[Nat.add_mul,Nat.succ_mul] at this
    exact hex (.inr (by omega))
 have key:=@ZH c hk d he R (p/2) (by rw[←hSe];exact hcnt)
 exact key.1 (by rw[hpp];omega)
theorem iy {c:AX}(hk:Fg c):0<=Tl c/\Tl c<=((c.syms*c.code.sz:Nat):Int):=by
 have hs:=hk.syms
 have hz:=E3 hk.code
 have hp:=jS hk.wev
 unfold Tl
 obtain⟨h,hh⟩:∃h:Nat,c.Q*(c.P/2)=(h:Int):=⟨(c.Q*(c.P/2)).toNat,by omega⟩
 rw[hh,hs.2.2]
 by_cases h0:(h:Int)=0
 ·rw[if_pos h0];omega
 ·rw[if_neg h0]
  by_cases h1:((c.syms:Nat):Int)<=(h:Int)
  ·rw[if_pos h1];omega
  ·rw[if_neg h1]
   obtain⟨g,rfl⟩:∃g,h=g+1:=⟨h-1,by omega⟩
   have h2:(g+1)*c.code.sz<=c.syms*c.code.sz:=Nat.mul_le_mul_right _ (by omega)
   rw[Nat.succ_mul] at h2
   rw[show ((g+1:Nat):Int)-1=(g:Int) by omega,←Int.natCast_mul]
   omega
end Go.Pw
end
section
open Go Go.Pw Go.Proofs
namespace Go.Pw
set_option maxRecDepth 100000
set_option maxHeartbeats 3200000
theorem iE {c:AX}(hk:Fg c) {sy:List (Option Nat)}(hl:sy.length=c.syms):RE c sy=0\/RE c sy=52:=by
 obtain⟨l,p,q,h1,h2,h3,b1,b2,b3,b4,b5,b6,b7,hc⟩:=LR hk.wev
 have hs:c.syms=l*q:=by
  have:=hk.syms.2.2
  rw[h1,h3] at this
  have e:(q:Int)*(l:Int)=((l*q:Nat):Int):=by push_cast;exact Int.mul_comm ..
  rw[e] at this;omega
 rw[(dV hk h1 h2 h3 hs hl).1]
 cases XF l p q (fs (CQ c.seed (Mo sy))) (Zf sy) with
 |none=>exact .inr rfl
 |some r=>exact .inl rfl
theorem TA {c:AX}(hok:c.ok=true) {R:List Int}(hb:Hi R=true) {a:Nat}(hf:c.find R=some a):ZO c R=.tup [.list (VH c (c.syL R a)).isEmpty (Al (VH c (c.syL R a))),.int .i64 (if RE c (c.syL R a)=0 then (a:Int) else 0),.int .i64 (RE c (c.syL R a))]:=by
 unfold ZO Uv YD YC
 simp only[hok,hb,if_true,hf]
theorem Mv {c:AX}(hk:Fg c) (b:List Int):Ab (DL c b)=true:=by
 unfold DL
 refine El hk.markl.2.2 ?_
 unfold AX.flat
 generalize CQ c.seed b=X
 induction X with
 |nil=>rfl
 |cons x X ih=>exact El (UK ..) ih
attribute [local congr] Bj A9 A_ Aq Bk Ax Az Ay Ap Aj Ad AY Au Ae Av BH BL BJ BK BI BM BE Ah Aw Ai BC BS Ag BF BG BD BA BB A8 Bl A' Ar Af
attribute [local irreducible] IntKind.wrap A3 Option.getD and or
end Go.Pw
end
section
open Go Go.Pw Go.Proofs
namespace Go.Pw
set_option maxRecDepth 100000
set_option maxHeartbeats 3200000
attribute [local congr] Bj A9 A_ Aq Bk Ax Az Ay Ap Aj Ad AY Au Ae Av BH BL BJ BK BI BM BE Ah Aw Ai BC BS Ag BF BG BD BA BB A8 Bl A' Ar Af
attribute [local irreducible] IntKind.wrap A3 Option.getD and or
theorem Mm (c:AX) (n1 n3:Bool) (d:List Int) (fr:Int) (A:List Int):CK E0 Fw [FG c,.agg [.list n1 (Al d),.int .i64 fr,.list n3 (Al A)]] (.bool true):=by
 have c0:=Gm
 have c1:=FL c n1 d
 have cA:=Hu n3 A
 refine AM II A0 (by simp) fun hwf=>?_
 rw[AW];unfold FU
 cases hr:Uu c d with
 |false =>
  rw[hr] at c1
  (try (simp -implicitDefEqProofs only[go_sem,AI,AH]));repeat' first|(with_reducible first|exact tI|refine aI ?_ ?_|intro _)|((first|with_reducible refine AO ?_ ?_<;>intro _|(with_reducible refine isCall ?_);first|refine AE c0 ?_|refine AE c1 ?_)<;>try (simp -implicitDefEqProofs only[go_sem,AI,AH]))|simp (disch:=omega) only[An]|((with_reducible refine Ao ?_);refine⟨(_,_),rfl,?_,?_⟩)
  all_goals first|rfl|skip
 |true =>
 rw[hr] at c1
 have r:=S' hr
 have hk:=D7 r.ok
 have hm:=hk.markl
 have ht:=r.tot
 have hs:=hk.syms
 have hz:=E3 hk.code
 by_cases hf0:fr<0
 ·(try (simp -implicitDefEqProofs only[go_sem,AI,AH,hf0]));repeat' first|(with_reducible first|exact tI|refine aI ?_ ?_|intro _)|((first|with_reducible refine AO ?_ ?_<;>intro _|(with_reducible refine isCall ?_);first|refine AE c0 ?_|refine AE c1 ?_)<;>try (simp -implicitDefEqProofs only[go_sem,AI,AH,hf0]))|simp (disch:=omega) only[An]|((with_reducible refine Ao ?_);refine⟨(_,_),rfl,?_,?_⟩)
  all_goals first|rfl|skip
 by_cases hf1:1000<fr
 ·(try (simp -implicitDefEqProofs only[go_sem,AI,AH,hf0,hf1]));repeat' first|(with_reducible first|exact tI|refine aI ?_ ?_|intro _)|((first|with_reducible refine AO ?_ ?_<;>intro _|(with_reducible refine isCall ?_);first|refine AE c0 ?_|refine AE c1 ?_)<;>try (simp -implicitDefEqProofs only[go_sem,AI,AH,hf0,hf1]))|simp (disch:=omega) only[An]|((with_reducible refine Ao ?_);refine⟨(_,_),rfl,?_,?_⟩)
  all_goals first|rfl|skip
 by_cases hal:200<(A.length:Int)
 ·(try (simp -implicitDefEqProofs only[go_sem,AI,AH,hf0,hf1,hal]));repeat' first|(with_reducible first|exact tI|refine aI ?_ ?_|intro _)|((first|with_reducible refine AO ?_ ?_<;>intro _|(with_reducible refine isCall ?_);first|refine AE c0 ?_|refine AE c1 ?_)<;>try (simp -implicitDefEqProofs only[go_sem,AI,AH,hf0,hf1,hal]))|simp (disch:=omega) only[An]|((with_reducible refine Ao ?_);refine⟨(_,_),rfl,?_,?_⟩)
  all_goals first|rfl|skip
 cases hab:Ab A with
 |false =>
  unfold Hi at cA
  rw[hab,Bool.and_false] at cA
  (try (simp -implicitDefEqProofs only[go_sem,AI,AH,hf0,hf1,hal]));repeat' first|(with_reducible first|exact tI|refine aI ?_ ?_|intro _)|((first|with_reducible refine AO ?_ ?_<;>intro _|(with_reducible refine isCall ?_);first|refine AE c0 ?_|refine AE c1 ?_|refine AE cA ?_)<;>try (simp -implicitDefEqProofs only[go_sem,AI,AH,hf0,hf1,hal]))|simp (disch:=omega) only[An]|((with_reducible refine Ao ?_);refine⟨(_,_),rfl,?_,?_⟩)
  all_goals first|rfl|skip
 |true =>
 unfold Hi at cA
 rw[hab,Bool.and_true,decide_eq_true (by omega)] at cA
 obtain⟨w1,w2,w3⟩:=r.wr
 have c2:=Dd c n1 d
 rw[w2] at c2
 have hsb:Ab (T4 c d)=true:=by rw[w1];exact Mv hk _
 obtain⟨S,hS⟩:∃S,T4 c d=S:=⟨_,rfl⟩
 rw[hS] at c2 w3 hsb w1
 have htt:c.tot=c.mark.length+c.syms*c.code.sz:=rfl
 have hne:¬S=[]:=fun e=>by rw[e] at w3;simp at w3;omega
 have hSe:S.isEmpty=false:=DR hne
 rw[hSe] at c2
 have c3:=Gk c hk.wev hk.code (by omega)
 have cB:=Nv c
 rw[(GG r.ok).2,show Yb c=Tl c by unfold Yb;rw[if_pos r.ok]] at cB
 have hbd:=iy hk
 have key:=fun f h1 h2=>@S6 c hk d r.spE S _ w1 f A h1 h2 rfl
 obtain⟨n,hn⟩:∃n,Tl c=n:=⟨_,rfl⟩
 rw[hn] at cB hbd key
 have hlen:(S.length:Int)=(c.tot:Int):=by omega
 obtain⟨g,rfl⟩:∃g:Nat,fr=(g:Int):=⟨fr.toNat,by omega⟩
 have hn0:¬n<0:=by omega
 have w4:IntKind.i64.wrap (((c.tot:Nat):Int)-(c.mark.length:Int))=((c.syms*c.code.sz:Nat):Int):=by rw[Ak _ (by omega)];omega
 have hn1:¬((c.syms*c.code.sz:Nat):Int)<n:=by omega
 by_cases ha:n<(A.length:Int)
 ·(try (simp -implicitDefEqProofs only[go_sem,AI,AH,hf0,hf1,hal,hlen,hn0,w4,hn1,ha]));repeat' first|(with_reducible first|exact tI|refine aI ?_ ?_|intro _)|((first|with_reducible refine AO ?_ ?_<;>intro _|(with_reducible refine isCall ?_);first|refine AE c0 ?_|refine AE c1 ?_|refine AE c2 ?_|refine AE c3 ?_|refine AE cA ?_|refine AE cB ?_)<;>try (simp -implicitDefEqProofs only[go_sem,AI,AH,hf0,hf1,hal,hlen,hn0,w4,hn1,ha]))|simp (disch:=omega) only[An]|((with_reducible refine Ao ?_);refine⟨(_,_),rfl,?_,?_⟩)
  all_goals first|rfl|skip
 have w5:IntKind.i64.wrap ((c.mark.length:Int)+(g:Int))=((c.mark.length+g:Nat):Int):=by rw[Ak _ (by omega)];omega
 have w6:IntKind.i64.wrap (((c.mark.length+g:Nat):Int)+(A.length:Int))=((c.mark.length+g+A.length:Nat):Int):=by rw[Ak _ (by omega)];omega
 by_cases hb:((c.tot:Nat):Int)<((c.mark.length+g+A.length:Nat):Int)
 ·(try (simp -implicitDefEqProofs only[go_sem,AI,AH,hf0,hf1,hal,hlen,hn0,w4,hn1,ha,w5,w6,hb]));repeat' first|(with_reducible first|exact tI|refine aI ?_ ?_|intro _)|((first|with_reducible refine AO ?_ ?_<;>intro _|(with_reducible refine isCall ?_);first|refine AE c0 ?_|refine AE c1 ?_|refine AE c2 ?_|refine AE c3 ?_|refine AE cA ?_|refine AE cB ?_)<;>try (simp -implicitDefEqProofs only[go_sem,AI,AH,hf0,hf1,hal,hlen,hn0,w4,hn1,ha,w5,w6,hb]))|simp (disch:=omega) only[An]|((with_reducible refine Ao ?_);refine⟨(_,_),rfl,?_,?_⟩)
  all_goals first|rfl|skip
 obtain⟨e1,e2,e3⟩:=key g (by omega) (by omega)
 have hsl:=Pk S (c.mark.length+g) A
 have hsbt:=fun n h=>Uk hsb (c.mark.length+g) hab n h (by omega)
 clear hS
 (try (simp -implicitDefEqProofs only[go_sem,AI,AH,hf0,hf1,hal,hlen,hn0,w4,hn1,ha,w5,w6,hb,hne]));repeat' first|(with_reducible first|exact tI|refine aI ?_ ?_|intro _)|((first|with_reducible refine AO ?_ ?_<;>intro _|(with_reducible refine isCall ?_);first|refine AE c0 ?_|refine AE c1 ?_|refine AE c2 ?_|refine AE c3 ?_|refine AE cA ?_|refine AE cB ?_)<;>try (simp -implicitDefEqProofs only[go_sem,AI,AH,hf0,hf1,hal,hlen,hn0,w4,hn1,ha,w5,w6,hb,hne]))|simp (disch:=omega) only[An]|((with_reducible refine Ao ?_);refine⟨(_,_),rfl,?_,?_⟩)
 all_goals first|omega|(simp;done)|(simp;omega)|skip
 refine AZ (α:=Nat×(List Int)) (l0:=?l1) (m0:=?m1) (fun x=>[(10,.d (.int .i64 (x.1:Int)))]) (fun x=>[(104,.row 3 1 false (Al x.2))]) (fun x=>x.1<=A.length/\x.2=aq S (c.mark.length+g) A x.1) (fun x=>A.length-x.1) (0,S) ?h01 ?he1 ?he21 ?hI1 ?step1
 case h01=>(simp -implicitDefEqProofs only[go_sem];rfl)
 case he1=>rfl
 case he21=>rfl
 case' step1=>(rintro⟨k,R⟩ hI;try dsimp only at hI)
 case' hI1=>try dsimp only
 ·exact⟨Nat.zero_le _,rfl⟩
 ·obtain⟨k1,k2⟩:=hI
  change R=aq S (c.mark.length+g) A k at k2
  have hRl:R.length=S.length:=by rw[k2,hsl]
  have hRb:Ab R=true:=by rw[k2];exact hsbt k k1
  by_cases hka:k<A.length
  ·have hk':(k:Int)<(A.length:Int):=by omega
   have hwk:IntKind.i64.wrap ((k:Int)+1)=((k+1:Nat):Int):=by rw[Ak _ (by omega)];omega
   have hw7:IntKind.i64.wrap (((c.mark.length+g:Nat):Int)+(k:Int))=((c.mark.length+g+k:Nat):Int):=by rw[Ak _ (by omega)];omega
   have hx:c.mark.length+g+k<R.length:=by omega
   have hst:R.set (c.mark.length+g+k) (A3 .xor .i64 (R[c.mark.length+g+k]?.getD 0) (A[k]?.getD 0))=aq S (c.mark.length+g) A (k+1):=by rw[k2];rfl
   (try (simp -implicitDefEqProofs only[go_sem,AI,AH,hk',hka,hwk,w5,hw7,hx,hst]));repeat' first|(with_reducible first|exact tI|refine aI ?_ ?_|intro _)|((first|with_reducible refine AO ?_ ?_<;>intro _)<;>try (simp -implicitDefEqProofs only[go_sem,AI,AH,hk',hka,hwk,w5,hw7,hx,hst]))|simp (disch:=omega) only[An]|((with_reducible refine Ao ?_);refine⟨(_,_),rfl,?_,?_⟩)
   all_goals first|omega|(simp;done)|(simp;omega)|skip
   all_goals first|rfl|skip
  ·have hk':¬(k:Int)<(A.length:Int):=by omega
   have hke:k=A.length:=by omega
   subst hke
   rw[←k2] at e1 e2 e3
   have hRok:Hi R=true:=by unfold Hi;rw[hRb,decide_eq_true (by omega)];simp only[Bool.and_self]
   have c5:=Er c false R
   rw[TA r.ok hRok e1,e2,e3,if_pos rfl] at c5
   have c9:=Du d.isEmpty n1 d d
   rw[decide_eq_true rfl] at c9
   clear k2
   (try (simp -implicitDefEqProofs only[go_sem,AI,AH,hk']));repeat' first|(with_reducible first|exact tI|refine aI ?_ ?_|intro _)|((first|with_reducible refine AO ?_ ?_<;>intro _|(with_reducible refine isCall ?_);first|refine AE c0 ?_|refine AE c5 ?_|refine AE c9 ?_)<;>try (simp -implicitDefEqProofs only[go_sem,AI,AH,hk']))|simp (disch:=omega) only[An]|((with_reducible refine Ao ?_);refine⟨(_,_),rfl,?_,?_⟩)
   all_goals first|rfl|omega|(exfalso;rename_i h;exact h rfl)|skip
end Go.Pw
end
