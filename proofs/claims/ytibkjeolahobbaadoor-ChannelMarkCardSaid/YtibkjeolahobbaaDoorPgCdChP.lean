/- A part of the proof. -/
import Derived.Test.YtibkjeolahobbaaDoorPgCdChCnt
import Derived.Test.YtibkjeolahobbaaDoorPgCdChrN
set_option linter.all false
section
open Go Go.Pw
namespace Go.Pw
theorem aX {L P:Nat}(hL:L<=15) {w r c:List F}{mk:List Nat}(hw:w.length=L) (h2:r.length=L) (hc:c.length=L) (hm:Xv L mk) (h1:fA L P r) (hcode:fA L P c) (h:mk.length+(MR L r w mk).length+(MR L c w mk).length<=P):r=c:=by
 have hs:=NQ L c w mk
 have hs2:=NQ L r w mk
 obtain⟨at_,hat⟩:∃at_,mk++((MR L r w mk)++(MR L c w mk).filter fun j=>!(MR L r w mk).contains j)=at_:=⟨_,rfl⟩
 refine SS hL (at_:=at_) h2 hc ?_ ?_ h1 hcode fun j hj=>?_
 ·rw[←hat]
  refine⟨List.nodup_append.2 ⟨EL hm.asc,List.nodup_append.2 ⟨EL hs2.asc,(EL hs.asc).filter _,fun a ha b hb e=>?_⟩,fun a ha b hb e=>?_⟩,fun j hj=>?_⟩
  ·simp at hb;exact hb.2 (e ▸ ha)
  ·subst e
   rcases List.mem_append.1 hb with hb|hb
   ·exact hs2.un a hb ha
   ·exact hs.un a (List.mem_filter.1 hb).1 ha
  ·rcases List.mem_append.1 hj with hj|hj
   ·exact hm.lt j hj
   ·rcases List.mem_append.1 hj with hj|hj
    ·exact hs2.lt j hj
    ·exact hs.lt j (List.mem_filter.1 hj).1
 ·rw[←hat]
  have:=List.length_filter_le (fun j=>!(MR L r w mk).contains j) (MR L c w mk)
  simp only[List.length_append]
  omega
 ·rw[←hat] at hj
  simp only[List.mem_append,not_or,List.mem_filter] at hj
  obtain⟨j1,j2,j3⟩:=hj
  have j4:j∉MR L c w mk:=fun hh=>j3 ⟨hh,by simpa using j2⟩
  exact(NR h2 hw (fun e=>(List.mem_append.1 e).elim j1 j2)).trans (NR hc hw (fun e=>(List.mem_append.1 e).elim j1 j4)).symm
theorem XQ {L P:Nat}(hL:L<=15) {w R r:List F}{mk:List Nat}(hw:w.length=L) (hR:R.length=L) (hm:Xv L mk) (hcod:fA L P w) (hd:MX L P R mk=some r) (h:(MR L w R mk).length+mk.length+P/2<=P):r=w:=by
 obtain⟨h1,h2,h3⟩:=NS hR hm hd
 exact aX hL hR h2 hw hm h1 hcod (by omega)
theorem U4 {l p q:Nat}(hl:l<=15) (hpl:p<l) (hq:0<q) {d R:List F}{ms:List Nat}(hd:d.length=(l-p)*q) (hR:R.length=l*q) (hm:Xv (l*q) ms)
  (h:∀k,k<q->(MR l (GZ p (CS (l-p) q k d)) (CS l q k R) (O9 q k ms)).length+(O9 q k ms).length+p/2<=p):XF l p q R ms=some d\/XF l p q R ms=none:=by
 by_cases ha:∀k,k<q->(YS l p q R ms k).isSome=true
 ·left
  have hO:∀k,k<q->YS l p q R ms k=some (GZ p (CS (l-p) q k d)):=fun k hk=>by
   have hl1:=CZ (l-p) q k d
   have hc:=Vb p (CS (l-p) q k d)
   rw[hl1,show l-p+p=l by omega] at hc
   cases hg:YS l p q R ms k with
   |none=>have:=ha k hk;rw[hg] at this;cases this
   |some r =>
    congr 1
    exact XQ hl (by rw[HK,hl1];omega) (CZ ..) (TH hq hm) hc hg (h k hk)
  rw[XE ha]
  congr 1
  rw[Qw hq (V:=fun k=>CS (l-p) q k d) fun k hk=>by
   rw[NJ (hO k hk)]
   unfold GZ
   rw[List.take_append_of_le_length (by rw[CZ];omega),List.take_of_length_le (by rw[CZ];omega)]]
  exact Vt hq hd
 ·right
  unfold XF;rw[if_neg ha]
theorem Ya (f g:Nat->Nat) (q:Nat):∀n k,FF f q n k+FF g q n k=FF (fun i=>f i+g i) q n k
 |0,_=>rfl
 |n+1,k=>by
  have ih:=Ya f g q n k
  show FF f q n k+(if n%q=k then f n else 0)+(FF g q n k+(if n%q=k then g n else 0))=FF (fun i=>f i+g i) q n k+(if n%q=k then f n+g n else 0)
  rw[←ih];split<;>omega
theorem ZN {c:AX}(hk:Ff c) {l p q:Nat}{e:List F}(h1:c.L=(l:Int)) (h2:c.P=(p:Int)) (h3:c.Q=(q:Int)) (b2:l<=15) (b5:p<l) (b6:1<=q) (he:e.length=(l-p)*q) (hs:c.syms=l*q)
  {sy:List (Option Nat)}(hl:sy.length=c.syms) {f:Nat->Nat}
  (hf:∀i,i<l*q->sy[i]?.getD none≠some ((CQ c.seed (iv (Rs l p q e)))[i]?.getD 0).toNat->1<=f i)
  (hc:∀k,k<q->FF f q (l*q) k+p/2<=p):(RE c sy=0/\VH c sy=iv e)\/RE c sy=52:=by
 obtain⟨g1,g2⟩:=dV hk h1 h2 h3 hs hl
 have hBl:(Rs l p q e).length=l*q:=Sr ..
 have hrl:(fs (CQ c.seed (Mo sy))).length=l*q:=by rw[TN,Ce,FM,hl,hs]
 obtain⟨mB,hmB⟩:∃mB:Nat->Bool,mB=fun i=>(sy[i]?.getD none).isNone:=⟨_,rfl⟩
 obtain⟨wB,hwB⟩:∃wB:Nat->Bool,wB=fun i=>decide (sy[i]?.getD none≠some ((CQ c.seed (iv (Rs l p q e)))[i]?.getD 0).toNat) && !mB i:=⟨_,rfl⟩
 have hmk:Zf sy=(List.range (l*q)).filter mB:=by rw[hmB];unfold Zf;rw[hl,hs]
 have key:=U4 (l:=l) (p:=p) (q:=q) (R:=fs (CQ c.seed (Mo sy))) (ms:=(List.range (l*q)).filter mB) b2 b5 (by omega) he hrl (QP mB _) fun k hkq=>by
  have d1:=YY (a:=[]) (wB:=wB) (mB:=mB) (R:=fs (CQ c.seed (Mo sy))) (W:=fun k=>GZ p (CS (l-p) q k e)) (l:=l) hkq fun j hj hne hmj=>by
   have hlt:=PE hkq hj
   have h4:(Rs l p q e)[j*q+k]?.getD 0=(GZ p (CS (l-p) q k e))[j]?.getD 0:=by
    unfold Rs
    rw[Nx _ hlt,Td hkq,Qd hkq]
   rw[hwB]
   simp only[hmj,Bool.not_false,Bool.and_true,decide_eq_true_eq]
   intro hs2
   have hx:0<=(CQ c.seed (iv (Rs l p q e)))[j*q+k]?.getD 0:=(HB _ _ _ (DS (by rw[Ce,JQ,hBl];exact hlt))).1
   exact hne (h4.symm.trans (bn (by omega) (by omega) hs2 (by omega)).symm)
  have d2:=TI mB (q:=q) k (l*q)
  have d3:FF f q (l*q) k>=M4 (fun i=>if wB i then 1 else 0) q l k+FF (fun i=>if mB i then 1 else 0) q (l*q) k:=by
   rw[←Ns _ hkq,Ya]
   refine Qp (fun i hi=>?_) k
   by_cases hw:sy[i]?.getD none=some ((CQ c.seed (iv (Rs l p q e)))[i]?.getD 0).toNat
   ·have:mB i=false:=by rw[hmB];simp only[hw];rfl
    have h5:wB i=false:=by rw[hwB];simp[hw]
    rw[this,h5];simp
   ·have:=hf i hi hw
    cases hm:mB i with
    |true =>
     have h5:wB i=false:=by rw[hwB];simp[hm]
     rw[h5];simpa using this
    |false=>simp only[Bool.false_eq_true,if_false,Nat.add_zero];split<;>omega
  have:=hc k hkq
  omega
 rw[g1,g2,hmk]
 rcases key with h|h
 ·left;rw[h];exact⟨rfl,rfl⟩
 ·right;rw[h];rfl
end Go.Pw
end
section
open Go Go.Pw
namespace Go.Pw
theorem eW {c:AX}(hk:Ff c) {b:List Int}(hb:b.length=c.syms) {R:List Int}{i:Nat}(hi:i<c.syms) (h:(c.syL R 0)[i]?.getD none≠some ((CQ c.seed b)[i]?.getD 0).toNat):Qr c (DL c b) R i=1:=by
 unfold Qr
 rw[if_neg]
 intro he
 have h1:=bj hk hb [] hi
 rw[List.append_nil,WQ hi,he,←WQ hi] at h1
 exact h h1
theorem YZ (f:Nat->Nat) (q:Nat):∀n k,FF (fun i=>2*f i) q n k=2*FF f q n k
 |0,_=>rfl
 |n+1,k=>by
  have ih:=YZ f q n k
  show FF (fun i=>2*f i) q n k+(if n%q=k then 2*f n else 0)=2*(FF f q n k+(if n%q=k then f n else 0))
  rw[ih];split<;>omega
theorem ZH {c:AX}(hk:Ff c) {d:List Int}(he:spE c.L c.P c.Q d=0) {R:List Int}
  {n:Nat}(hn:∀k,k<c.Q.toNat->FF (Qr c (DL c (Rt c.L c.P c.Q d)) R) c.Q.toNat c.syms k<=n) :
  (2*n<=c.P.toNat->RE c (c.syL R 0)=0/\VH c (c.syL R 0)=d)/\(n+c.P.toNat/2<=c.P.toNat->(RE c (c.syL R 0)=0/\VH c (c.syL R 0)=d)\/RE c (c.syL R 0)=52):=by
 have hbl:=Hq hk.wev he
 obtain⟨l,p,q,e,h1,h2,h3,b1,b2,b3,b4,b5,b6,b7,rfl,hel,hsp,hs⟩:=Sq hk he
 have hq:c.Q.toNat=q:=by rw[h3];rfl
 have hp:c.P.toNat=p:=by rw[h2];rfl
 rw[hq] at hn
 rw[hp]
 refine⟨fun h=>?_,fun h=>?_⟩
 ·refine Ut hk h1 h2 h3 b2 b5 b6 hel hs (LT ..) (f:=fun i=>2*Qr c (DL c (Rt c.L c.P c.Q (iv e))) R i) (fun i hi hne=>?_) fun k hkq=>?_
  ·rw[hsp] at hbl ⊢
   rw[eW hk hbl (by omega) hne];split<;>omega
  ·rw[YZ,←hs]
   have:=hn k hkq;omega
 ·refine ZN hk h1 h2 h3 b2 b5 b6 hel hs (LT ..) (f:=Qr c (DL c (Rt c.L c.P c.Q (iv e))) R) (fun i hi hne=>?_) fun k hkq=>?_
  ·rw[hsp] at hbl ⊢
   rw[eW hk hbl (by omega) hne];omega
  ·rw[←hs]
   have:=hn k hkq;omega
end Go.Pw
end
section
open Go Go.Pw
namespace Go.Pw
theorem Vj:∀(n:Nat) (X Y:List Int),n<=X.length->Bv X Y=Bv (X.take n) Y+Bv (X.drop n) (Y.drop n)
 |0,X,Y,_=>by rw[List.take_zero,List.drop_zero,List.drop_zero];show _=0+_;omega
 |n+1,[],Y,h=>by simp at h
 |n+1,x::X,[],_=>by
  have:∀Z:List Int,Bv Z []=0:=fun Z=>by cases Z<;>rfl
  rw[List.drop_nil,this,this,this];rfl
 |n+1,x::X,y::Y,h=>by
  have ih:=Vj n X Y (by simpa using h)
  rw[List.take_succ_cons,List.drop_succ_cons,List.drop_succ_cons]
  simp only[Bv]
  rw[ih];omega
theorem MQ:∀(X Y Z:List Int),(∀k,k<X.length->Y[k]?=Z[k]?)->Bv X Y=Bv X Z
 |[],_,_,_=>rfl
 |x::X,Y,Z,h=>by
  have h0:=h 0 (by simp)
  match Y,Z,h,h0 with
  |[],[],_,_=>rfl
  |y::Y,z::Z,h,h0 =>
   have ih:=MQ X Y Z fun k hk=>by simpa using h (k+1) (by simpa using hk)
   have:y=z:=by simpa using h0
   subst this
   simp only[Bv,ih]
theorem cz (c:AQ) (rest:List Int) (part q:Nat) {y:Nat}:∀n,y<n->dA c rest part q n<=Bv (rest.take part) ((c.stm y).drop q)
 |0,h=>by omega
 |n+1,h=>by
  unfold dA
  by_cases e:y=n
  ·subst e;omega
  ·have:=cz c rest part q (y:=y) n (by omega);omega
theorem Yc (c:AX) {p:Nat}(h0:1<=p):∀n,p<=n->Yd c n<=Q5 c p
 |0,h=>by omega
 |n+1,h=>by
  unfold Yd
  by_cases e:p=n+1
  ·subst e;omega
  ·have:=Yc c h0 n (by omega);omega
theorem eo (c:AX):∀n,0<=Yd c n/\Yd c n<=c.mark.length
 |0=>⟨by unfold Yd;omega,Int.le_refl _⟩
 |n+1=>by
  have ih:=eo c n
  have:=en (c:=c) (c.mark.length+1) (n+1) c.mark
  unfold Yd Q5;omega
theorem S5 (c:AX) (b:List Int) {k:Nat}(h:k<c.mark.length):(DL c b)[k]?=c.mark[k]?:=by
 unfold DL;rw[List.getElem?_append_left h]
theorem Ug {c:AX}(hk:Ff c) {b:List Int}(hb:b.length=c.syms) {i:Nat}(hi:i<c.syms):∃y,y<16/\∀t,t<c.code.sz->(DL c b)[c.mark.length+i*c.code.sz+t]?=(c.code.stm y)[t]?:=by
 have hl:(CQ c.seed b).length=c.syms:=by rw[Ce,hb]
 have h1:=QA c (CQ c.seed b) [] i (by omega)
 rw[List.append_nil] at h1
 have hx:=HB b c.seed _ (DS (show i<(CQ c.seed b).length by omega))
 refine⟨((CQ c.seed b)[i]?.getD 0).toNat,by omega,fun t ht=>?_⟩
 rw[←h1]
 unfold AX.part
 rw[List.getElem?_take,if_pos ht,List.getElem?_drop,Nat.zero_add];rfl
theorem ej {c:AX}(hk:Ff c) {b1 b2:List Int}(h1:b1.length=c.syms) (h2:b2.length=c.syms):∀(n at_:Nat) (rest:List Int),at_+rest.length<=2*c.tot->apW c n at_ rest<=Bv rest ((DL c b1++DL c b2).drop at_)
 |0,at_,rest,_=>(HM _ _).1
 |n+1,at_,rest,h=>by
  have htt:c.tot=c.mark.length+c.syms*c.code.sz:=rfl
  have hm:=hk.markl
  have hz:=E3 hk.code
  unfold apW
  by_cases hr:rest=[]
  ·rw[if_pos hr];exact(HM _ _).1
  rw[if_neg hr]
  have hsp:=Mu hk at_ hr
  have hl1:(DL c b1).length=c.tot:=by rw[JN,h1];rfl
  have hl2:(DL c b2).length=c.tot:=by rw[JN,h2];rfl
  obtain⟨W,hW⟩:∃W,DL c b1++DL c b2=W:=⟨_,rfl⟩
  obtain⟨g,hg⟩:∃g,H' c at_ rest=g:=⟨_,rfl⟩
  have ih:=ej hk h1 h2 n (at_+g) (rest.drop g) (by rw[List.length_drop];omega)
  rw[hW] at ih ⊢
  rw[hg] at hsp ⊢
  rw[Vj g rest (W.drop at_) hsp.2,List.drop_drop]
  refine Int.add_le_add ?_ ih
  have hpos:0<rest.length:=List.length_pos_iff.2 hr
  obtain⟨p,hp⟩:∃p,at_%c.tot=p:=⟨_,rfl⟩
  have hpl:p<c.tot:=by rw[←hp];exact Nat.mod_lt _ (by omega)
  have hsec:∃b,b.length=c.syms/\∀k,p+k<c.tot->W[at_+k]?=(DL c b)[p+k]?:=by
   rcases Nat.lt_or_ge at_ c.tot with hlt|hge
   ·rw[Nat.mod_eq_of_lt hlt] at hp
    refine⟨b1,h1,fun k hkk=>?_⟩
    rw[←hW,List.getElem?_append_left (by omega),hp]
   ·rw[Nat.mod_eq_sub_mod hge,Nat.mod_eq_of_lt (by omega)] at hp
    refine⟨b2,h2,fun k hkk=>?_⟩
    rw[←hW,List.getElem?_append_right (by omega),hl1,show at_+k-c.tot=p+k by omega]
  obtain⟨b,hb,hw⟩:=hsec
  unfold S4
  rw[hp,hg]
  unfold H' at hg
  rw[hp] at hg
  by_cases hpm:p<c.mark.length
  ·rw[if_pos hpm] at hg ⊢
   refine Int.le_of_eq (MQ _ _ _ fun k hkk=>?_)
   rw[List.length_take] at hkk
   rw[List.getElem?_drop,List.getElem?_drop,hw k (by omega),S5 c b (by omega)]
  ·rw[if_neg hpm] at hg ⊢
   obtain⟨q,hq⟩:∃q,(p-c.mark.length)%c.code.sz=q:=⟨_,rfl⟩
   obtain⟨s,hs⟩:∃s,(p-c.mark.length)/c.code.sz=s:=⟨_,rfl⟩
   have hdm:s*c.code.sz+q=p-c.mark.length:=by rw[←hs,←hq,Nat.mul_comm];exact Nat.div_add_mod ..
   have hqz:q<c.code.sz:=by rw[←hq];exact Nat.mod_lt _ (by omega)
   rw[hq] at hg ⊢
   have hsl:s<c.syms:=by
    rcases Nat.lt_or_ge s c.syms with h|h
    ·exact h
    ·have:=Nat.mul_le_mul_right c.code.sz h;omega
   have hse:s*c.code.sz+c.code.sz<=c.syms*c.code.sz:=by rw[←Nat.succ_mul];exact Nat.mul_le_mul_right _ hsl
   obtain⟨y,hy,hyt⟩:=Ug hk hb hsl
   refine Int.le_trans (cz c.code rest g q 16 hy) (Int.le_of_eq (MQ _ _ _ fun k hkk=>?_))
   rw[List.length_take] at hkk
   rw[List.getElem?_drop,List.getElem?_drop,hw k (by omega),show p+k=c.mark.length+s*c.code.sz+(q+k) by omega,hyt (q+k) (by omega)]
theorem bQ (xs out:List Int) (a:Nat) (f:Int):Bv xs (out.drop a)-1<=Bv xs ((So out f).drop a)/\Bv xs ((So out f).drop a)<=Bv xs (out.drop a)+1:=by
 unfold So
 split
 ·exact RX xs out a _ _
 ·omega
theorem OB (xs:List Int) (a:Nat):∀(fl out:List Int),Bv xs (out.drop a)-fl.length<=Bv xs ((KE out fl).drop a)/\Bv xs ((KE out fl).drop a)<=Bv xs (out.drop a)+fl.length
 |[],out=>⟨by simp[KE],by simp[KE]⟩
 |f::fl,out=>by
  have h1:=bQ xs out a f
  have h2:=OB xs a fl (So out f)
  have e:KE out (f::fl)=KE (So out f) fl:=rfl
  rw[e,List.length_cons]
  push_cast
  omega
theorem cy {c:AX}(hk:Ff c) {b1 b2:List Int}(h1:b1.length=c.syms) (h2:b2.length=c.syms) {fl:List Int}(hf:(fl.length:Int)<=c.errs) (ha:2*c.errs<Yd c (c.tot-1)) {g:Nat}(g1:1<=g) (g2:g<=c.tot) :
  c.find ((KE (DL c b1++DL c b2) fl).drop g)=some (c.tot-g):=by
 have htt:c.tot=c.mark.length+c.syms*c.code.sz:=rfl
 have hl1:(DL c b1).length=c.tot:=by rw[JN,h1];rfl
 have hl2:(DL c b2).length=c.tot:=by rw[JN,h2];rfl
 refine Iy.2 ⟨?_,?_,fun j hj=>?_⟩
 ·rw[List.length_drop,Ms,List.length_append];omega
 ·rw[List.drop_drop,show g+(c.tot-g)=c.tot by omega]
  have h3:=(OB c.mark c.tot fl (DL c b1++DL c b2)).2
  have h4:Bv c.mark ((DL c b1++DL c b2).drop c.tot)=0:=by
   rw[←hl1,List.drop_left]
   unfold DL
   exact NP ..
  omega
 ·rw[List.drop_drop]
  have h3:=(OB c.mark (g+j) fl (DL c b1++DL c b2)).1
  have h4:=ej hk h1 h2 (c.mark.length+1) (g+j) c.mark (by omega)
  have h5:=Yc c (show 1<=g+j by omega) (c.tot-1) (by omega)
  have h6:Q5 c (g+j)=apW c (c.mark.length+1) (g+j) c.mark:=rfl
  omega
end Go.Pw
end
section
open Go Go.Pw Go.Proofs
namespace Go.Pw
set_option maxRecDepth 100000
set_option maxHeartbeats 3200000
theorem iE {c:AX}(hk:Ff c) {sy:List (Option Nat)}(hl:sy.length=c.syms):RE c sy=0\/RE c sy=52:=by
 obtain⟨l,p,q,h1,h2,h3,b1,b2,b3,b4,b5,b6,b7,hc⟩:=LS hk.wev
 have hs:c.syms=l*q:=by
  have:=hk.syms.2.2
  rw[h1,h3] at this
  have e:(q:Int)*(l:Int)=((l*q:Nat):Int):=by push_cast;exact Int.mul_comm ..
  rw[e] at this;omega
 rw[(dV hk h1 h2 h3 hs hl).1]
 cases XF l p q (fs (CQ c.seed (Mo sy))) (Zf sy) with
 |none=>exact .inr rfl
 |some r=>exact .inl rfl
theorem TA {c:AX}(hok:c.ok=true) {R:List Int}(hb:Hi R=true) {a:Nat}(hf:c.find R=some a):ZO c R=.tup [.list (VH c (c.syL R a)).isEmpty (Al (VH c (c.syL R a))),.int .i64 (if RE c (c.syL R a)=0 then (a:Int) else 0),.int .i64 (RE c (c.syL R a))]:=by
 unfold ZO Uv YD YC
 simp only[hok,hb,if_true,hf]
theorem Mv {c:AX}(hk:Ff c) (b:List Int):Ab (DL c b)=true:=by
 unfold DL
 refine El hk.markl.2.2 ?_
 unfold AX.flat
 generalize CQ c.seed b=X
 induction X with
 |nil=>rfl
 |cons x X ih=>exact El (UK ..) ih
attribute [local congr] Bi A9 A_ Aq Bj Ax Az Ay Ap Aj Ad AY Au Ae Av BH BL BJ BK BI BM BE Ah Aw Ai BC BS Ag BF BG BD BA BB A8 Bl A' Ar Af
attribute [local irreducible] IntKind.wrap A3 Option.getD and or
end Go.Pw
end
section
open Go Go.Pw Go.Proofs
namespace Go.Pw
set_option maxRecDepth 100000
set_option maxHeartbeats 3200000
attribute [local congr] Bi A9 A_ Aq Bj Ax Az Ay Ap Aj Ad AY Au Ae Av BH BL BJ BK BI BM BE Ah Aw Ai BC BS Ag BF BG BD BA BB A8 Bl A' Ar Af
attribute [local irreducible] IntKind.wrap A3 Option.getD and or
theorem Pf (c:AX) (n1 n2 n3:Bool) (d1 d2 fl:List Int) (fr:Int):CK E0 Gy [FG c,.agg [.list n1 (Al d1),.list n2 (Al d2),.list n3 (Al fl),.int .i64 fr]] (.bool true):=by
 have c0:=Gl
 have c1:=FL c n1 d1
 have c1b:=FL c n2 d2
 refine AM KG A0 (by simp) fun hwf=>?_
 rw[AU];unfold GQ
 cases hr:Uu c d1 with
 |false =>
  rw[hr] at c1
  (try (simp -implicitDefEqProofs only[go_sem,AI,AH]));repeat' first|(with_reducible first|exact tI|refine aI ?_ ?_|intro _)|((first|with_reducible refine AO ?_ ?_<;>intro _|(with_reducible refine isCall ?_);first|refine AE c0 ?_|refine AE c1 ?_)<;>try (simp -implicitDefEqProofs only[go_sem,AI,AH]))|simp (disch:=omega) only[An]
  all_goals first|rfl|skip
 |true =>
 rw[hr] at c1
 cases hr2:Uu c d2 with
 |false =>
  rw[hr2] at c1b
  (try (simp -implicitDefEqProofs only[go_sem,AI,AH]));repeat' first|(with_reducible first|exact tI|refine aI ?_ ?_|intro _)|((first|with_reducible refine AO ?_ ?_<;>intro _|(with_reducible refine isCall ?_);first|refine AE c0 ?_|refine AE c1 ?_|refine AE c1b ?_)<;>try (simp -implicitDefEqProofs only[go_sem,AI,AH]))|simp (disch:=omega) only[An]
  all_goals first|rfl|skip
 |true =>
 rw[hr2] at c1b
 by_cases hfl:c.errs<(fl.length:Int)
 ·(try (simp -implicitDefEqProofs only[go_sem,AI,AH,hfl]));repeat' first|(with_reducible first|exact tI|refine aI ?_ ?_|intro _)|((first|with_reducible refine AO ?_ ?_<;>intro _|(with_reducible refine isCall ?_);first|refine AE c0 ?_|refine AE c1 ?_|refine AE c1b ?_)<;>try (simp -implicitDefEqProofs only[go_sem,AI,AH,hfl]))|simp (disch:=omega) only[An]
  all_goals first|rfl|skip
 have r:=S' hr
 have r2:=S' hr2
 have hk:=D7 r.ok
 have hm:=hk.markl
 have ht:=r.tot
 have hs:=hk.syms
 have he:=hk.errs
 obtain⟨w1,w2,w3⟩:=r.wr
 obtain⟨x1,x2,x3⟩:=r2.wr
 have c2:=Dd c n1 d1
 have c2b:=Dd c n2 d2
 rw[w2] at c2
 rw[x2] at c2b
 have hB1:=Hq hk.wev r.spE
 have hB2:=Hq hk.wev r2.spE
 have key:=fun g1 g2 h=>@cy c hk _ _ hB1 hB2 fl (by omega) h fr.toNat g1 g2
 rw[←w1,←x1] at key
 have hs1:Ab (T4 c d1)=true:=by rw[w1];exact Mv hk _
 have hs2:Ab (T4 c d2)=true:=by rw[x1];exact Mv hk _
 obtain⟨S,hS⟩:∃S,T4 c d1=S:=⟨_,rfl⟩
 obtain⟨T,hT⟩:∃T,T4 c d2=T:=⟨_,rfl⟩
 rw[hS] at c2 w3 hs1
 rw[hT] at c2b x3 hs2
 rw[hS,hT] at key
 have htt:c.tot=c.mark.length+c.syms*c.code.sz:=rfl
 have hne:¬S=[]:=fun e=>by rw[e] at w3;simp at w3;omega
 have hne2:¬T=[]:=fun e=>by rw[e] at x3;simp at x3;omega
 have hSe:S.isEmpty=false:=DR hne
 have hTe:T.isEmpty=false:=DR hne2
 rw[hSe] at c2
 rw[hTe] at c2b
 have c3:=Gj c hk.wev hk.code (by omega)
 have cP:=H6 c
 have hbd:=eo c (c.tot-1)
 rw[(GE r.ok).2,show V3 c=Yd c (c.tot-1) by unfold V3;rw[if_pos r.ok]] at cP
 obtain⟨ap,hap⟩:∃ap,Yd c (c.tot-1)=ap:=⟨_,rfl⟩
 rw[hap] at cP key hbd
 have hlS:(S.length:Int)=(c.tot:Int):=by omega
 have hlT:(T.length:Int)=(c.tot:Int):=by omega
 have a0:¬ap<0:=by omega
 have a1:¬(c.mark.length:Int)<ap:=by omega
 have we:IntKind.i64.wrap (2*c.errs)=2*c.errs:=Ak _ (by omega)
 clear hS hT hap
 by_cases ha:ap<=2*c.errs
 ·(try (simp -implicitDefEqProofs only[go_sem,AI,AH,hfl,hlS,hlT,a0,a1,we,ha]));repeat' first|(with_reducible first|exact tI|refine aI ?_ ?_|intro _)|((first|with_reducible refine AO ?_ ?_<;>intro _|(with_reducible refine isCall ?_);first|refine AE c0 ?_|refine AE c1 ?_|refine AE c1b ?_|refine AE c2 ?_|refine AE c2b ?_|refine AE c3 ?_|refine AE cP ?_)<;>try (simp -implicitDefEqProofs only[go_sem,AI,AH,hfl,hlS,hlT,a0,a1,we,ha]))|simp (disch:=omega) only[An]
  all_goals first|rfl|skip
 by_cases hf1:fr<1
 ·(try (simp -implicitDefEqProofs only[go_sem,AI,AH,hfl,hlS,hlT,a0,a1,we,ha,hf1]));repeat' first|(with_reducible first|exact tI|refine aI ?_ ?_|intro _)|((first|with_reducible refine AO ?_ ?_<;>intro _|(with_reducible refine isCall ?_);first|refine AE c0 ?_|refine AE c1 ?_|refine AE c1b ?_|refine AE c2 ?_|refine AE c2b ?_|refine AE c3 ?_|refine AE cP ?_)<;>try (simp -implicitDefEqProofs only[go_sem,AI,AH,hfl,hlS,hlT,a0,a1,we,ha,hf1]))|simp (disch:=omega) only[An]
  all_goals first|rfl|skip
 by_cases hf2:((c.tot:Nat):Int)<fr
 ·(try (simp -implicitDefEqProofs only[go_sem,AI,AH,hfl,hlS,hlT,a0,a1,we,ha,hf1,hf2]));repeat' first|(with_reducible first|exact tI|refine aI ?_ ?_|intro _)|((first|with_reducible refine AO ?_ ?_<;>intro _|(with_reducible refine isCall ?_);first|refine AE c0 ?_|refine AE c1 ?_|refine AE c1b ?_|refine AE c2 ?_|refine AE c2b ?_|refine AE c3 ?_|refine AE cP ?_)<;>try (simp -implicitDefEqProofs only[go_sem,AI,AH,hfl,hlS,hlT,a0,a1,we,ha,hf1,hf2]))|simp (disch:=omega) only[An]
  all_goals first|rfl|skip
 obtain⟨g,rfl⟩:∃g:Nat,fr=(g:Int):=⟨fr.toNat,by omega⟩
 rw[Int.toNat_natCast] at key
 have hfind:=key (by omega) (by omega) (by omega)
 have hST:¬S++T=[]:=fun e=>hne (List.append_eq_nil_iff.1 e).1
 have hSTl:(S++T).length=2*c.tot:=by rw[List.length_append];omega
 have c4:=ND false n3 (S++T) fl (El hs1 hs2) (by omega) hST
 have hRl:=Ms fl (S++T)
 have hRb:=Rp fl (El hs1 hs2)
 obtain⟨R,hR⟩:∃R,KE (S++T) fl=R:=⟨_,rfl⟩
 rw[hR] at c4 hRl hRb hfind
 have hRg:(R.drop g).length=2*c.tot-g:=by rw[List.length_drop];omega
 have hRok:Hi (R.drop g)=true:=by unfold Hi;rw[Dg hRb g,decide_eq_true (by omega)];simp only[Bool.and_self]
 have c5:=Er c false (R.drop g)
 rw[TA r.ok hRok hfind] at c5
 have h2:=iE hk (LT c (R.drop g) (c.tot-g))
 obtain⟨E,hE⟩:∃E,RE c (c.syL (R.drop g) (c.tot-g))=E:=⟨_,rfl⟩
 obtain⟨G,hG⟩:∃G,VH c (c.syL (R.drop g) (c.tot-g))=G:=⟨_,rfl⟩
 rw[hE,hG] at c5
 rw[hE] at h2
 have gR:(g:Int)<=(R.length:Int):=by omega
 have ws:IntKind.i64.wrap (((c.tot:Nat):Int)-(g:Int))=((c.tot-g:Nat):Int):=by rw[Ak _ (by omega)];omega
 have htake:(R.drop g).take (R.length-g)=R.drop g:=List.take_of_length_le (by rw[List.length_drop];omega)
 clear hR hfind
 rcases h2 with h2|h2
 ·subst h2
  rw[if_pos rfl] at c5
  (try (simp -implicitDefEqProofs only[go_sem,AI,AH,hfl,hlS,hlT,a0,a1,we,ha,hf1,hf2,hne,gR,ws,htake]));repeat' first|(with_reducible first|exact tI|refine aI ?_ ?_|intro _)|((first|with_reducible refine AO ?_ ?_<;>intro _|(with_reducible refine isCall ?_);first|refine AE c0 ?_|refine AE c1 ?_|refine AE c1b ?_|refine AE c2 ?_|refine AE c2b ?_|refine AE c3 ?_|refine AE cP ?_|refine Xo 110 1 (c4) rfl (by simp[D6]) (by simp[B2,Di,AJ.reach,AV.sites,AV.sites.sitesL,AJ.osites,BV]) rfl ?_|refine AE c5 ?_)<;>try (simp -implicitDefEqProofs only[go_sem,AI,AH,hfl,hlS,hlT,a0,a1,we,ha,hf1,hf2,hne,gR,ws,htake]))|simp (disch:=omega) only[An]
  all_goals first|rfl|omega|(exfalso;rename_i h;exact h rfl)|skip
 ·subst h2
  rw[if_neg (by omega)] at c5
  (try (simp -implicitDefEqProofs only[go_sem,AI,AH,hfl,hlS,hlT,a0,a1,we,ha,hf1,hf2,hne,gR,ws,htake]));repeat' first|(with_reducible first|exact tI|refine aI ?_ ?_|intro _)|((first|with_reducible refine AO ?_ ?_<;>intro _|(with_reducible refine isCall ?_);first|refine AE c0 ?_|refine AE c1 ?_|refine AE c1b ?_|refine AE c2 ?_|refine AE c2b ?_|refine AE c3 ?_|refine AE cP ?_|refine Xo 110 1 (c4) rfl (by simp[D6]) (by simp[B2,Di,AJ.reach,AV.sites,AV.sites.sitesL,AJ.osites,BV]) rfl ?_|refine AE c5 ?_)<;>try (simp -implicitDefEqProofs only[go_sem,AI,AH,hfl,hlS,hlT,a0,a1,we,ha,hf1,hf2,hne,gR,ws,htake]))|simp (disch:=omega) only[An]
  all_goals first|rfl|omega|(exfalso;rename_i h;exact h rfl)|skip
end Go.Pw
end
