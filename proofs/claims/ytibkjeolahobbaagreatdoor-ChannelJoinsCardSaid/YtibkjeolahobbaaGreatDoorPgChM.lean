/- A part of the proof. -/
import Derived.Test.YtibkjeolahobbaaGreatDoorPgChI
import Derived.Test.YtibkjeolahobbaaGreatDoorPgChrBw
import Derived.Test.YtibkjeolahobbaaGreatDoorPgChrV
import Derived.Test.YtibkjeolahobbaaGreatDoorPgChrM
set_option linter.all false
open Go Go.Pw Go.Proofs
namespace Go.Pw
set_option maxRecDepth 100000
set_option maxHeartbeats 3200000
theorem Wt:∀(xs ys:List Int),B' xs (xs++ys)=0
 |[],_=>by simp[B']
 |x::xs,ys=>by rw[List.cons_append,B',if_pos rfl,Wt xs ys];rfl
theorem fF (mk:List Nat):nt (ni mk)=mk:=by
 unfold nt ni
 rw[List.map_map]
 exact List.map_id'' (fun x=>by simp) mk
theorem UK (l:List Nat) (i:Nat) (h:i<l.length):(ni l)[i]?.getD 0=((l[i]?.getD 0:Nat):Int):=by simp[ni,h]
theorem PZ {m:Nat}{mk:List Nat}(h:XV m mk):Cq (ni mk) (m:Int)=true:=Ol fun i hi=>by
 have hil:i<mk.length:=by simpa[ni] using hi
 unfold bU
 rw[decide_eq_true_eq,UK _ _ hil,UK _ _ (show i-1<mk.length by omega)]
 have h1:=h.lt (mk[i]?.getD 0) (by rw[List.getElem?_eq_getElem hil];exact List.getElem_mem hil)
 refine⟨by omega,by exact_mod_cast h1,fun h0=>?_⟩
 have h2:=(List.pairwise_iff_getElem.1 h.asc) (i-1) i (by omega) hil (by omega)
 rw[List.getElem?_eq_getElem hil,List.getElem?_eq_getElem (show i-1<mk.length by omega)]
 exact_mod_cast h2
theorem ju {c:AX}(hk:HJ c) {d:List Int}(he:d6 c.L c.P c.Q d=0) :
  ∃(l p q:Nat) (e:List F),c.L=(l:Int)/\c.P=(p:Int)/\c.Q=(q:Int)/\2<=l/\l<=15/\1<=p/\p<=8/\p<l/\1<=q/\q<=8/\d=iv e/\e.length=(l-p)*q/\aW c.L c.P c.Q d=iv (aV l p q e)/\c.syms=l*q:=by
 obtain⟨l,p,q,h1,h2,h3,b1,b2,b3,b4,b5,b6,b7,hc⟩:=I7 hk.wev
 have hw:=hk.wev
 unfold d6 at he
 rw[if_pos hw] at he
 have hs:Bl d (c.Q*(c.L-c.P))=true:=by
  cases hs:Bl d (c.Q*(c.L-c.P)) with
  |true=>rfl
  |false=>rw[hs] at he;simp at he
 obtain⟨hl,hf⟩:=NC hs
 refine⟨l,p,q,fs d,h1,h2,h3,b1,b2,b3,b4,b5,b6,b7,hf.symm,?_,?_,?_⟩
 ·rw[UW]
  rw[h1,h2,h3,show ((l:Int)-(p:Int))=((l-p:Nat):Int) by omega] at hl
  exact QO hl
 ·unfold aW
  rw[if_pos hw,if_pos hs,h1,h2,h3];rfl
 ·have:=hk.syms.2.2
  rw[h1,h3] at this
  have e:(q:Int)*(l:Int)=((l*q:Nat):Int):=by push_cast;exact Int.mul_comm ..
  rw[e] at this;omega
theorem pf (w:List F):∀x,x∈iv w->0<=x/\x<=15:=fun x hx=>by
 simp only[iv,List.mem_map] at hx
 obtain⟨a,_,rfl⟩:=hx
 exact Qd a
theorem nS {c:AX}(hk:HJ c) {l p q:Nat}(h1:c.L=(l:Int)) (h2:c.P=(p:Int)) (h3:c.Q=(q:Int)) (hs:c.syms=l*q) {sy:List (Option Nat)}(hl:sy.length=c.syms) :
  XU c sy=oE (Zz l p q (fs (Bd c.seed (GV sy))) (J_ sy))/\YW c sy=iv (oL (Zz l p q (fs (Bd c.seed (GV sy))) (J_ sy))):=by
 have hw:=hk.wev
 have hxl:(Bd c.seed (GV sy)).length=c.syms:=by rw[Bm,Cw,hl]
 have hsy:Bl (Bd c.seed (GV sy)) (c.Q*c.L)=true:=by
  have:iv (fs (Bd c.seed (GV sy)))=Bd c.seed (GV sy):=WO (by
   rw[List.all_eq_true]
   intro x hx
   have:=IB _ _ x hx
   unfold J3;rw[decide_eq_true_eq];omega)
  rw[←this,VR,decide_eq_true_eq,UW,hxl]
  exact hk.syms.2.2.symm
 have hm:Cq (ni (J_ sy)) ((Bd c.seed (GV sy)).length:Int)=true:=by
  rw[hxl]
  refine PZ ⟨List.Pairwise.filter _ List.pairwise_lt_range,fun j hj=>?_⟩
  have:=(List.mem_filter.1 hj).1
  rw[List.mem_range] at this
  omega
 unfold XU YW jP dU
 rw[if_pos hw,if_pos hsy,if_pos hm,if_pos hw,if_pos hsy,if_pos hm,fF,h1,h2,h3,Int.toNat_natCast,Int.toNat_natCast,Int.toNat_natCast]
 exact⟨rfl,rfl⟩
theorem oQ {c:AX}{R:List Int}{i:Nat}(h:i<c.syms):(c.syL R 0)[i]?.getD none=J2 c.code (c.part R 0 i):=by
 simp[AX.syL,h]
theorem oo {c:AX}{sy:List (Option Nat)}{B:List F}{i:Nat}(hi:i<sy.length) (hB:i<B.length) {s:Nat}(hs:sy[i]?.getD none=some s) (hx:(s:Int)=(Bd c.seed (iv B))[i]?.getD 0) :
  (fs (Bd c.seed (GV sy)))[i]?.getD 0=B[i]?.getD 0:=by
 have h1:=NG (GV sy) c.seed i (by rw[Cw];exact hi)
 have h2:=NG (iv B) c.seed i (by rw[Gx];exact hB)
 have h3:(GV sy)[i]?.getD 0=(s:Int):=by
  simp only[GV,List.getElem?_map]
  rw[List.getElem?_eq_getElem hi] at hs ⊢
  simp only[Option.getD_some,Option.map_some] at hs ⊢
  rw[hs];rfl
 have h4:0<=(iv B)[i]?.getD 0/\(iv B)[i]?.getD 0<=15:=pf B _ (Cs (by rw[Gx];exact hB))
 rw[h3,hx,h2,ZV _ h4,fo] at h1
 have h5:(fs (Bd c.seed (GV sy)))[i]?.getD 0=Fin.ofNat 16 ((Bd c.seed (GV sy))[i]?.getD 0).toNat:=by
  simp only[fs,List.getElem?_map]
  rw[List.getElem?_eq_getElem (by rw[Bm,Cw];exact hi)];rfl
 rw[h5,h1,Int.toNat_natCast]
 exact Fin.ext (Nat.mod_eq_of_lt (B[i]?.getD 0).isLt)
theorem W7 {f g:Nat->Nat}{q:Nat}:∀{n:Nat},(∀i,i<n->f i<=g i)->∀k,Ls f q n k<=Ls g q n k
 |0,_,_=>Nat.le_refl _
 |n+1,h,k=>by
  have ih:=W7 (f:=f) (g:=g) (q:=q) (n:=n) (fun i hi=>h i (by omega)) k
  have h1:=h n (by omega)
  show Ls f q n k+(if n%q=k then f n else 0)<=Ls g q n k+(if n%q=k then g n else 0)
  split<;>omega
theorem ei {c:AX}(hk:HJ c) {l p q:Nat}{e:List F}(h1:c.L=(l:Int)) (h2:c.P=(p:Int)) (h3:c.Q=(q:Int)) (b2:l<=15) (b5:p<l) (b6:1<=q) (he:e.length=(l-p)*q) (hs:c.syms=l*q)
  {sy:List (Option Nat)}(hl:sy.length=c.syms) {f:Nat->Nat}
  (hf:∀i,i<l*q->sy[i]?.getD none≠some ((Bd c.seed (iv (aV l p q e)))[i]?.getD 0).toNat->(if (sy[i]?.getD none).isNone then 1 else 2)<=f i)
  (hc:∀k,k<q->Ls f q (l*q) k<=p):XU c sy=0/\YW c sy=iv e:=by
 obtain⟨g1,g2⟩:=nS hk h1 h2 h3 hs hl
 have hBl:(aV l p q e).length=l*q:=ZR ..
 have hrl:(fs (Bd c.seed (GV sy))).length=l*q:=by rw[UW,Bm,Cw,hl,hs]
 have key:=Sm (l:=l) (p:=p) (q:=q) b2 b5 (by omega) he hrl (mB:=fun i=>(sy[i]?.getD none).isNone) (wB:=fun i=>decide (sy[i]?.getD none≠some ((Bd c.seed (iv (aV l p q e)))[i]?.getD 0).toNat))
  (fun i hi hne hm=>by
   rw[decide_eq_true_eq]
   intro hs2
   have hx:0<=(Bd c.seed (iv (aV l p q e)))[i]?.getD 0:=(IB _ _ _ (Cs (by rw[Bm,Gx,hBl];exact hi))).1
   exact hne (oo (by omega) (by omega) hs2 (by omega)).symm)
  (fC:=fun i=>if (sy[i]?.getD none).isNone then 1 else if decide (sy[i]?.getD none≠some ((Bd c.seed (iv (aV l p q e)))[i]?.getD 0).toNat) then 2 else 0) (fun i hi=>rfl)
  (fun k hkq=>Nat.le_trans (W7 (fun i hi=>by
   by_cases hw:sy[i]?.getD none=some ((Bd c.seed (iv (aV l p q e)))[i]?.getD 0).toNat
   ·rw[hw];simp
   ·have:=hf i hi hw
    by_cases hn:(sy[i]?.getD none).isNone=true
    ·rw[if_pos hn] at this ⊢;exact this
    ·rw[if_neg hn] at this ⊢
     rw[if_pos (by rw[decide_eq_true_eq];exact hw)];exact this) k) (hc k hkq))
 have hmk:J_ sy=(List.range (l*q)).filter fun i=>(sy[i]?.getD none).isNone:=by unfold J_;rw[hl,hs]
 rw[g1,g2,hmk,key]
 exact⟨rfl,rfl⟩
theorem om {c:AX}(hk:HJ c) {b:List Int}(hb:b.length=c.syms) (rest:List Int) {i:Nat}(hi:i<c.syms):(c.syL (Q5 c b++rest) 0)[i]?.getD none=some ((Bd c.seed b)[i]?.getD 0).toNat:=by
 rw[oQ hi]
 have hl:(Bd c.seed b).length=c.syms:=by rw[Bm,hb]
 unfold Q5
 rw[eM c _ rest i (by omega)]
 have hx:=IB b c.seed _ (Cs (show i<(Bd c.seed b).length by omega))
 exact Qp hk.dst (by omega)
theorem gj {c:AX}(hk:HJ c) {b:List Int}(hb:b.length=c.syms) (rest:List Int):c.find (Q5 c b++rest)=some 0:=by
 refine LW.2 ⟨?_,?_,fun j hj=>by omega⟩
 ·rw[List.length_append,j9,hb];unfold AX.tot;omega
 ·rw[List.drop_zero]
  unfold Q5
  rw[List.append_assoc,Wt];exact hk.errs.1
theorem eh {c:AX}(hk:HJ c) {d:List Int}(he:d6 c.L c.P c.Q d=0) (rest:List Int) :
  c.find (Q5 c (aW c.L c.P c.Q d)++rest)=some 0/\XU c (c.syL (Q5 c (aW c.L c.P c.Q d)++rest) 0)=0/\YW c (c.syL (Q5 c (aW c.L c.P c.Q d)++rest) 0)=d:=by
 have hbl:=ZS hk.wev he
 obtain⟨l,p,q,e,h1,h2,h3,b1,b2,b3,b4,b5,b6,b7,rfl,hel,hsp,hs⟩:=ju hk he
 refine⟨gj hk hbl rest,?_⟩
 refine ei hk h1 h2 h3 b2 b5 b6 hel hs (HS ..) (f:=fun _=>0) (fun i hi hne=>?_) fun k _=>?_
 ·rw[om hk hbl rest (by omega),hsp] at hne
  exact absurd rfl hne
 ·have:∀n,Ls (fun _=>0) q n k=0:=fun n=>by
   induction n with
   |zero=>rfl
   |succ n ih=>show Ls _ q n k+(if n%q=k then 0 else 0)=0;rw[ih];split<;>rfl
  rw[this];omega
section
def GW (m q:Nat) (W:Nat->List F) (k j:Nat):List F:=(List.range (m*q)).map fun i=>if i%q<k\/(i%q=k/\i/q<j) then (W (i%q))[i/q]?.getD 0 else 0
theorem bt (m q:Nat) (W:Nat->List F) (k j:Nat):(GW m q W k j).length=m*q:=by simp[GW]
theorem lW (m q:Nat) (W:Nat->List F):GW m q W 0 0=List.replicate (m*q) 0:=by
 apply List.ext_getElem
 ·simp[GW]
 ·intro i h1 h2;simp[GW]
theorem br {m q k j:Nat}{W:Nat->List F}(hk:k<q) (hj:j<m):(GW m q W k j).set (j*q+k) ((W k)[j]?.getD 0)=GW m q W k (j+1):=by
 apply List.ext_getElem
 ·simp[GW]
 ·intro i h1 h2
  rw[List.getElem_set]
  simp only[GW,List.getElem_map,List.getElem_range]
  by_cases hij:j*q+k=i
  ·subst hij
   rw[if_pos rfl,Up hk,Rm hk,if_pos (.inr ⟨rfl,by omega⟩)]
  ·rw[if_neg hij]
   have he:=Ws q i
   by_cases hc:i%q<k\/(i%q=k/\i/q<j)
   ·rw[if_pos hc,if_pos (by omega)]
   ·rw[if_neg hc,if_neg fun h=>?_]
    rcases h with h|⟨h3,h4⟩
    ·exact hc (.inl h)
    ·have h5:i/q=j:=by
      rcases Nat.lt_or_ge (i/q) j with h6|h6
      ·exact absurd (.inr ⟨h3,h6⟩) hc
      ·omega
     rw[h5,h3] at he
     exact hij he
theorem Yg {m q k:Nat}(W:Nat->List F) (hq:0<q):GW m q W k m=GW m q W (k+1) 0:=by
 unfold GW
 apply List.map_congr_left
 intro i hi
 have h1:i/q<m:=Nat.div_lt_of_lt_mul (by rw[Nat.mul_comm];simpa using hi)
 by_cases hc:i%q<k\/(i%q=k/\i/q<m)
 ·rw[if_pos hc,if_pos (.inl (by rcases hc with h|⟨h,_⟩<;>omega))]
 ·rw[if_neg hc,if_neg fun h=>?_]
  rcases h with h|⟨_,h⟩
  ·rcases Nat.lt_succ_iff_lt_or_eq.1 h with h2|h2
   ·exact hc (.inl h2)
   ·exact hc (.inr ⟨h2,h1⟩)
  ·exact absurd h (Nat.not_lt_zero _)
theorem bu {m q:Nat}(W:Nat->List F) (hq:0<q):GW m q W q 0=GL m q W:=by
 unfold GW GL
 apply List.map_congr_left
 intro i hi
 rw[if_pos (.inl (Nat.mod_lt _ hq))]
attribute [local irreducible] IntKind.wrap Ai Option.getD and or
theorem RF (q m k:Nat) (n:Bool) (b:List F) (hm:m<=15) (hm1:1<=m) (hq:q<=8) (hk:k<q) (hb:b.length=m*q) :
  BR E0 OH [.list n (Aa (iv b)),.int .i64 (q:Int),.int .i64 (k:Int)] (.list false (Aa (iv (Bw m q k b)))):=by
 have hmq:=TJ hm hq
 have hpl:=Bn m q k b
 refine AM Rt Af (by simp) fun hwf=>?_
 rw[AQ];unfold L1
 (try (simp -implicitDefEqProofs only[go_sem]));repeat' first|(with_reducible first|exact tI|refine aI ?_ ?_|intro _|refine AJ ?_ ?_<;>intro _<;>try simp -implicitDefEqProofs only[go_sem])|simp (disch:=omega) only[Ad]|((with_reducible apply Ag);exact rfl)
 all_goals first|omega|(simp<;>omega)|skip
 refine AU (α:=Nat×Nat×Bool) (l0:=?l1) (m0:=?m1) (fun x=>[(8,.d (.int .i64 (x.2.1:Int)))]) (fun x=>[(23,.row 3 1 x.2.2 (Aa (iv ((Bw m q k b).take x.1))))]) (fun x=>x.1<=m/\x.2.1=k+x.1*q/\x.2.2=decide (x.1=0)) (fun x=>m-x.1) (0,k,true) ?h01 ?he1 ?he21 ?hI1 ?step1
 case h01=>(simp -implicitDefEqProofs only[go_sem];rfl)
 case he1=>rfl
 case he21=>rfl
 case' step1=>(rintro⟨j,s,e⟩ hI;try dsimp only at hI)
 case' hI1=>try dsimp only
 ·exact⟨Nat.zero_le _,by simp,rfl⟩
 ·obtain⟨h1,hs,h2⟩:=hI
  change e=decide (j=0) at h2
  subst h2
  have hjq:=Nat.mul_le_mul_right q h1
  by_cases h:j<m
  ·have h0:=nQ hk hb h
   rw[←hs] at h0
   have h':(s:Int)<(b.length:Int):=by omega
   have hs2:s+q=k+(j+1)*q:=by rw[Nat.add_mul,Nat.one_mul];omega
   have hwj:IntKind.i64.wrap ((s:Int)+(q:Int))=((s+q:Nat):Int):=by rw[AZ _ (by omega)];omega
   have hst:=TF m q k j b h
   rw[Nat.add_comm (j*q) k,←hs] at hst
   (try (simp -implicitDefEqProofs only[go_sem,h0,h',hwj,hst]));repeat' first|(with_reducible first|exact tI|refine aI ?_ ?_|intro _|refine AJ ?_ ?_<;>intro _<;>try simp -implicitDefEqProofs only[go_sem,h0,h',hwj,hst])|simp (disch:=omega) only[Ad]|((with_reducible apply Ag);exact rfl)
   all_goals first|omega|(simp<;>omega)|skip
   all_goals first|exact⟨hs2,rfl⟩|exact hs2|rfl|skip
  ·have hje:j=m:=by omega
   subst hje
   have h0:=nR (k:=k) hb
   have h':¬(s:Int)<(b.length:Int):=by omega
   have htk:(Bw j q k b).take j=Bw j q k b:=List.take_of_length_le (by omega)
   have hj0:decide (j=0)=false:=decide_eq_false (by omega)
   rw[htk,hj0]
   (try (simp -implicitDefEqProofs only[go_sem,h']));repeat' first|(with_reducible first|exact tI|refine aI ?_ ?_|intro _|refine AJ ?_ ?_<;>intro _<;>try simp -implicitDefEqProofs only[go_sem,h'])|simp (disch:=omega) only[Ad]|((with_reducible apply Ag);exact rfl)
   all_goals first|omega|(simp<;>omega)|skip
   all_goals first|rfl|skip
theorem Fw (L P Q:Int):BR E0 HE [.agg [.int .i64 L,.int .i64 P,.int .i64 Q]] (.int .i64 (if CL L P Q=true then 0 else 50)):=by
 have c1:=Ps L P
 have c2:=D9 Q 1 8
 refine AM Kp Af (by simp) fun hwf=>?_
 rw[AQ];unfold GP CL
 cases hc:DY L P with
 |false =>
  rw[hc] at c1
  simp only[Bool.false_eq_true,if_false,Bool.false_and] at c1 ⊢
  (try (simp -implicitDefEqProofs only[go_sem]));repeat' first|(with_reducible first|exact tI|refine aI ?_ ?_|intro _)|((first|with_reducible refine AJ ?_ ?_<;>intro _|(with_reducible refine isCall ?_);first|refine AE c1 ?_)<;>try (simp -implicitDefEqProofs only[go_sem]))|simp (disch:=omega) only[Ad]
  all_goals first|rfl|(simp;done)|skip
 |true =>
  rw[hc] at c1
  simp only[if_true,Bool.true_and] at c1 ⊢
  by_cases h:1<=Q/\Q<=8
  ·rw[decide_eq_true h] at c2 ⊢
   (try (simp -implicitDefEqProofs only[go_sem]));repeat' first|(with_reducible first|exact tI|refine aI ?_ ?_|intro _)|((first|with_reducible refine AJ ?_ ?_<;>intro _|(with_reducible refine isCall ?_);first|refine AE c1 ?_|refine AE c2 ?_)<;>try (simp -implicitDefEqProofs only[go_sem]))|simp (disch:=omega) only[Ad]
   all_goals first|rfl|(simp;done)|skip
  ·rw[decide_eq_false h] at c2 ⊢
   (try (simp -implicitDefEqProofs only[go_sem]));repeat' first|(with_reducible first|exact tI|refine aI ?_ ?_|intro _)|((first|with_reducible refine AJ ?_ ?_<;>intro _|(with_reducible refine isCall ?_);first|refine AE c1 ?_|refine AE c2 ?_)<;>try (simp -implicitDefEqProofs only[go_sem]))|simp (disch:=omega) only[Ad]
   all_goals first|rfl|(simp;done)|skip
end
section
def Z2:AX:={ code:=gt,L:=3,P:=2,Q:=1,nm:=false,mark:=[1,1,1,0],seed:=1,errs:=0 }
def la:List Int:=[1,1,1,0,1,0,1,0,1,0,0,1,1,0,1,0,1,0,0,1,1,0,1,0,0,1,0,0]
theorem Re:Z2.ok=true:=by decide +kernel
theorem nX:qU Z2 [1]=la:=by decide +kernel
theorem gv:d6 Z2.L Z2.P Z2.Q [1]=0:=by decide +kernel
theorem p6:jB Z2=1:=by decide +kernel
theorem p5:Dr la=true:=by decide +kernel
theorem gu:kK Z2 la=.tup [.list false (Aa [1]),.int .i64 0,.int .i64 0]:=by
 obtain⟨h1,h2,h3⟩:=eh (JO Re) gv []
 have hw:=nX
 unfold qU at hw
 rw[if_pos Re,if_pos gv] at hw
 rw[hw,List.append_nil] at h1 h2 h3
 unfold kK Zd em ej
 simp only[Re,p5,if_true,h1,h2,h3]
 rfl
attribute [local irreducible] IntKind.wrap Ai Option.getD and or
theorem NW:BR E0 Ju [] (.tup [DJ Z2,.list false (Aa la)]):=by
 have c1:=NX
 refine AM Nl Af (by simp) fun hwf=>?_
 rw[AQ];unfold IK
 (try (simp -implicitDefEqProofs only[go_sem,Au,Aq]));repeat' first|(with_reducible first|exact tI|refine aI ?_ ?_|intro _)|((first|with_reducible refine AJ ?_ ?_<;>intro _|(with_reducible refine isCall ?_);first|refine AE c1 ?_)<;>try (simp -implicitDefEqProofs only[go_sem,Au,Aq]))|simp (disch:=omega) only[Ad]
 all_goals first|rfl|skip
theorem Pv:BR E0 MM [] (.bool true):=by
 have c1:=NW
 have c2:=N5 Z2 false [1]
 have c3:=PB Z2 false la
 have c4:=N6 Z2
 have c5:=E3 false false la la
 rw[decide_eq_true rfl] at c5
 have e1:rZ Z2 [1]=0:=by unfold rZ;rw[if_pos Re,if_pos gv]
 have e2:=(JC Re).2
 rw[nX,e1] at c2
 rw[gu] at c3
 rw[p6,e2] at c4
 obtain⟨W,hW⟩:∃W,la=W:=⟨_,rfl⟩
 have hWe:la.isEmpty=false:=rfl
 rw[hWe] at c2
 rw[hW] at c1 c2 c3 c5
 refine AM P7 Af (by simp) fun hwf=>?_
 rw[AQ];unfold KU
 have hc:DJ Z2=.agg (W8 Z2):=rfl
 (try (simp -implicitDefEqProofs only[go_sem,AP,AO,PL]));repeat' first|(with_reducible first|exact tI|refine aI ?_ ?_|intro _)|((first|with_reducible refine AJ ?_ ?_<;>intro _|(with_reducible refine isCall ?_);first|refine AE c1 ?_|refine AE c2 ?_|refine AE c3 ?_|refine AE c4 ?_|refine AE c5 ?_)<;>try (simp -implicitDefEqProofs only[go_sem,AP,AO,PL]))|simp (disch:=omega) only[Ad]
 all_goals first|rfl|omega|(exfalso;rename_i h;exact h rfl)|skip
theorem JU (c:AX):BR E0 MF [DJ c] (.int .i64 (Oq c)):=by
 have c1:=Pt c.code
 have c2:=Fw c.L c.P c.Q
 have c4:=Og c.nm c.mark
 have c5:=Fh c.seed 1 127
 have c6:=Fh c.errs 0 16
 have e1:c.code.ok=false->Kk c.code.ok 40=40:=fun h=>by rw[h];rfl
 have e0:c.code.ok=true->Kk c.code.ok 40=0:=fun h=>by rw[h];rfl
 have no:(c.code.ok && (CL c.L c.P c.Q && (decide (c.Q*c.L<=32) && (CE c.mark && (B_ c.seed 1 127 && B_ c.errs 0 16)))))=false->Oq c=130:=fun h=>(Hn (by
  unfold AX.ok
  cases h1:c.code.ok<;>cases h2:CL c.L c.P c.Q<;>cases h3:decide (c.Q*c.L<=32)<;>cases h4:CE c.mark<;>cases h5:B_ c.seed 1 127<;>cases h6:B_ c.errs 0 16<;>simp_all)).2
 refine AM P0 Af (by simp) fun hwf=>?_
 rw[AQ];unfold KM
 cases h1:c.code.ok with
 |false =>
  rw[no (by simp only[h1,Bool.false_and])];rw[e1 h1] at c1
  (try (simp -implicitDefEqProofs only[go_sem,AP,AO]));repeat' first|(with_reducible first|exact tI|refine aI ?_ ?_|intro _)|((first|with_reducible refine AJ ?_ ?_<;>intro _|(with_reducible refine isCall ?_);first|refine AE c1 ?_)<;>try (simp -implicitDefEqProofs only[go_sem,AP,AO]))|simp (disch:=omega) only[Ad]|((with_reducible apply Ab);exact rfl)
  all_goals first|rfl|skip
 |true =>
 rw[e0 h1] at c1
 cases h2:CL c.L c.P c.Q with
 |false =>
  rw[no (by simp only[h1,h2,Bool.true_and,Bool.false_and])];rw[h2] at c2;simp only[Bool.false_eq_true,if_false] at c2
  (try (simp -implicitDefEqProofs only[go_sem,AP,AO]));repeat' first|(with_reducible first|exact tI|refine aI ?_ ?_|intro _)|((first|with_reducible refine AJ ?_ ?_<;>intro _|(with_reducible refine isCall ?_);first|refine AE c1 ?_|refine AE c2 ?_)<;>try (simp -implicitDefEqProofs only[go_sem,AP,AO]))|simp (disch:=omega) only[Ad]|((with_reducible apply Ab);exact rfl)
  all_goals first|rfl|skip
 |true =>
 rw[h2] at c2;simp only[if_true] at c2
 have c3:=Cu c h2
 by_cases h3:c.Q*c.L<=32
 ·have h3':¬32<c.Q*c.L:=by omega
  cases h4:CE c.mark with
  |false =>
   rw[no (by simp only[h1,h2,h4,Bool.true_and,Bool.false_and,Bool.and_false])];rw[h4] at c4
   (try (simp -implicitDefEqProofs only[go_sem,AP,AO,h3']));repeat' first|(with_reducible first|exact tI|refine aI ?_ ?_|intro _)|((first|with_reducible refine AJ ?_ ?_<;>intro _|(with_reducible refine isCall ?_);first|refine AE c1 ?_|refine AE c2 ?_|refine AE c3 ?_|refine AE c4 ?_)<;>try (simp -implicitDefEqProofs only[go_sem,AP,AO,h3']))|simp (disch:=omega) only[Ad]|((with_reducible apply Ab);exact rfl)
   all_goals first|rfl|skip
  |true =>
  rw[h4] at c4
  cases h5:B_ c.seed 1 127 with
  |false =>
   rw[no (by simp only[h1,h2,h4,h5,Bool.true_and,Bool.false_and,Bool.and_false])];rw[h5] at c5
   (try (simp -implicitDefEqProofs only[go_sem,AP,AO,h3']));repeat' first|(with_reducible first|exact tI|refine aI ?_ ?_|intro _)|((first|with_reducible refine AJ ?_ ?_<;>intro _|(with_reducible refine isCall ?_);first|refine AE c1 ?_|refine AE c2 ?_|refine AE c3 ?_|refine AE c4 ?_|refine AE c5 ?_)<;>try (simp -implicitDefEqProofs only[go_sem,AP,AO,h3']))|simp (disch:=omega) only[Ad]|((with_reducible apply Ab);exact rfl)
   all_goals first|rfl|skip
  |true =>
  rw[h5] at c5
  cases h6:B_ c.errs 0 16 with
  |false =>
   rw[no (by simp only[h1,h2,h4,h5,h6,Bool.true_and,Bool.false_and,Bool.and_false])];rw[h6] at c6
   (try (simp -implicitDefEqProofs only[go_sem,AP,AO,h3']));repeat' first|(with_reducible first|exact tI|refine aI ?_ ?_|intro _)|((first|with_reducible refine AJ ?_ ?_<;>intro _|(with_reducible refine isCall ?_);first|refine AE c1 ?_|refine AE c2 ?_|refine AE c3 ?_|refine AE c4 ?_|refine AE c5 ?_|refine AE c6 ?_)<;>try (simp -implicitDefEqProofs only[go_sem,AP,AO,h3']))|simp (disch:=omega) only[Ad]|((with_reducible apply Ab);exact rfl)
   all_goals first|rfl|skip
  |true =>
  rw[h6] at c6
  have hok:Ib c.code 16=true->Oq c=0:=fun h=>(JC (by
   unfold AX.ok;rw[h1,h2,decide_eq_true h3,h4,h5,h6,h];simp only[Bool.and_self])).2
  have hnok:Ib c.code 16=false->Oq c=130:=fun h=>(Hn (by
   unfold AX.ok;rw[h,Bool.and_false,Bool.and_false,Bool.and_false,Bool.and_false,Bool.and_false,Bool.and_false])).2
  (try (simp -implicitDefEqProofs only[go_sem,AP,AO,h3']));repeat' first|(with_reducible first|exact tI|refine aI ?_ ?_|intro _)|((first|with_reducible refine AJ ?_ ?_<;>intro _|(with_reducible refine isCall ?_);first|refine AE c1 ?_|refine AE c2 ?_|refine AE c3 ?_|refine AE c4 ?_|refine AE c5 ?_|refine AE c6 ?_)<;>try (simp -implicitDefEqProofs only[go_sem,AP,AO,h3']))|simp (disch:=omega) only[Ad]|((with_reducible apply Ab);exact rfl)
  all_goals first|omega|(simp<;>omega)|skip
  refine AU (α:=Nat) (l0:=?l1) (m0:=?m1) (fun x=>[(3,.d (.int .i64 (x:Int)))]) (fun x=>[]) (fun x=>x<=16/\Ib c.code x=true) (fun x=>16-x) 0 ?h01 ?he1 ?he21 ?hI1 ?step1
  case h01=>(simp -implicitDefEqProofs only[go_sem];rfl)
  case he1=>rfl
  case he21=>rfl
  case' step1=>(rintro s hI;try dsimp only at hI)
  case' hI1=>try dsimp only
  ·exact⟨Nat.zero_le _,rfl⟩
  ·obtain⟨i1,i2⟩:=hI
   by_cases hs:s<16
   ·have hs':(s:Int)<16:=by omega
    have hws:IntKind.i64.wrap ((s:Int)+1)=((s+1:Nat):Int):=by rw[AZ _ (by omega)];omega
    have cs:=Fi c h1 s hs
    (try (simp -implicitDefEqProofs only[go_sem,hs']));repeat' first|(with_reducible first|exact tI|refine aI ?_ ?_|intro _|refine AJ ?_ ?_<;>intro _<;>try simp -implicitDefEqProofs only[go_sem,hs'])|simp (disch:=omega) only[Ad]|((with_reducible apply Ab);exact rfl)
    all_goals first|omega|(simp<;>omega)|skip
    refine AU (α:=Nat) (l0:=?l2) (m0:=?m2) (fun x=>[(4,.d (.int .i64 (x:Int)))]) (fun x=>[]) (fun x=>x<=s/\∀j,j<x->c.code.stm j≠c.code.stm s) (fun x=>s-x) 0 ?h02 ?he2 ?he22 ?hI2 ?step2
    case h02=>(simp -implicitDefEqProofs only[go_sem];rfl)
    case he2=>rfl
    case he22=>rfl
    case' step2=>(rintro k hI2;try dsimp only at hI2)
    case' hI2=>try dsimp only
    ·exact⟨Nat.zero_le _,fun j hj=>by omega⟩
    ·obtain⟨k1,k2⟩:=hI2
     by_cases hk:k<s
     ·have hk':(k:Int)<(s:Int):=by omega
      have hwk:IntKind.i64.wrap ((k:Int)+1)=((k+1:Nat):Int):=by rw[AZ _ (by omega)];omega
      have ck:=Fi c h1 k (by omega)
      have c8:=E3 false false (c.code.stm s) (c.code.stm k)
      by_cases he:c.code.stm k=c.code.stm s
      ·rw[decide_eq_true he.symm] at c8
       rw[hnok (iG hs hk he)]
       (try (simp -implicitDefEqProofs only[go_sem,AP,AO,hk']));repeat' first|(with_reducible first|exact tI|refine aI ?_ ?_|intro _)|((first|with_reducible refine AJ ?_ ?_<;>intro _|(with_reducible refine isCall ?_);first|refine AE cs ?_|refine AE ck ?_|refine AE c8 ?_)<;>try (simp -implicitDefEqProofs only[go_sem,AP,AO,hk']))|simp (disch:=omega) only[Ad]|((with_reducible apply Ab);exact rfl)
       all_goals first|omega|(simp<;>omega)|skip
       all_goals first|rfl|skip
      ·rw[decide_eq_false fun e=>he e.symm] at c8
       (try (simp -implicitDefEqProofs only[go_sem,AP,AO,hk',hwk]));repeat' first|(with_reducible first|exact tI|refine aI ?_ ?_|intro _)|((first|with_reducible refine AJ ?_ ?_<;>intro _|(with_reducible refine isCall ?_);first|refine AE cs ?_|refine AE ck ?_|refine AE c8 ?_)<;>try (simp -implicitDefEqProofs only[go_sem,AP,AO,hk',hwk]))|simp (disch:=omega) only[Ad]|((with_reducible apply Ab);exact rfl)
       all_goals first|omega|(simp<;>omega)|skip
       rename_i j hj
       by_cases e:j=k
       ·rw[e];exact he
       ·exact k2 j (by omega)
     ·have hk':¬(k:Int)<(s:Int):=by omega
      have hds:=Wo i2 fun j hj=>k2 j (by omega)
      (try (simp -implicitDefEqProofs only[go_sem,hk',hws]));repeat' first|(with_reducible first|exact tI|refine aI ?_ ?_|intro _|refine AJ ?_ ?_<;>intro _<;>try simp -implicitDefEqProofs only[go_sem,hk',hws])|simp (disch:=omega) only[Ad]|((with_reducible apply Ab);exact rfl)
      all_goals first|omega|(simp<;>omega)|skip
      all_goals first|rfl|skip
   ·have hs16:s=16:=by omega
    subst hs16
    rw[hok i2]
    (try (simp -implicitDefEqProofs only[go_sem]));repeat' first|(with_reducible first|exact tI|refine aI ?_ ?_|intro _|refine AJ ?_ ?_<;>intro _<;>try simp -implicitDefEqProofs only[go_sem])|simp (disch:=omega) only[Ad]|((with_reducible apply Ab);exact rfl)
    all_goals first|omega|(simp<;>omega)|skip
    all_goals first|rfl|skip
 ·have h3':32<c.Q*c.L:=by omega
  rw[no (by rw[decide_eq_false h3];simp only[h1,h2,Bool.true_and,Bool.false_and])]
  (try (simp -implicitDefEqProofs only[go_sem,AP,AO,h3']));repeat' first|(with_reducible first|exact tI|refine aI ?_ ?_|intro _)|((first|with_reducible refine AJ ?_ ?_<;>intro _|(with_reducible refine isCall ?_);first|refine AE c1 ?_|refine AE c2 ?_|refine AE c3 ?_)<;>try (simp -implicitDefEqProofs only[go_sem,AP,AO,h3']))|simp (disch:=omega) only[Ad]|((with_reducible apply Ab);exact rfl)
  all_goals first|rfl|skip
end
section
def Yj (c:AX):Bool:=c.code.far || (decide (40<(c.mark.length:Int)) || (decide (8<c.Q) || (decide (15<c.L) || (c.ok && decide (8<c.Q*c.L)))))
def se (c:AX) (d:List Int):Bool:=!Yj c && (c.ok && (decide (d.length<=100) && Bl d (c.Q*(c.L-c.P))))
structure tJ (c:AX) (d:List Int):Prop where
 ok:c.ok=true
 nf:Yj c=false
 len:d.length<=100
 sym:Bl d (c.Q*(c.L-c.P))=true
def sa (out:List Int) (f:Int):List Int:=if 0<=f/\f<out.length then out.set f.toNat (1-out[f.toNat]?.getD 0) else out
def sZ (out fl:List Int):List Int:=fl.foldl sa out
attribute [local irreducible] IntKind.wrap Ai Option.getD and or
theorem Sj (c:AX):BR E0 Pm [DJ c] (.bool (Yj c)):=by
 have c1:=Sk c.code
 have c2:=JU c
 refine AM Sq Af (by simp) fun hwf=>?_
 rw[AQ];unfold NO Yj
 obtain⟨fr,hfr⟩:∃fr,c.code.far=fr:=⟨_,rfl⟩
 rw[hfr] at c1 ⊢
 clear hfr
 rcases hok:c.ok with _|_
 ·rw[(Hn hok).2] at c2
  cases fr with
  |true =>
   (try (simp -implicitDefEqProofs only[go_sem,AP,AO]));repeat' first|(with_reducible first|exact tI|refine aI ?_ ?_|intro _)|((first|with_reducible refine AJ ?_ ?_<;>intro _|(with_reducible refine isCall ?_);first|refine AE c1 ?_|refine AE c2 ?_)<;>try (simp -implicitDefEqProofs only[go_sem,AP,AO]))|simp (disch:=omega) only[Ad]
   all_goals first|rfl|(simp only[Bool.true_or];done)|skip
  |false =>
   (try (simp -implicitDefEqProofs only[go_sem,AP,AO]));repeat' first|(with_reducible first|exact tI|refine aI ?_ ?_|intro _)|((first|with_reducible refine AJ ?_ ?_<;>intro _|(with_reducible refine isCall ?_);first|refine AE c1 ?_|refine AE c2 ?_)<;>try (simp -implicitDefEqProofs only[go_sem,AP,AO]))|simp (disch:=omega) only[Ad]
   all_goals first|rfl|(congr 1;symm;simp;omega)|skip
 ·rw[(JC hok).2] at c2
  have c3:=Cu c (JO hok).wev
  cases fr with
  |true =>
   (try (simp -implicitDefEqProofs only[go_sem,AP,AO]));repeat' first|(with_reducible first|exact tI|refine aI ?_ ?_|intro _)|((first|with_reducible refine AJ ?_ ?_<;>intro _|(with_reducible refine isCall ?_);first|refine AE c1 ?_|refine AE c2 ?_|refine AE c3 ?_)<;>try (simp -implicitDefEqProofs only[go_sem,AP,AO]))|simp (disch:=omega) only[Ad]
   all_goals first|rfl|(simp only[Bool.true_or];done)|skip
  |false =>
   (try (simp -implicitDefEqProofs only[go_sem,AP,AO]));repeat' first|(with_reducible first|exact tI|refine aI ?_ ?_|intro _)|((first|with_reducible refine AJ ?_ ?_<;>intro _|(with_reducible refine isCall ?_);first|refine AE c1 ?_|refine AE c2 ?_|refine AE c3 ?_)<;>try (simp -implicitDefEqProofs only[go_sem,AP,AO]))|simp (disch:=omega) only[Ad]
   all_goals first|rfl|(congr 1;symm;simp;omega)|skip
end
section
def r_ (c:AX) (a b:List Int) (i:Nat):Nat:=if c.part a 0 i=c.part b 0 i then 0 else 1
def s5 (c:AX) (a b:List Int) (n:Nat):List Int:=(List.range c.Q.toNat).map fun k=>((Ls (r_ c a b) c.Q.toNat n k:Nat):Int)
def bq (c:AX) (bits:List Int):D:=.tup [.int .i64 (match c.find bits with|some a=>(a:Int)|none=>0),.bool (c.find bits).isSome]
attribute [local irreducible] IntKind.wrap Ai Option.getD and or
theorem NN (nl:Bool) (xs:List Int):BR E0 Js [.list nl (Aa xs)] (.bool (Dr xs)):=by
 have c1:=E4 nl xs
 refine AM Ni Af (by simp) fun hwf=>?_
 rw[AQ];unfold IH Dr
 obtain⟨sb,hsb⟩:∃sb,Al xs=sb:=⟨_,rfl⟩
 rw[hsb] at c1 ⊢
 by_cases hl:xs.length<=1000
 ·have hl':(xs.length:Int)<=1000:=by omega
  (try (simp -implicitDefEqProofs only[go_sem,hl']));repeat' first|(with_reducible first|exact tI|refine aI ?_ ?_|intro _)|((first|with_reducible refine AJ ?_ ?_<;>intro _|(with_reducible refine isCall ?_);first|refine AE c1 ?_)<;>try (simp -implicitDefEqProofs only[go_sem,hl']))|simp (disch:=omega) only[Ad]
  all_goals first|rfl|(rename_i h;rw[h];simp[hl];done)|skip
 ·have hl':¬(xs.length:Int)<=1000:=by omega
  (try (simp -implicitDefEqProofs only[go_sem,hl']));repeat' first|(with_reducible first|exact tI|refine aI ?_ ?_|intro _)|((first|with_reducible refine AJ ?_ ?_<;>intro _|(with_reducible refine isCall ?_);first|refine AE c1 ?_)<;>try (simp -implicitDefEqProofs only[go_sem,hl']))|simp (disch:=omega) only[Ad]
  all_goals first|rfl|(simp[hl];done)|skip
theorem RD (c:AX) (hk:HJ c) (nb:Bool) (bits:List Int) (hb:bits.length<=1000):BR E0 OC [DJ c,.list nb (Aa bits)] (bq c bits):=by
 have hm:=hk.markl
 have ht:=hk.tot
 have c1:=Pq c hk.wev hk.code (by omega)
 refine AM Rq Af (by simp) fun hwf=>?_
 rw[AQ];unfold Ly
 (try (simp -implicitDefEqProofs only[go_sem,AP,AO]));repeat' first|(with_reducible first|exact tI|refine aI ?_ ?_|intro _|refine AJ ?_ ?_<;>intro _<;>try simp -implicitDefEqProofs only[go_sem,AP,AO])|simp (disch:=omega) only[Ad]|((with_reducible apply Ab);exact rfl)
 all_goals first|omega|(simp<;>omega)|skip
 refine AU (α:=Nat) (l0:=?l1) (m0:=?m1) (fun x=>[(6,.d (.int .i64 (x:Int)))]) (fun x=>[]) (fun x=>x<=bits.length+1/\∀j,j<x->c.errs<B' c.mark (bits.drop j)) (fun x=>bits.length+1-x) 0 ?h01 ?he1 ?he21 ?hI1 ?step1
 case h01=>(simp -implicitDefEqProofs only[go_sem];rfl)
 case he1=>rfl
 case he21=>rfl
 case' step1=>(rintro a hI;try dsimp only at hI)
 case' hI1=>try dsimp only
 ·exact⟨Nat.zero_le _,fun j hj=>by omega⟩
 ·obtain⟨i1,i2⟩:=hI
  have w1:IntKind.i64.wrap ((a:Int)+(c.tot:Int))=((a+c.tot:Nat):Int):=by rw[AZ _ (by omega)];omega
  have w3:IntKind.i64.wrap ((a:Int)+1)=((a+1:Nat):Int):=by rw[AZ _ (by omega)];omega
  by_cases ha:a+c.tot<=bits.length
  ·have g1:((a+c.tot:Nat):Int)<=(bits.length:Int):=by omega
   have htm:c.mark.length<=c.tot:=by unfold AX.tot;omega
   have c2:=MY c.nm nb c.mark bits (a:Int) (by omega) (by omega) (by omega) (by omega)
   rw[Int.toNat_natCast] at c2
   by_cases hd:B' c.mark (bits.drop a)<=c.errs
   ·have hf:=WW i2 ha hd
    have hr:bq c bits=.tup [.int .i64 (a:Int),.bool true]:=by unfold bq;rw[hf];rfl
    rw[hr]
    (try (simp -implicitDefEqProofs only[go_sem,AP,AO,w1,g1,hd]));repeat' first|(with_reducible first|exact tI|refine aI ?_ ?_|intro _)|((first|with_reducible refine AJ ?_ ?_<;>intro _|(with_reducible refine isCall ?_);first|refine AE c1 ?_|refine AE c2 ?_)<;>try (simp -implicitDefEqProofs only[go_sem,AP,AO,w1,g1,hd]))|simp (disch:=omega) only[Ad]|((with_reducible apply Ab);exact rfl)
    all_goals first|omega|(simp<;>omega)|skip
    all_goals first|rfl|skip
   ·(try (simp -implicitDefEqProofs only[go_sem,AP,AO,w1,g1,hd,w3]));repeat' first|(with_reducible first|exact tI|refine aI ?_ ?_|intro _)|((first|with_reducible refine AJ ?_ ?_<;>intro _|(with_reducible refine isCall ?_);first|refine AE c1 ?_|refine AE c2 ?_)<;>try (simp -implicitDefEqProofs only[go_sem,AP,AO,w1,g1,hd,w3]))|simp (disch:=omega) only[Ad]|((with_reducible apply Ab);exact rfl)
    all_goals first|omega|(simp<;>omega)|skip
    rename_i j hj
    by_cases e:j=a
    ·rw[e];omega
    ·exact i2 j (by omega)
  ·have g1:¬((a+c.tot:Nat):Int)<=(bits.length:Int):=by omega
   have hf:=WV i2 ha
   have hr:bq c bits=.tup [.int .i64 0,.bool false]:=by unfold bq;rw[hf];rfl
   rw[hr]
   (try (simp -implicitDefEqProofs only[go_sem,AP,AO,w1,g1]));repeat' first|(with_reducible first|exact tI|refine aI ?_ ?_|intro _)|((first|with_reducible refine AJ ?_ ?_<;>intro _|(with_reducible refine isCall ?_);first|refine AE c1 ?_)<;>try (simp -implicitDefEqProofs only[go_sem,AP,AO,w1,g1]))|simp (disch:=omega) only[Ad]|((with_reducible apply Ab);exact rfl)
   all_goals first|omega|(simp<;>omega)|skip
   all_goals first|rfl|skip
end
section
attribute [local irreducible] IntKind.wrap Ai Option.getD and or
end
end Go.Pw
