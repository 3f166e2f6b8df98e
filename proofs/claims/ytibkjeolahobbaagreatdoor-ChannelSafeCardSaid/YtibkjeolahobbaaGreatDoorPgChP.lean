/- A part of the proof. -/
import Derived.Test.YtibkjeolahobbaaGreatDoorPgChJ
import Derived.Test.YtibkjeolahobbaaGreatDoorPgChrEnc
import Derived.Test.YtibkjeolahobbaaGreatDoorPgChL
set_option linter.all false
section
open Go Go.Pw
namespace Go.Pw
set_option linter.unusedSimpArgs false
set_option linter.unusedVariables false
theorem Zw {L P:Nat} (hL:L≤15) {w r c:List F} {mk:List Nat} (hw:w.length=L) (h2:r.length=L) (hc:c.length=L) (hm:XJ L mk) (h1:eP L P r) (hcode:eP L P c) (h:mk.length+(L3 L r w mk).length+(L3 L c w mk).length≤P):r=c:=by
 have hs:=Mz L c w mk
 have hs2:=Mz L r w mk
 obtain⟨at_,hat⟩:∃at_,mk++((L3 L r w mk)++(L3 L c w mk).filter fun j=>!(L3 L r w mk).contains j)=at_:=⟨_,rfl⟩
 refine Ry hL (at_:=at_) h2 hc ?_ ?_ h1 hcode fun j hj=>?_
 ·rw [←hat]
  refine⟨List.nodup_append.2 ⟨D4 hm.asc,List.nodup_append.2 ⟨D4 hs2.asc,(D4 hs.asc).filter _,fun a ha b hb e=>?_⟩,fun a ha b hb e=>?_⟩,fun j hj=>?_⟩
  ·simp at hb;exact hb.2 (e ▸ ha)
  ·subst e
   rcases List.mem_append.1 hb with hb|hb
   ·exact hs2.un a hb ha
   ·exact hs.un a (List.mem_filter.1 hb).1 ha
  ·rcases List.mem_append.1 hj with hj|hj
   ·exact hm.lt j hj
   ·rcases List.mem_append.1 hj with hj|hj
    ·exact hs2.lt j hj
    ·exact hs.lt j (List.mem_filter.1 hj).1
 ·rw [←hat]
  have:=List.length_filter_le (fun j=>!(L3 L r w mk).contains j) (L3 L c w mk)
  simp only [List.length_append]
  omega
 ·rw [←hat] at hj
  simp only [List.mem_append,not_or,List.mem_filter] at hj
  obtain⟨j1,j2,j3⟩:=hj
  have j4:j∉L3 L c w mk:=fun hh=>j3 ⟨hh,by simpa using j2⟩
  exact(M0 h2 hw (fun e=>(List.mem_append.1 e).elim j1 j2)).trans (M0 hc hw (fun e=>(List.mem_append.1 e).elim j1 j4)).symm
theorem Wp {L P:Nat} (hL:L≤15) {w R r:List F} {mk:List Nat} (hw:w.length=L) (hR:R.length=L) (hm:XJ L mk) (hcod:eP L P w) (hd:MA L P R mk=some r) (h:(L3 L w R mk).length+mk.length+P / 2≤P):r=w:=by
 obtain⟨h1,h2,h3⟩:=M1 hR hm hd
 exact Zw hL hR h2 hw hm h1 hcod (by omega)
theorem UR {l p q:Nat} (hl:l≤15) (hpl:p < l) (hq:0 < q) {d R:List F} {ms:List Nat} (hd:d.length=(l - p) * q) (hR:R.length=l * q) (hm:XJ (l * q) ms)
  (h:∀k,k < q→(L3 l (GD p (CH (l - p) q k d)) (CH l q k R) (OU q k ms)).length+(OU q k ms).length+p / 2≤p):We l p q R ms=some d∨We l p q R ms=none:=by
 by_cases ha:∀k,k < q→(Xs l p q R ms k).isSome=true
 ·left
  have hO:∀k,k < q→Xs l p q R ms k=some (GD p (CH (l - p) q k d)):=fun k hk=>by
   have hl1:=CN (l - p) q k d
   have hc:=U1 p (CH (l - p) q k d)
   rw [hl1,show l - p+p=l by omega] at hc
   cases hg:Xs l p q R ms k with
   |none=>have:=ha k hk;rw [hg] at this;cases this
   |some r =>
    congr 1
    exact Wp hl (by rw [G3,hl1];omega) (CN ..) (Si hq hm) hc hg (h k hk)
  rw [Wd ha]
  congr 1
  rw [QT hq (V:=fun k=>CH (l - p) q k d) fun k hk=>by
   rw [Mt (hO k hk)]
   unfold GD
   rw [List.take_append_of_le_length (by rw [CN];omega),List.take_of_length_le (by rw [CN];omega)]]
  exact VG hq hd
 ·right
  unfold We;rw [if_neg ha]
theorem X1 (f g:Nat→Nat) (q:Nat):∀n k,DY f q n k+DY g q n k=DY (fun i=>f i+g i) q n k
 |0,_=>rfl
 |n+1,k=>by
  have ih:=X1 f g q n k
  show DY f q n k+(if n % q=k then f n else 0)+(DY g q n k+(if n % q=k then g n else 0))=DY (fun i=>f i+g i) q n k+(if n % q=k then f n+g n else 0)
  rw [←ih];split<;>omega
theorem Yn {c:AX} (hk:GL c) {l p q:Nat} {e:List F} (h1:c.L=(l:Int)) (h2:c.P=(p:Int)) (h3:c.Q=(q:Int)) (b2:l≤15) (b5:p < l) (b6:1≤q) (he:e.length=(l - p) * q) (hs:c.syms=l * q)
  {sy:List (Option Nat)} (hl:sy.length=c.syms) {f:Nat→Nat}
  (hf:∀i,i < l * q→sy[i]?.getD none≠some ((Ck c.seed (iv (RM l p q e)))[i]?.getD 0).toNat→1≤f i)
  (hc:∀k,k < q→DY f q (l * q) k+p / 2≤p):(Ql c sy=0∧Ug c sy=iv e)∨Ql c sy=52:=by
 obtain⟨g1,g2⟩:=cg hk h1 h2 h3 hs hl
 have hBl:(RM l p q e).length=l * q:=SL ..
 have hrl:(fs (Ck c.seed (MR sy))).length=l * q:=by rw [So,Db,E2,hl,hs]
 obtain⟨mB,hmB⟩:∃mB:Nat→Bool,mB=fun i=>(sy[i]?.getD none).isNone:=⟨_,rfl⟩
 obtain⟨wB,hwB⟩:∃wB:Nat→Bool,wB=fun i=>decide (sy[i]?.getD none≠some ((Ck c.seed (iv (RM l p q e)))[i]?.getD 0).toNat) && !mB i:=⟨_,rfl⟩
 have hmk:Y6 sy=(List.range (l * q)).filter mB:=by rw [hmB];unfold Y6;rw [hl,hs]
 have key:=UR (l:=l) (p:=p) (q:=q) (R:=fs (Ck c.seed (MR sy))) (ms:=(List.range (l * q)).filter mB) b2 b5 (by omega) he hrl (Pv mB _) fun k hkq=>by
  have d1:=Xz (a:=[]) (wB:=wB) (mB:=mB) (R:=fs (Ck c.seed (MR sy))) (W:=fun k=>GD p (CH (l - p) q k e)) (l:=l) hkq fun j hj hne hmj=>by
   have hlt:=QA hkq hj
   have h4:(RM l p q e)[j * q+k]?.getD 0=(GD p (CH (l - p) q k e))[j]?.getD 0:=by
    unfold RM
    rw [NS _ hlt,S4 hkq,P' hkq]
   rw [hwB]
   simp only [hmj,Bool.not_false,Bool.and_true,decide_eq_true_eq]
   intro hs2
   have hx:0≤(Ck c.seed (iv (RM l p q e)))[j * q+k]?.getD 0:=(H9 _ _ _ (Df (by rw [Db,I8,hBl];exact hlt))).1
   exact hne (h4.symm.trans (bG (by omega) (by omega) hs2 (by omega)).symm)
  have d2:=Sj mB (q:=q) k (l * q)
  have d3:DY f q (l * q) k≥Oi (fun i=>if wB i then 1 else 0) q l k+DY (fun i=>if mB i then 1 else 0) q (l * q) k:=by
   rw [←PG _ hkq,X1]
   refine QN (fun i hi=>?_) k
   by_cases hw:sy[i]?.getD none=some ((Ck c.seed (iv (RM l p q e)))[i]?.getD 0).toNat
   ·have:mB i=false:=by rw [hmB];simp only [hw];rfl
    have h5:wB i=false:=by rw [hwB];simp [hw]
    rw [this,h5];simp
   ·have:=hf i hi hw
    cases hm:mB i with
    |true =>
     have h5:wB i=false:=by rw [hwB];simp [hm]
     rw [h5];simpa using this
    |false=>simp only [Bool.false_eq_true,if_false,Nat.add_zero];split<;>omega
  have:=hc k hkq
  omega
 rw [g1,g2,hmk]
 rcases key with h|h
 ·left;rw [h];exact⟨rfl,rfl⟩
 ·right;rw [h];rfl
end Go.Pw
end
section
open Go Go.Pw
namespace Go.Pw
set_option linter.unusedSimpArgs false
set_option linter.unusedVariables false
theorem dp {c:AX} (hk:GL c) {b:List Int} (hb:b.length=c.syms) {R:List Int} {i:Nat} (hi:i < c.syms) (h:(c.syL R 0)[i]?.getD none≠some ((Ck c.seed b)[i]?.getD 0).toNat):Gj c (I3 c b) R i=1:=by
 unfold Gj
 rw [if_neg]
 intro he
 have h1:=bB hk hb [] hi
 rw [List.append_nil,Vl hi,he,←Vl hi] at h1
 exact h h1
theorem X0 (f:Nat→Nat) (q:Nat):∀n k,DY (fun i=>2 * f i) q n k=2 * DY f q n k
 |0,_=>rfl
 |n+1,k=>by
  have ih:=X0 f q n k
  show DY (fun i=>2 * f i) q n k+(if n % q=k then 2 * f n else 0)=2 * (DY f q n k+(if n % q=k then f n else 0))
  rw [ih];split<;>omega
theorem Yh {c:AX} (hk:GL c) {d:List Int} (he:spE c.L c.P c.Q d=0) {R:List Int}
  {n:Nat} (hn:∀k,k < c.Q.toNat→DY (Gj c (I3 c (TN c.L c.P c.Q d)) R) c.Q.toNat c.syms k≤n) :
  (2 * n≤c.P.toNat→Ql c (c.syL R 0)=0∧Ug c (c.syL R 0)=d)∧(n+c.P.toNat / 2≤c.P.toNat→(Ql c (c.syL R 0)=0∧Ug c (c.syL R 0)=d)∨Ql c (c.syL R 0)=52):=by
 have hbl:=O8 hk.wev he
 obtain⟨l,p,q,e,h1,h2,h3,b1,b2,b3,b4,b5,b6,b7,rfl,hel,hsp,hs⟩:=XV hk he
 have hq:c.Q.toNat=q:=by rw [h3];rfl
 have hp:c.P.toNat=p:=by rw [h2];rfl
 rw [hq] at hn
 rw [hp]
 refine⟨fun h=>?_,fun h=>?_⟩
 ·refine UG hk h1 h2 h3 b2 b5 b6 hel hs (K7 ..) (f:=fun i=>2 * Gj c (I3 c (TN c.L c.P c.Q (iv e))) R i) (fun i hi hne=>?_) fun k hkq=>?_
  ·rw [hsp] at hbl ⊢
   rw [dp hk hbl (by omega) hne];split<;>omega
  ·rw [X0,←hs]
   have:=hn k hkq;omega
 ·refine Yn hk h1 h2 h3 b2 b5 b6 hel hs (K7 ..) (f:=Gj c (I3 c (TN c.L c.P c.Q (iv e))) R) (fun i hi hne=>?_) fun k hkq=>?_
  ·rw [hsp] at hbl ⊢
   rw [dp hk hbl (by omega) hne];omega
  ·rw [←hs]
   have:=hn k hkq;omega
end Go.Pw
end
section
open Go Go.Pw Go.Proofs
namespace Go.Pw
set_option linter.unusedSimpArgs false
set_option linter.unusedVariables false
set_option maxRecDepth 100000
set_option maxHeartbeats 3200000
theorem gj {c:AX} (hk:GL c) {sy:List (Option Nat)} (hl:sy.length=c.syms):Ql c sy=0∨Ql c sy=52:=by
 obtain⟨l,p,q,h1,h2,h3,b1,b2,b3,b4,b5,b6,b7,hc⟩:=Ix hk.wev
 have hs:c.syms=l * q:=by
  have:=hk.syms.2.2
  rw [h1,h3] at this
  have e:(q:Int) * (l:Int)=((l * q:Nat):Int):=by push_cast;exact Int.mul_comm ..
  rw [e] at this;omega
 rw [(cg hk h1 h2 h3 hs hl).1]
 cases We l p q (fs (Ck c.seed (MR sy))) (Y6 sy) with
 |none=>exact .inr rfl
 |some r=>exact .inl rfl
theorem fZ {c:AX} (hok:c.ok=true) {R:List Int} (hb:Nq R=true) {a:Nat} (hf:c.find R=some a):UH c R=.tup [.list (Ug c (c.syL R a)).isEmpty (Ai (Ug c (c.syL R a))),.int .i64 (if Ql c (c.syL R a)=0 then (a:Int) else 0),.int .i64 (Ql c (c.syL R a))]:=by
 unfold UH Rc UJ UI
 simp only [hok,hb,if_true,hf]
theorem fc {c:AX} (hok:c.ok=true) {R:List Int} (hb:Nq R=true) (hf:c.find R=none):UH c R=.tup [.list true [],.int .i64 0,.int .i64 3]:=by
 unfold UH Rc UJ UI
 simp only [hok,hb,if_true,hf];rfl
theorem bD {c:AX} (hk:GL c) (b:List Int):Ak (I3 c b)=true:=by
 unfold I3
 refine Ho hk.markl.2.2 ?_
 unfold AX.flat
 generalize Ck c.seed b=X
 induction X with
 |nil=>rfl
 |cons x X ih=>exact Ho (Tj ..) ih
theorem ka {L P m:Int} (hc:DP L P=true) (h0:0≤m) (hf:ZK L P (min m L)=false):m+P / 2≤P:=by
 have hb:=GF hc
 unfold ZK at hf
 rw [hc] at hf
 simp only [Bool.true_and,Bool.and_eq_false_iff,decide_eq_false_iff_not] at hf
 omega
theorem jD {L P m:Int} (hc:DP L P=true) (h0:0≤m):gv L P (min m L)=0:=by
 have hb:=GF hc
 unfold gv
 rw [if_pos hc,if_pos (by omega)]
attribute [local congr] Bh A_ A' Ap Bi Av Ax Aw Ao Ah Ab AZ Ar Ac As BI BM BK BL BJ BN BF Af Au Ag BD BQ Ae BG BH BE BB BC A9 BA Aq Ad
attribute [local irreducible] IntKind.wrap A5 Option.getD and or
theorem O3 (c:AX) (n1 n2 n3:Bool) (d fl rest:List Int):CF E0 Gb [FT c,.agg [.list n1 (Ai d),.list n2 (Ai fl),.list n3 (Ai rest)]] (.bool true):=by
 have c0:=Om
 have c1:=On c n1 d
 refine AO Ju Am (by simp) fun hwf=>?_
 rw [AW];unfold F7
 cases hr:bU c d with
 |false =>
  rw [hr] at c1
  (try (simp -implicitDefEqProofs only [go_sem,AL,AK]));repeat' first|(with_reducible first|exact True.intro|refine And.intro ?_ ?_|intro _)|(((with_reducible refine isCall ?_);first|refine AF (c0) rfl ?_ ?_|refine AE (c0) rfl ?_|refine AB (c0) rfl ?_ ?_|refine AG (c0) rfl rfl ?_|refine AF (c1) rfl ?_ ?_|refine AE (c1) rfl ?_|refine AB (c1) rfl ?_ ?_|refine AG (c1) rfl rfl ?_)<;>try (simp -implicitDefEqProofs only [go_sem,AL,AK]))|(((with_reducible refine AS ?_ ?_)<;>intro _)<;>try (simp -implicitDefEqProofs only [go_sem,AL,AK]))|simp (disch:=omega) only [AC,AH,AP,AJ,AD,AQ,AI,AA]|((with_reducible refine An ?_);refine⟨(_,_),rfl,?_,?_⟩)
  all_goals first|rfl|skip
 |true =>
 rw [hr] at c1
 have r:=jw hr
 have hk:=FU r.ok
 have hm:=hk.markl
 have ht:=r.tot
 have hs:=hk.syms
 by_cases hfl:100 < (fl.length:Int)
 ·(try (simp -implicitDefEqProofs only [go_sem,AL,AK,hfl]));repeat' first|(with_reducible first|exact True.intro|refine And.intro ?_ ?_|intro _)|(((with_reducible refine isCall ?_);first|refine AF (c0) rfl ?_ ?_|refine AE (c0) rfl ?_|refine AB (c0) rfl ?_ ?_|refine AG (c0) rfl rfl ?_|refine AF (c1) rfl ?_ ?_|refine AE (c1) rfl ?_|refine AB (c1) rfl ?_ ?_|refine AG (c1) rfl rfl ?_)<;>try (simp -implicitDefEqProofs only [go_sem,AL,AK,hfl]))|(((with_reducible refine AS ?_ ?_)<;>intro _)<;>try (simp -implicitDefEqProofs only [go_sem,AL,AK,hfl]))|simp (disch:=omega) only [AC,AH,AP,AJ,AD,AQ,AI,AA]|((with_reducible refine An ?_);refine⟨(_,_),rfl,?_,?_⟩)
  all_goals first|rfl|skip
 obtain⟨w1,w2,w3⟩:=r.wr
 have c2:=Hl c n1 d
 rw [w2] at c2
 have hsb:Ak (aM c d)=true:=by rw [w1];exact bD hk _
 obtain⟨S,hS⟩:∃S,aM c d=S:=⟨_,rfl⟩
 rw [hS] at c2 w3 hsb
 have hne:¬S=[]:=fun e=>by rw [e] at w3;have:c.tot=c.mark.length+c.syms * c.code.sz:=rfl;simp at w3;omega
 have hSe:S.isEmpty=false:=Gn hne
 rw [hSe] at c2
 have c3:=JN c hk.wev hk.code (by omega)
 have c4:=Mm false n2 S fl hsb (by omega) hne
 have hRl:=PV fl S
 have hRb:=RJ fl hsb
 obtain⟨R,hR⟩:∃R,PW S fl=R:=⟨_,rfl⟩
 rw [hR] at c4 hRl hRb
 have hRok:Nq R=true:=by unfold Nq;rw [hRb,decide_eq_true (by omega)];simp only [Bool.and_self]
 have c5:=Ic c false R
 have c6:=Pi c hk false R (by omega)
 unfold ZL at c6
 have hlen:(S.length:Int)=(c.tot:Int):=by omega
 cases hf:c.find R with
 |none =>
  rw [hf] at c6
  rw [fc r.ok hRok hf] at c5
  simp only [Option.isSome_none] at c6
  (try (simp -implicitDefEqProofs only [go_sem,AL,AK,hfl,hlen]));repeat' first|(with_reducible first|exact True.intro|refine And.intro ?_ ?_|intro _)|(((with_reducible refine isCall ?_);first|refine AF (c0) rfl ?_ ?_|refine AE (c0) rfl ?_|refine AB (c0) rfl ?_ ?_|refine AG (c0) rfl rfl ?_|refine AF (c1) rfl ?_ ?_|refine AE (c1) rfl ?_|refine AB (c1) rfl ?_ ?_|refine AG (c1) rfl rfl ?_|refine AF (c2) rfl ?_ ?_|refine AE (c2) rfl ?_|refine AB (c2) rfl ?_ ?_|refine AG (c2) rfl rfl ?_|refine AF (c3) rfl ?_ ?_|refine AE (c3) rfl ?_|refine AB (c3) rfl ?_ ?_|refine AG (c3) rfl rfl ?_|refine AF (c4) rfl ?_ ?_|refine AE (c4) rfl ?_|refine AB (c4) rfl ?_ ?_|refine AG (c4) rfl rfl ?_|refine AF (c5) rfl ?_ ?_|refine AE (c5) rfl ?_|refine AB (c5) rfl ?_ ?_|refine AG (c5) rfl rfl ?_|refine AF (c6) rfl ?_ ?_|refine AE (c6) rfl ?_|refine AB (c6) rfl ?_ ?_|refine AG (c6) rfl rfl ?_)<;>try (simp -implicitDefEqProofs only [go_sem,AL,AK,hfl,hlen]))|(((with_reducible refine AS ?_ ?_)<;>intro _)<;>try (simp -implicitDefEqProofs only [go_sem,AL,AK,hfl,hlen]))|simp (disch:=omega) only [AC,AH,AP,AJ,AD,AQ,AI,AA]|((with_reducible refine An ?_);refine⟨(_,_),rfl,?_,?_⟩)
  all_goals first|rfl|skip
 |some a =>
 rw [hf] at c6
 rw [fZ r.ok hRok hf] at c5
 simp only [Option.isSome_some] at c6
 by_cases ha:a=0
 ·subst ha
  have h2:=gj hk (K7 c R 0)
  have key:=fun n hn=>@Yh c hk d r.spE R n hn
  rw [←w1,hS] at key
  obtain⟨E,hE⟩:∃E,Ql c (c.syL R 0)=E:=⟨_,rfl⟩
  obtain⟨G,hG⟩:∃G,Ug c (c.syL R 0)=G:=⟨_,rfl⟩
  rw [hE,hG] at c5 key
  rw [hE] at h2
  rw [show (if E=0 then ((0:Nat):Int) else 0)=0 by split<;>rfl] at c5
  have c7:=Mn c hk false false S R (by omega) (by omega)
  have hcl:=NO c S R c.syms
  have hw:=SC hk.wev
  have hcod:DP c.L c.P=true:=by
   obtain⟨l,p,q,h1,h2,h3,_,_,_,_,_,_,_,hc⟩:=Ix hk.wev
   rw [h1,h2];exact hc
  have wP:IntKind.i64.wrap (c.P.tdiv 2)=c.P / 2:=by rw [Int.tdiv_eq_ediv_of_nonneg (by omega)];exact AC _ (by omega)
  rcases h2 with h2|h2
  ·subst h2
   (try (simp -implicitDefEqProofs only [go_sem,AL,AK,hfl,hlen]));repeat' first|(with_reducible first|exact True.intro|refine And.intro ?_ ?_|intro _)|(((with_reducible refine isCall ?_);first|refine AF (c0) rfl ?_ ?_|refine AE (c0) rfl ?_|refine AB (c0) rfl ?_ ?_|refine AG (c0) rfl rfl ?_|refine AF (c1) rfl ?_ ?_|refine AE (c1) rfl ?_|refine AB (c1) rfl ?_ ?_|refine AG (c1) rfl rfl ?_|refine AF (c2) rfl ?_ ?_|refine AE (c2) rfl ?_|refine AB (c2) rfl ?_ ?_|refine AG (c2) rfl rfl ?_|refine AF (c3) rfl ?_ ?_|refine AE (c3) rfl ?_|refine AB (c3) rfl ?_ ?_|refine AG (c3) rfl rfl ?_|refine AF (c4) rfl ?_ ?_|refine AE (c4) rfl ?_|refine AB (c4) rfl ?_ ?_|refine AG (c4) rfl rfl ?_|refine AF (c5) rfl ?_ ?_|refine AE (c5) rfl ?_|refine AB (c5) rfl ?_ ?_|refine AG (c5) rfl rfl ?_|refine AF (c6) rfl ?_ ?_|refine AE (c6) rfl ?_|refine AB (c6) rfl ?_ ?_|refine AG (c6) rfl rfl ?_|refine AF (c7) rfl ?_ ?_|refine AE (c7) rfl ?_|refine AB (c7) rfl ?_ ?_|refine AG (c7) rfl rfl ?_)<;>try (simp -implicitDefEqProofs only [go_sem,AL,AK,hfl,hlen]))|(((with_reducible refine AS ?_ ?_)<;>intro _)<;>try (simp -implicitDefEqProofs only [go_sem,AL,AK,hfl,hlen]))|simp (disch:=omega) only [AC,AH,AP,AJ,AD,AQ,AI,AA]|((with_reducible refine An ?_);refine⟨(_,_),rfl,?_,?_⟩)
   all_goals first|omega|(simp;done)|(simp;omega)|skip
   refine AY (α:=Nat×Int) (l0:=?l1) (m0:=?m1) (fun x=>[(15,.d (.int .i64 (x.1:Int))),(14,.d (.int .i64 x.2))]) (fun x=>[]) (fun x=>x.1≤c.Q.toNat∧0≤x.2∧∀j,j < x.1→((DY (Gj c S R) c.Q.toNat c.syms j:Nat):Int)≤x.2) (fun x=>c.Q.toNat - x.1) (0,0) ?h01 ?he1 ?he21 ?hI1 ?step1
   case h01=>(simp -implicitDefEqProofs only [go_sem];rfl)
   case he1=>rfl
   case he21=>rfl
   case' step1=>(rintro⟨k,m⟩ hI;try dsimp only at hI)
   case' hI1=>try dsimp only
   ·exact⟨Nat.zero_le _,Int.le_refl _,fun j hj=>by omega⟩
   ·obtain⟨k1,m0,k2⟩:=hI
    by_cases hkq:k < c.Q.toNat
    ·have hk':(k:Int) < ((GQ c S R c.syms).length:Int):=by omega
     have hkl:k < (GQ c S R c.syms).length:=by omega
     have hg:=QP c S R c.syms hkq
     have hwk:IntKind.i64.wrap ((k:Int)+1)=((k+1:Nat):Int):=by rw [AC _ (by omega)];omega
     (try (simp -implicitDefEqProofs only [go_sem,hk',hkl,hg,hwk]));repeat' first|(with_reducible first|exact True.intro|refine And.intro ?_ ?_|intro _)|(((with_reducible refine AS ?_ ?_)<;>intro _)<;>try (simp -implicitDefEqProofs only [go_sem,hk',hkl,hg,hwk]))|simp (disch:=omega) only [AC,AH,AP,AJ,AD,AQ,AI,AA]|((with_reducible refine An ?_);refine⟨(_,_),rfl,?_,?_⟩)
     all_goals first|omega|(simp;done)|(simp;omega)|skip
     rename_i j hj
     have hj2:j < k+1:=hj
     rcases Nat.lt_or_ge j k with h|h
     ·have:=k2 j h;omega
     ·have:j=k:=by omega
      subst this;omega
    ·have hk':¬(k:Int) < ((GQ c S R c.syms).length:Int):=by omega
     have hn:∀j,j < c.Q.toNat→DY (Gj c S R) c.Q.toNat c.syms j≤m.toNat:=fun j hj=>by have:=k2 j (by omega);omega
     have hkey:=key m.toNat hn
     by_cases hmp:m≤c.P / 2
     ·obtain⟨_,hd⟩:=hkey.1 (by omega)
      subst hd
      have c9:=EN G.isEmpty n1 G G
      rw [decide_eq_true rfl] at c9
      (try (simp -implicitDefEqProofs only [go_sem,hk',hmp,wP]));repeat' first|(with_reducible first|exact True.intro|refine And.intro ?_ ?_|intro _)|(((with_reducible refine isCall ?_);first|refine AF (c0) rfl ?_ ?_|refine AE (c0) rfl ?_|refine AB (c0) rfl ?_ ?_|refine AG (c0) rfl rfl ?_|refine AF (c9) rfl ?_ ?_|refine AE (c9) rfl ?_|refine AB (c9) rfl ?_ ?_|refine AG (c9) rfl rfl ?_)<;>try (simp -implicitDefEqProofs only [go_sem,hk',hmp,wP]))|(((with_reducible refine AS ?_ ?_)<;>intro _)<;>try (simp -implicitDefEqProofs only [go_sem,hk',hmp,wP]))|simp (disch:=omega) only [AC,AH,AP,AJ,AD,AQ,AI,AA]|((with_reducible refine An ?_);refine⟨(_,_),rfl,?_,?_⟩)
      all_goals first|rfl|skip
     ·have c8:=G_ c.L c.P (min m c.L)
      rw [jD hcod m0] at c8
      obtain⟨fb,hfb⟩:∃fb,ZK c.L c.P (min m c.L)=fb:=⟨_,rfl⟩
      rw [hfb] at c8
      cases fb with
      |true =>
       (try (simp -implicitDefEqProofs only [go_sem,hk',hmp,wP]));repeat' first|(with_reducible first|exact True.intro|refine And.intro ?_ ?_|intro _)|(((with_reducible refine isCall ?_);first|refine AF (c0) rfl ?_ ?_|refine AE (c0) rfl ?_|refine AB (c0) rfl ?_ ?_|refine AG (c0) rfl rfl ?_|refine AF (c8) rfl ?_ ?_|refine AE (c8) rfl ?_|refine AB (c8) rfl ?_ ?_|refine AG (c8) rfl rfl ?_)<;>try (simp -implicitDefEqProofs only [go_sem,hk',hmp,wP]))|(((with_reducible refine AS ?_ ?_)<;>intro _)<;>try (simp -implicitDefEqProofs only [go_sem,hk',hmp,wP]))|simp (disch:=omega) only [AC,AH,AP,AJ,AD,AQ,AI,AA]|((with_reducible refine An ?_);refine⟨(_,_),rfl,?_,?_⟩)
       all_goals first|rfl|skip
      |false =>
       have hfn:=ka hcod m0 hfb
       rcases hkey.2 (by omega) with⟨_,hd⟩|h52
       ·subst hd
        have c9:=EN G.isEmpty n1 G G
        rw [decide_eq_true rfl] at c9
        (try (simp -implicitDefEqProofs only [go_sem,hk',hmp,wP]));repeat' first|(with_reducible first|exact True.intro|refine And.intro ?_ ?_|intro _)|(((with_reducible refine isCall ?_);first|refine AF (c0) rfl ?_ ?_|refine AE (c0) rfl ?_|refine AB (c0) rfl ?_ ?_|refine AG (c0) rfl rfl ?_|refine AF (c8) rfl ?_ ?_|refine AE (c8) rfl ?_|refine AB (c8) rfl ?_ ?_|refine AG (c8) rfl rfl ?_|refine AF (c9) rfl ?_ ?_|refine AE (c9) rfl ?_|refine AB (c9) rfl ?_ ?_|refine AG (c9) rfl rfl ?_)<;>try (simp -implicitDefEqProofs only [go_sem,hk',hmp,wP]))|(((with_reducible refine AS ?_ ?_)<;>intro _)<;>try (simp -implicitDefEqProofs only [go_sem,hk',hmp,wP]))|simp (disch:=omega) only [AC,AH,AP,AJ,AD,AQ,AI,AA]|((with_reducible refine An ?_);refine⟨(_,_),rfl,?_,?_⟩)
        all_goals first|rfl|skip
       ·exact absurd h52 (by omega)
  ·subst h2
   (try (simp -implicitDefEqProofs only [go_sem,AL,AK,hfl,hlen]));repeat' first|(with_reducible first|exact True.intro|refine And.intro ?_ ?_|intro _)|(((with_reducible refine isCall ?_);first|refine AF (c0) rfl ?_ ?_|refine AE (c0) rfl ?_|refine AB (c0) rfl ?_ ?_|refine AG (c0) rfl rfl ?_|refine AF (c1) rfl ?_ ?_|refine AE (c1) rfl ?_|refine AB (c1) rfl ?_ ?_|refine AG (c1) rfl rfl ?_|refine AF (c2) rfl ?_ ?_|refine AE (c2) rfl ?_|refine AB (c2) rfl ?_ ?_|refine AG (c2) rfl rfl ?_|refine AF (c3) rfl ?_ ?_|refine AE (c3) rfl ?_|refine AB (c3) rfl ?_ ?_|refine AG (c3) rfl rfl ?_|refine AF (c4) rfl ?_ ?_|refine AE (c4) rfl ?_|refine AB (c4) rfl ?_ ?_|refine AG (c4) rfl rfl ?_|refine AF (c5) rfl ?_ ?_|refine AE (c5) rfl ?_|refine AB (c5) rfl ?_ ?_|refine AG (c5) rfl rfl ?_|refine AF (c6) rfl ?_ ?_|refine AE (c6) rfl ?_|refine AB (c6) rfl ?_ ?_|refine AG (c6) rfl rfl ?_|refine AF (c7) rfl ?_ ?_|refine AE (c7) rfl ?_|refine AB (c7) rfl ?_ ?_|refine AG (c7) rfl rfl ?_)<;>try (simp -implicitDefEqProofs only [go_sem,AL,AK,hfl,hlen]))|(((with_reducible refine AS ?_ ?_)<;>intro _)<;>try (simp -implicitDefEqProofs only [go_sem,AL,AK,hfl,hlen]))|simp (disch:=omega) only [AC,AH,AP,AJ,AD,AQ,AI,AA]|((with_reducible refine An ?_);refine⟨(_,_),rfl,?_,?_⟩)
   all_goals first|omega|(simp;done)|(simp;omega)|skip
   refine AY (α:=Nat×Int) (l0:=?l2) (m0:=?m2) (fun x=>[(15,.d (.int .i64 (x.1:Int))),(14,.d (.int .i64 x.2))]) (fun x=>[]) (fun x=>x.1≤c.Q.toNat∧0≤x.2∧∀j,j < x.1→((DY (Gj c S R) c.Q.toNat c.syms j:Nat):Int)≤x.2) (fun x=>c.Q.toNat - x.1) (0,0) ?h02 ?he2 ?he22 ?hI2 ?step2
   case h02=>(simp -implicitDefEqProofs only [go_sem];rfl)
   case he2=>rfl
   case he22=>rfl
   case' step2=>(rintro⟨k,m⟩ hI2;try dsimp only at hI2)
   case' hI2=>try dsimp only
   ·exact⟨Nat.zero_le _,Int.le_refl _,fun j hj=>by omega⟩
   ·obtain⟨k1,m0,k2⟩:=hI2
    by_cases hkq:k < c.Q.toNat
    ·have hk':(k:Int) < ((GQ c S R c.syms).length:Int):=by omega
     have hkl:k < (GQ c S R c.syms).length:=by omega
     have hg:=QP c S R c.syms hkq
     have hwk:IntKind.i64.wrap ((k:Int)+1)=((k+1:Nat):Int):=by rw [AC _ (by omega)];omega
     (try (simp -implicitDefEqProofs only [go_sem,hk',hkl,hg,hwk]));repeat' first|(with_reducible first|exact True.intro|refine And.intro ?_ ?_|intro _)|(((with_reducible refine AS ?_ ?_)<;>intro _)<;>try (simp -implicitDefEqProofs only [go_sem,hk',hkl,hg,hwk]))|simp (disch:=omega) only [AC,AH,AP,AJ,AD,AQ,AI,AA]|((with_reducible refine An ?_);refine⟨(_,_),rfl,?_,?_⟩)
     all_goals first|omega|(simp;done)|(simp;omega)|skip
     rename_i j hj
     have hj2:j < k+1:=hj
     rcases Nat.lt_or_ge j k with h|h
     ·have:=k2 j h;omega
     ·have:j=k:=by omega
      subst this;omega
    ·have hk':¬(k:Int) < ((GQ c S R c.syms).length:Int):=by omega
     have hn:∀j,j < c.Q.toNat→DY (Gj c S R) c.Q.toNat c.syms j≤m.toNat:=fun j hj=>by have:=k2 j (by omega);omega
     have hkey:=key m.toNat hn
     by_cases hmp:m≤c.P / 2
     ·have:=(hkey.1 (by omega)).1
      exact absurd this (by omega)
     ·have c8:=G_ c.L c.P (min m c.L)
      rw [jD hcod m0] at c8
      obtain⟨fb,hfb⟩:∃fb,ZK c.L c.P (min m c.L)=fb:=⟨_,rfl⟩
      rw [hfb] at c8
      cases fb with
      |true =>
       (try (simp -implicitDefEqProofs only [go_sem,hk',hmp,wP]));repeat' first|(with_reducible first|exact True.intro|refine And.intro ?_ ?_|intro _)|(((with_reducible refine isCall ?_);first|refine AF (c0) rfl ?_ ?_|refine AE (c0) rfl ?_|refine AB (c0) rfl ?_ ?_|refine AG (c0) rfl rfl ?_|refine AF (c8) rfl ?_ ?_|refine AE (c8) rfl ?_|refine AB (c8) rfl ?_ ?_|refine AG (c8) rfl rfl ?_)<;>try (simp -implicitDefEqProofs only [go_sem,hk',hmp,wP]))|(((with_reducible refine AS ?_ ?_)<;>intro _)<;>try (simp -implicitDefEqProofs only [go_sem,hk',hmp,wP]))|simp (disch:=omega) only [AC,AH,AP,AJ,AD,AQ,AI,AA]|((with_reducible refine An ?_);refine⟨(_,_),rfl,?_,?_⟩)
       all_goals first|rfl|skip
      |false =>
       (try (simp -implicitDefEqProofs only [go_sem,hk',hmp,wP]));repeat' first|(with_reducible first|exact True.intro|refine And.intro ?_ ?_|intro _)|(((with_reducible refine isCall ?_);first|refine AF (c0) rfl ?_ ?_|refine AE (c0) rfl ?_|refine AB (c0) rfl ?_ ?_|refine AG (c0) rfl rfl ?_|refine AF (c8) rfl ?_ ?_|refine AE (c8) rfl ?_|refine AB (c8) rfl ?_ ?_|refine AG (c8) rfl rfl ?_)<;>try (simp -implicitDefEqProofs only [go_sem,hk',hmp,wP]))|(((with_reducible refine AS ?_ ?_)<;>intro _)<;>try (simp -implicitDefEqProofs only [go_sem,hk',hmp,wP]))|simp (disch:=omega) only [AC,AH,AP,AJ,AD,AQ,AI,AA]|((with_reducible refine An ?_);refine⟨(_,_),rfl,?_,?_⟩)
       all_goals first|rfl|skip
 ·have ha':¬(a:Int)=0:=by omega
  obtain⟨E,hE⟩:∃E,Ql c (c.syL R a)=E:=⟨_,rfl⟩
  obtain⟨G,hG⟩:∃G,Ug c (c.syL R a)=G:=⟨_,rfl⟩
  rw [hE,hG] at c5
  obtain⟨A,hA⟩:∃A,(if E=0 then (a:Int) else 0)=A:=⟨_,rfl⟩
  rw [hA] at c5
  (try (simp -implicitDefEqProofs only [go_sem,AL,AK,hfl,hlen,ha']));repeat' first|(with_reducible first|exact True.intro|refine And.intro ?_ ?_|intro _)|(((with_reducible refine isCall ?_);first|refine AF (c0) rfl ?_ ?_|refine AE (c0) rfl ?_|refine AB (c0) rfl ?_ ?_|refine AG (c0) rfl rfl ?_|refine AF (c1) rfl ?_ ?_|refine AE (c1) rfl ?_|refine AB (c1) rfl ?_ ?_|refine AG (c1) rfl rfl ?_|refine AF (c2) rfl ?_ ?_|refine AE (c2) rfl ?_|refine AB (c2) rfl ?_ ?_|refine AG (c2) rfl rfl ?_|refine AF (c3) rfl ?_ ?_|refine AE (c3) rfl ?_|refine AB (c3) rfl ?_ ?_|refine AG (c3) rfl rfl ?_|refine AF (c4) rfl ?_ ?_|refine AE (c4) rfl ?_|refine AB (c4) rfl ?_ ?_|refine AG (c4) rfl rfl ?_|refine AF (c5) rfl ?_ ?_|refine AE (c5) rfl ?_|refine AB (c5) rfl ?_ ?_|refine AG (c5) rfl rfl ?_|refine AF (c6) rfl ?_ ?_|refine AE (c6) rfl ?_|refine AB (c6) rfl ?_ ?_|refine AG (c6) rfl rfl ?_)<;>try (simp -implicitDefEqProofs only [go_sem,AL,AK,hfl,hlen,ha']))|(((with_reducible refine AS ?_ ?_)<;>intro _)<;>try (simp -implicitDefEqProofs only [go_sem,AL,AK,hfl,hlen,ha']))|simp (disch:=omega) only [AC,AH,AP,AJ,AD,AQ,AI,AA]|((with_reducible refine An ?_);refine⟨(_,_),rfl,?_,?_⟩)
  all_goals first|rfl|skip
end Go.Pw
end
