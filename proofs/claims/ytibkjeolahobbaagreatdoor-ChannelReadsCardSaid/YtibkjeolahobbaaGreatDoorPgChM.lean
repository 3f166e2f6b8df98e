/- A part of the proof. -/
import Derived.Test.YtibkjeolahobbaaGreatDoorPgChI
import Derived.Test.YtibkjeolahobbaaGreatDoorPgChrPh2
import Derived.Test.YtibkjeolahobbaaGreatDoorPgChcS
set_option linter.all false
open Go Go.Pw Go.Proofs
namespace Go.Pw
set_option maxRecDepth 100000
set_option maxHeartbeats 3200000
theorem X6:∀(xs ys:List Int),Cs xs (xs++ys)=0
 |[],_=>by simp[Cs]
 |x::xs,ys=>by rw[List.cons_append,Cs,if_pos rfl,X6 xs ys];rfl
theorem f9 (mk:List Nat):nt (ni mk)=mk:=by
 unfold nt ni
 rw[List.map_map]
 exact List.map_id'' (fun x=>by simp) mk
theorem VV (l:List Nat) (i:Nat) (h:i<l.length):(ni l)[i]?.getD 0=((l[i]?.getD 0:Nat):Int):=by simp[ni,h]
theorem Qj {m:Nat}{mk:List Nat}(h:Yd m mk):Da (ni mk) (m:Int)=true:=Py fun i hi=>by
 have hil:i<mk.length:=by simpa[ni] using hi
 unfold cy
 rw[decide_eq_true_eq,VV _ _ hil,VV _ _ (show i-1<mk.length by omega)]
 have h1:=h.lt (mk[i]?.getD 0) (by rw[List.getElem?_eq_getElem hil];exact List.getElem_mem hil)
 refine⟨by omega,by exact_mod_cast h1,fun h0=>?_⟩
 have h2:=(List.pairwise_iff_getElem.1 h.asc) (i-1) i (by omega) hil (by omega)
 rw[List.getElem?_eq_getElem hil,List.getElem?_eq_getElem (show i-1<mk.length by omega)]
 exact_mod_cast h2
theorem kA {c:AY}(hk:HU c) {d:List Int}(he:Yc c.L c.P c.Q d=0) :
  ∃(l p q:Nat) (e:List F),c.L=(l:Int)/\c.P=(p:Int)/\c.Q=(q:Int)/\2<=l/\l<=15/\1<=p/\p<=8/\p<l/\1<=q/\q<=8/\d=iv e/\e.length=(l-p)*q/\Tc c.L c.P c.Q d=iv (aU l p q e)/\c.syms=l*q:=by
 obtain⟨l,p,q,h1,h2,h3,b1,b2,b3,b4,b5,b6,b7,hc⟩:=IB hk.wev
 have hw:=hk.wev
 unfold Yc at he
 rw[if_pos hw] at he
 have hs:CP d (c.Q*(c.L-c.P))=true:=by
  cases hs:CP d (c.Q*(c.L-c.P)) with
  |true=>rfl
  |false=>rw[hs] at he;simp at he
 obtain⟨hl,hf⟩:=K6 hs
 refine⟨l,p,q,fs d,h1,h2,h3,b1,b2,b3,b4,b5,b6,b7,hf.symm,?_,?_,?_⟩
 ·rw[Vf]
  rw[h1,h2,h3,show ((l:Int)-(p:Int))=((l-p:Nat):Int) by omega] at hl
  exact OW hl
 ·unfold Tc
  rw[if_pos hw,if_pos hs,h1,h2,h3];rfl
 ·have:=hk.syms.2.2
  rw[h1,h3] at this
  have e:(q:Int)*(l:Int)=((l*q:Nat):Int):=by push_cast;exact Int.mul_comm ..
  rw[e] at this;omega
theorem gU (w:List F):∀x,x∈iv w->0<=x/\x<=15:=fun x hx=>by
 simp only[iv,List.mem_map] at hx
 obtain⟨a,_,rfl⟩:=hx
 exact Rl a
theorem nL {c:AY}(hk:HU c) {l p q:Nat}(h1:c.L=(l:Int)) (h2:c.P=(p:Int)) (h3:c.Q=(q:Int)) (hs:c.syms=l*q) {sy:List (Option Nat)}(hl:sy.length=c.syms) :
  Zd c sy=oE (bE l p q (fs (CG c.seed (HJ sy))) (Na sy))/\bC c sy=iv (oL (bE l p q (fs (CG c.seed (HJ sy))) (Na sy))):=by
 have hw:=hk.wev
 have hxl:(CG c.seed (HJ sy)).length=c.syms:=by rw[CX,EB,hl]
 have hsy:CP (CG c.seed (HJ sy)) (c.Q*c.L)=true:=by
  have:iv (fs (CG c.seed (HJ sy)))=CG c.seed (HJ sy):=Xb (by
   rw[List.all_eq_true]
   intro x hx
   have:=Hd _ _ x hx
   unfold Kx;rw[decide_eq_true_eq];omega)
  rw[←this,Wa,decide_eq_true_eq,Vf,hxl]
  exact hk.syms.2.2.symm
 have hm:Da (ni (Na sy)) ((CG c.seed (HJ sy)).length:Int)=true:=by
  rw[hxl]
  refine Qj ⟨List.Pairwise.filter _ List.pairwise_lt_range,fun j hj=>?_⟩
  have:=(List.mem_filter.1 hj).1
  rw[List.mem_range] at this
  omega
 unfold Zd bC le g_
 rw[if_pos hw,if_pos hsy,if_pos hm,if_pos hw,if_pos hsy,if_pos hm,f9,h1,h2,h3,Int.toNat_natCast,Int.toNat_natCast,Int.toNat_natCast]
 exact⟨rfl,rfl⟩
theorem n8 {c:AY}{R:List Int}{i:Nat}(h:i<c.syms):(c.syL R 0)[i]?.getD none=Kw c.code (c.part R 0 i):=by
 simp[AY.syL,h]
theorem oV {c:AY}{sy:List (Option Nat)}{B:List F}{i:Nat}(hi:i<sy.length) (hB:i<B.length) {s:Nat}(hs:sy[i]?.getD none=some s) (hx:(s:Int)=(CG c.seed (iv B))[i]?.getD 0) :
  (fs (CG c.seed (HJ sy)))[i]?.getD 0=B[i]?.getD 0:=by
 have h1:=R7 (HJ sy) c.seed i (by rw[EB];exact hi)
 have h2:=R7 (iv B) c.seed i (by rw[G6];exact hB)
 have h3:(HJ sy)[i]?.getD 0=(s:Int):=by
  simp only[HJ,List.getElem?_map]
  rw[List.getElem?_eq_getElem hi] at hs ⊢
  simp only[Option.getD_some,Option.map_some] at hs ⊢
  rw[hs];rfl
 have h4:0<=(iv B)[i]?.getD 0/\(iv B)[i]?.getD 0<=15:=gU B _ (Dd (by rw[G6];exact hB))
 rw[h3,hx,h2,kP _ h4,gV] at h1
 have h5:(fs (CG c.seed (HJ sy)))[i]?.getD 0=Fin.ofNat 16 ((CG c.seed (HJ sy))[i]?.getD 0).toNat:=by
  simp only[fs,List.getElem?_map]
  rw[List.getElem?_eq_getElem (by rw[CX,EB];exact hi)];rfl
 rw[h5,h1,Int.toNat_natCast]
 exact Fin.ext (Nat.mod_eq_of_lt (B[i]?.getD 0).isLt)
theorem YF {f g:Nat->Nat}{q:Nat}:∀{n:Nat},(∀i,i<n->f i<=g i)->∀k,Mn f q n k<=Mn g q n k
 |0,_,_=>Nat.le_refl _
 |n+1,h,k=>by
  have ih:=YF (f:=f) (g:=g) (q:=q) (n:=n) (fun i hi=>h i (by omega)) k
  have h1:=h n (by omega)
  show Mn f q n k+(if n%q=k then f n else 0)<=Mn g q n k+(if n%q=k then g n else 0)
  split<;>omega
theorem fg {c:AY}(hk:HU c) {l p q:Nat}{e:List F}(h1:c.L=(l:Int)) (h2:c.P=(p:Int)) (h3:c.Q=(q:Int)) (b2:l<=15) (b5:p<l) (b6:1<=q) (he:e.length=(l-p)*q) (hs:c.syms=l*q)
  {sy:List (Option Nat)}(hl:sy.length=c.syms) {f:Nat->Nat}
  (hf:∀i,i<l*q->sy[i]?.getD none≠some ((CG c.seed (iv (aU l p q e)))[i]?.getD 0).toNat->(if (sy[i]?.getD none).isNone then 1 else 2)<=f i)
  (hc:∀k,k<q->Mn f q (l*q) k<=p):Zd c sy=0/\bC c sy=iv e:=by
 obtain⟨g1,g2⟩:=nL hk h1 h2 h3 hs hl
 have hBl:(aU l p q e).length=l*q:=aR ..
 have hrl:(fs (CG c.seed (HJ sy))).length=l*q:=by rw[Vf,CX,EB,hl,hs]
 have key:=Tn (l:=l) (p:=p) (q:=q) b2 b5 (by omega) he hrl (mB:=fun i=>(sy[i]?.getD none).isNone) (wB:=fun i=>decide (sy[i]?.getD none≠some ((CG c.seed (iv (aU l p q e)))[i]?.getD 0).toNat))
  (fun i hi hne hm=>by
   rw[decide_eq_true_eq]
   intro hs2
   have hx:0<=(CG c.seed (iv (aU l p q e)))[i]?.getD 0:=(Hd _ _ _ (Dd (by rw[CX,G6,hBl];exact hi))).1
   exact hne (oV (by omega) (by omega) hs2 (by omega)).symm)
  (fC:=fun i=>if (sy[i]?.getD none).isNone then 1 else if decide (sy[i]?.getD none≠some ((CG c.seed (iv (aU l p q e)))[i]?.getD 0).toNat) then 2 else 0) (fun i hi=>rfl)
  (fun k hkq=>Nat.le_trans (YF (fun i hi=>by
   by_cases hw:sy[i]?.getD none=some ((CG c.seed (iv (aU l p q e)))[i]?.getD 0).toNat
   ·rw[hw];simp
   ·have:=hf i hi hw
    by_cases hn:(sy[i]?.getD none).isNone=true
    ·rw[if_pos hn] at this ⊢;exact this
    ·rw[if_neg hn] at this ⊢
     rw[if_pos (by rw[decide_eq_true_eq];exact hw)];exact this) k) (hc k hkq))
 have hmk:Na sy=(List.range (l*q)).filter fun i=>(sy[i]?.getD none).isNone:=by unfold Na;rw[hl,hs]
 rw[g1,g2,hmk,key]
 exact⟨rfl,rfl⟩
theorem oU {c:AY}(hk:HU c) {b:List Int}(hb:b.length=c.syms) (rest:List Int) {i:Nat}(hi:i<c.syms):(c.syL (MZ c b++rest) 0)[i]?.getD none=some ((CG c.seed b)[i]?.getD 0).toNat:=by
 rw[n8 hi]
 have hl:(CG c.seed b).length=c.syms:=by rw[CX,hb]
 unfold MZ
 rw[fL c _ rest i (by omega)]
 have hx:=Hd b c.seed _ (Dd (show i<(CG c.seed b).length by omega))
 exact Rs hk.dst (by omega)
theorem iT {c:AY}(hk:HU c) {b:List Int}(hb:b.length=c.syms) (rest:List Int):c.find (MZ c b++rest)=some 0:=by
 refine MR.2 ⟨?_,?_,fun j hj=>by omega⟩
 ·rw[List.length_append,aY,hb];unfold AY.tot;omega
 ·rw[List.drop_zero]
  unfold MZ
  rw[List.append_assoc,X6];exact hk.errs.1
theorem ff {c:AY}(hk:HU c) {d:List Int}(he:Yc c.L c.P c.Q d=0) (rest:List Int) :
  c.find (MZ c (Tc c.L c.P c.Q d)++rest)=some 0/\Zd c (c.syL (MZ c (Tc c.L c.P c.Q d)++rest) 0)=0/\bC c (c.syL (MZ c (Tc c.L c.P c.Q d)++rest) 0)=d:=by
 have hbl:=U6 hk.wev he
 obtain⟨l,p,q,e,h1,h2,h3,b1,b2,b3,b4,b5,b6,b7,rfl,hel,hsp,hs⟩:=kA hk he
 refine⟨iT hk hbl rest,?_⟩
 refine fg hk h1 h2 h3 b2 b5 b6 hel hs (Jw ..) (f:=fun _=>0) (fun i hi hne=>?_) fun k _=>?_
 ·rw[oU hk hbl rest (by omega),hsp] at hne
  exact absurd rfl hne
 ·have:∀n,Mn (fun _=>0) q n k=0:=fun n=>by
   induction n with
   |zero=>rfl
   |succ n ih=>show Mn _ q n k+(if n%q=k then 0 else 0)=0;rw[ih];split<;>rfl
  rw[this];omega
section
def GK (m q:Nat) (W:Nat->List F) (k j:Nat):List F:=(List.range (m*q)).map fun i=>if i%q<k\/(i%q=k/\i/q<j) then (W (i%q))[i/q]?.getD 0 else 0
theorem Ub (m q:Nat) (W:Nat->List F) (k j:Nat):(GK m q W k j).length=m*q:=by simp[GK]
theorem bG (m q:Nat) (W:Nat->List F):GK m q W 0 0=List.replicate (m*q) 0:=by
 apply List.ext_getElem
 ·simp[GK]
 ·intro i h1 h2;simp[GK]
theorem Ua {m q k j:Nat}{W:Nat->List F}(hk:k<q) (hj:j<m):(GK m q W k j).set (j*q+k) ((W k)[j]?.getD 0)=GK m q W k (j+1):=by
 apply List.ext_getElem
 ·simp[GK]
 ·intro i h1 h2
  rw[List.getElem_set]
  simp only[GK,List.getElem_map,List.getElem_range]
  by_cases hij:j*q+k=i
  ·subst hij
   rw[if_pos rfl,Vx hk,Sl hk,if_pos (.inr ⟨rfl,by omega⟩)]
  ·rw[if_neg hij]
   have he:=X5 q i
   by_cases hc:i%q<k\/(i%q=k/\i/q<j)
   ·rw[if_pos hc,if_pos (by omega)]
   ·rw[if_neg hc,if_neg fun h=>?_]
    rcases h with h|⟨h3,h4⟩
    ·exact hc (.inl h)
    ·have h5:i/q=j:=by
      rcases Nat.lt_or_ge (i/q) j with h6|h6
      ·exact absurd (.inr ⟨h3,h6⟩) hc
      ·omega
     rw[h5,h3] at he
     exact hij he
theorem Sc {m q k:Nat}(W:Nat->List F) (hq:0<q):GK m q W k m=GK m q W (k+1) 0:=by
 unfold GK
 apply List.map_congr_left
 intro i hi
 have h1:i/q<m:=Nat.div_lt_of_lt_mul (by rw[Nat.mul_comm];simpa using hi)
 by_cases hc:i%q<k\/(i%q=k/\i/q<m)
 ·rw[if_pos hc,if_pos (.inl (by rcases hc with h|⟨h,_⟩<;>omega))]
 ·rw[if_neg hc,if_neg fun h=>?_]
  rcases h with h|⟨_,h⟩
  ·rcases Nat.lt_succ_iff_lt_or_eq.1 h with h2|h2
   ·exact hc (.inl h2)
   ·exact hc (.inr ⟨h2,h1⟩)
  ·exact absurd h (Nat.not_lt_zero _)
theorem Uc {m q:Nat}(W:Nat->List F) (hq:0<q):GK m q W q 0=GW m q W:=by
 unfold GK GW
 apply List.map_congr_left
 intro i hi
 rw[if_pos (.inl (Nat.mod_lt _ hq))]
attribute [local congr] Bm A' BA Au Bn Az A1 A0 Ar Al Af Aa Aw Ag Ax BM BQ BO BP BN BR BG Aj Ay Ak BE BX Ai BK BL BF BH BJ BI BC BD A_ Bp BB Av Ah
attribute [local irreducible] IntKind.wrap A3 Option.getD and or
theorem LE (q m k:Nat) (n:Bool) (b:List F) (hm:m<=15) (hm1:1<=m) (hq:q<=8) (hk:k<q) (hb:b.length=m*q) :
  CA E0 PT [.list n (Ab (iv b)),.int .i64 (q:Int),.int .i64 (k:Int)] (.list false (Ab (iv (CI m q k b)))):=by
 have hmq:=SV hm hq
 have hpl:=B' m q k b
 refine AL Sv An (by simp) fun hwf=>?_
 rw[AR];unfold M0
 (try (simp -implicitDefEqProofs only[go_sem]));repeat' first|(with_reducible first|exact tI|refine aI ?_ ?_|intro _)|((first|with_reducible refine AK ?_ ?_<;>intro _)<;>try (simp -implicitDefEqProofs only[go_sem]))|simp (disch:=omega) only[Ae]|((with_reducible refine Ao ?_);refine⟨(_,_,_),rfl,?_,?_⟩)
 all_goals first|omega|(simp<;>omega)|skip
 refine AX (α:=Nat×Nat×Bool) (l0:=?l1) (m0:=?m1) (fun x=>[(8,.d (.int .i64 (x.2.1:Int)))]) (fun x=>[(23,.row 3 1 x.2.2 (Ab (iv ((CI m q k b).take x.1))))]) (fun x=>x.1<=m/\x.2.1=k+x.1*q/\x.2.2=decide (x.1=0)) (fun x=>m-x.1) (0,k,true) ?h01 ?he1 ?he21 ?hI1 ?step1
 case h01=>(simp -implicitDefEqProofs only[go_sem];rfl)
 case he1=>rfl
 case he21=>rfl
 case' step1=>(rintro⟨j,s,e⟩ hI;try dsimp only at hI)
 case' hI1=>try dsimp only
 ·exact⟨Nat.zero_le _,by simp,rfl⟩
 ·obtain⟨h1,hs,h2⟩:=hI
  change e=decide (j=0) at h2
  subst h2
  have hjq:=Nat.mul_le_mul_right q h1
  by_cases h:j<m
  ·have h0:=nJ hk hb h
   rw[←hs] at h0
   have h':(s:Int)<(b.length:Int):=by omega
   have hs2:s+q=k+(j+1)*q:=by rw[Nat.add_mul,Nat.one_mul];omega
   have hwj:IntKind.i64.wrap ((s:Int)+(q:Int))=((s+q:Nat):Int):=by rw[AZ _ (by omega)];omega
   have hst:=UO m q k j b h
   rw[Nat.add_comm (j*q) k,←hs] at hst
   (try (simp -implicitDefEqProofs only[go_sem,h0,h',hwj,hst]));repeat' first|(with_reducible first|exact tI|refine aI ?_ ?_|intro _)|((first|with_reducible refine AK ?_ ?_<;>intro _)<;>try (simp -implicitDefEqProofs only[go_sem,h0,h',hwj,hst]))|simp (disch:=omega) only[Ae]|((with_reducible refine Ao ?_);refine⟨(_,_,_),rfl,?_,?_⟩)
   all_goals first|omega|(simp<;>omega)|skip
   all_goals first|exact⟨hs2,rfl⟩|exact hs2|rfl|skip
  ·have hje:j=m:=by omega
   subst hje
   have h0:=nK (k:=k) hb
   have h':¬(s:Int)<(b.length:Int):=by omega
   have htk:(CI j q k b).take j=CI j q k b:=List.take_of_length_le (by omega)
   have hj0:decide (j=0)=false:=decide_eq_false (by omega)
   rw[htk,hj0]
   (try (simp -implicitDefEqProofs only[go_sem,h']));repeat' first|(with_reducible first|exact tI|refine aI ?_ ?_|intro _)|((first|with_reducible refine AK ?_ ?_<;>intro _)<;>try (simp -implicitDefEqProofs only[go_sem,h']))|simp (disch:=omega) only[Ae]|((with_reducible refine Ao ?_);refine⟨(_,_,_),rfl,?_,?_⟩)
   all_goals first|omega|(simp<;>omega)|skip
   all_goals first|rfl|skip
theorem Ek (L P Q:Int):CA E0 H2 [.agg [.int .i64 L,.int .i64 P,.int .i64 Q]] (.int .i64 (if C2 L P Q=true then 0 else 50)):=by
 have c1:=Q0 L P
 have c2:=Ey Q 1 8
 refine AL Li An (by simp) fun hwf=>?_
 rw[AR];unfold HD C2
 cases hc:EM L P with
 |false =>
  rw[hc] at c1
  simp only[Bool.false_eq_true,if_false,Bool.false_and] at c1 ⊢
  (try (simp -implicitDefEqProofs only[go_sem]));repeat' first|(with_reducible first|exact tI|refine aI ?_ ?_|intro _)|((first|with_reducible refine AK ?_ ?_<;>intro _|(with_reducible refine isCall ?_);first|refine AE c1 ?_)<;>try (simp -implicitDefEqProofs only[go_sem]))|simp (disch:=omega) only[Ae]
  all_goals first|rfl|(simp;done)|skip
 |true =>
  rw[hc] at c1
  simp only[if_true,Bool.true_and] at c1 ⊢
  by_cases h:1<=Q/\Q<=8
  ·rw[decide_eq_true h] at c2 ⊢
   (try (simp -implicitDefEqProofs only[go_sem]));repeat' first|(with_reducible first|exact tI|refine aI ?_ ?_|intro _)|((first|with_reducible refine AK ?_ ?_<;>intro _|(with_reducible refine isCall ?_);first|refine AE c1 ?_|refine AE c2 ?_)<;>try (simp -implicitDefEqProofs only[go_sem]))|simp (disch:=omega) only[Ae]
   all_goals first|rfl|(simp;done)|skip
  ·rw[decide_eq_false h] at c2 ⊢
   (try (simp -implicitDefEqProofs only[go_sem]));repeat' first|(with_reducible first|exact tI|refine aI ?_ ?_|intro _)|((first|with_reducible refine AK ?_ ?_<;>intro _|(with_reducible refine isCall ?_);first|refine AE c1 ?_|refine AE c2 ?_)<;>try (simp -implicitDefEqProofs only[go_sem]))|simp (disch:=omega) only[Ae]
   all_goals first|rfl|(simp;done)|skip
theorem Pm (L P Q:Int) (n:Bool) (xs:List Int):CA E0 L3 [.agg [.int .i64 L,.int .i64 P,.int .i64 Q],.list n (Ab xs)] (.tup [.list (Tc L P Q xs).isEmpty (Ab (Tc L P Q xs)),.int .i64 (Yc L P Q xs)]):=by
 have c1:=Ek L P Q
 refine AL P_ An (by simp) fun hwf=>?_
 rw[AR];unfold KT Tc Yc
 cases hw:C2 L P Q with
 |false =>
  rw[hw] at c1
  simp only[Bool.false_eq_true,if_false] at c1 ⊢
  (try (simp -implicitDefEqProofs only[go_sem]));repeat' first|(with_reducible first|exact tI|refine aI ?_ ?_|intro _)|((first|with_reducible refine AK ?_ ?_<;>intro _|(with_reducible refine isCall ?_);first|refine AE c1 ?_)<;>try (simp -implicitDefEqProofs only[go_sem]))|simp (disch:=omega) only[Ae]|((with_reducible refine Ad ?_);refine⟨_,rfl,?_,?_⟩)
  all_goals first|rfl|(simp;done)|skip
 |true =>
  rw[hw] at c1
  simp only[if_true] at c1 ⊢
  obtain⟨l,p,q,rfl,rfl,rfl,b1,b2,b3,b4,b5,b6,b7,hc⟩:=IB hw
  have w0:IntKind.i64.wrap ((l:Int)-(p:Int))=(l:Int)-(p:Int):=AZ _ (by omega)
  have hmul:(q:Int)*((l:Int)-(p:Int))=((q*(l-p):Nat):Int):=by rw[show ((l:Int)-(p:Int))=((l-p:Nat):Int) by omega];push_cast;rfl
  have hql:q*l<=8*15:=Nat.mul_le_mul b7 b2
  have hqlp:q*(l-p)<=8*15:=Nat.mul_le_mul b7 (by omega)
  have w1:IntKind.i64.wrap ((q:Int)*((l:Int)-(p:Int)))=(q:Int)*((l:Int)-(p:Int)):=by rw[hmul];exact AZ _ (by omega)
  have w2:IntKind.i64.wrap ((q:Int)*(l:Int))=((l*q:Nat):Int):=by rw[show (q:Int)*(l:Int)=((q*l:Nat):Int) by push_cast;rfl,Nat.mul_comm l q];exact AZ _ (by omega)
  have c2:=Ge n xs ((q:Int)*((l:Int)-(p:Int)))
  cases hs:CP xs ((q:Int)*((l:Int)-(p:Int))) with
  |false =>
   rw[hs] at c2
   simp only[Bool.false_eq_true,if_false]
   (try (simp -implicitDefEqProofs only[go_sem,w0,w1]));repeat' first|(with_reducible first|exact tI|refine aI ?_ ?_|intro _)|((first|with_reducible refine AK ?_ ?_<;>intro _|(with_reducible refine isCall ?_);first|refine AE c1 ?_|refine AE c2 ?_)<;>try (simp -implicitDefEqProofs only[go_sem,w0,w1]))|simp (disch:=omega) only[Ae]|((with_reducible refine Ad ?_);refine⟨_,rfl,?_,?_⟩)
   all_goals first|rfl|(simp;done)|skip
  |true =>
   rw[hs] at c2
   simp only[if_true]
   obtain⟨hl,hf⟩:=K6 hs
   obtain⟨d,hd⟩:∃d,fs xs=d:=⟨_,rfl⟩
   rw[hd] at hf ⊢
   subst hf
   rw[G6,show ((l:Int)-(p:Int))=((l-p:Nat):Int) by omega] at hl
   have hdl:=OW hl
   simp only[Int.toNat_natCast]
   have c3:=fun k hk=>LE q (l-p) k n d (by omega) (by omega) b7 hk hdl
   have hW0:aU l p q d=GW l q fun k=>Fl p (CI (l-p) q k d):=rfl
   have c4:=fun k=>Pk l p false (CI (l-p) q k d) b2 b3 (by rw[B'];omega) (by rw[B'];omega)
   have hWl:∀k,k<q->(Fl p (CI (l-p) q k d)).length=l:=fun k _=>by rw[Gp,B'];omega
   obtain⟨W,hW⟩:∃W:Nat->List F,(fun k=>Fl p (CI (l-p) q k d))=W:=⟨_,rfl⟩
   have hWk:∀k,Fl p (CI (l-p) q k d)=W k:=fun k=>by rw[←hW]
   simp only[hWk] at c4 hWl
   rw[hW] at hW0
   rw[hW0]
   have hlq:l*q<=120:=SV b2 b7
   have hlq1:0<l*q:=Nat.mul_pos (by omega) (by omega)
   have hB:0<(GW l q W).length:=by rw[F0];exact hlq1
   rw[J4 hB]
   obtain⟨N,hN⟩:∃N,l*q=N:=⟨_,rfl⟩
   rw[hN] at w2 hlq hlq1
   have hf0:=bG l q W
   rw[hN] at hf0
   (try (simp -implicitDefEqProofs only[go_sem,w0,w1,w2,J3]));repeat' first|(with_reducible first|exact tI|refine aI ?_ ?_|intro _)|((first|with_reducible refine AK ?_ ?_<;>intro _|(with_reducible refine isCall ?_);first|refine AE c1 ?_|refine AE c2 ?_)<;>try (simp -implicitDefEqProofs only[go_sem,w0,w1,w2,J3]))|simp (disch:=omega) only[Ae]|((with_reducible refine Ad ?_);refine⟨_,rfl,?_,?_⟩)
   all_goals first|omega|(simp<;>omega)|skip
   rw[←hf0]
   refine AX (α:=Nat) (l0:=?l2) (m0:=?m2) (fun x=>[(7,.d (.int .i64 (x:Int)))]) (fun x=>[(32,.row 3 1 false (Ab (iv (GK l q W x 0))))]) (fun x=>x<=q) (fun x=>q-x) 0 ?h02 ?he2 ?he22 ?hI2 ?step2
   case h02=>(simp -implicitDefEqProofs only[go_sem];rfl)
   case he2=>rfl
   case he22=>rfl
   case' step2=>(rintro k hI;try dsimp only at hI)
   case' hI2=>try dsimp only
   ·exact Nat.zero_le _
   ·by_cases hk:k<q
    ·have hk':(k:Int)<(q:Int):=by omega
     have hwk:IntKind.i64.wrap ((k:Int)+1)=((k+1:Nat):Int):=by rw[AZ _ (by omega)];omega
     have c5:=c3 k hk
     have c6:=c4 k
     rw[Bc] at c6
     have hkl:=hWl k hk
     have hnx:=Sc (m:=l) (k:=k) W (show 0<q by omega)
     (try (simp -implicitDefEqProofs only[go_sem,hk',hkl]));repeat' first|(with_reducible first|exact tI|refine aI ?_ ?_|intro _)|((first|with_reducible refine AK ?_ ?_<;>intro _|(with_reducible refine isCall ?_);first|refine AE c5 ?_|refine AE c6 ?_)<;>try (simp -implicitDefEqProofs only[go_sem,hk',hkl]))|simp (disch:=omega) only[Ae]|((with_reducible refine Ad ?_);refine⟨_,rfl,?_,?_⟩)
     all_goals first|omega|(simp<;>omega)|skip
     refine AX (α:=Nat) (l0:=?l3) (m0:=?m3) (fun x=>[(9,.d (.int .i64 (x:Int)))]) (fun x=>[(32,.row 3 1 false (Ab (iv (GK l q W k x))))]) (fun x=>x<=l) (fun x=>l-x) 0 ?h03 ?he3 ?he23 ?hI3 ?step3
     case h03=>(simp -implicitDefEqProofs only[go_sem];rfl)
     case he3=>rfl
     case he23=>rfl
     case' step3=>(rintro j hI2;try dsimp only at hI2)
     case' hI3=>try dsimp only
     ·exact Nat.zero_le _
     ·have hfl:=Ub l q W k j
      rw[hN] at hfl
      by_cases hj:j<l
      ·have hj':(j:Int)<(l:Int):=by omega
       have hwj:IntKind.i64.wrap ((j:Int)+1)=((j+1:Nat):Int):=by rw[AZ _ (by omega)];omega
       have hlt:=Oj hk hj
       rw[hN] at hlt
       have hst:=Ua (W:=W) hk hj
       have hmj:IntKind.i64.wrap ((j:Int)*(q:Int))=((j*q:Nat):Int):=by rw[show (j:Int)*(q:Int)=((j*q:Nat):Int) by push_cast;rfl];exact AZ _ (by omega)
       obtain⟨s,hs⟩:∃s,j*q=s:=⟨_,rfl⟩
       rw[hs] at hmj hst hlt
       have hma:IntKind.i64.wrap ((s:Int)+(k:Int))=((s+k:Nat):Int):=by rw[AZ _ (by omega)];omega
       have hjl:j<(W k).length:=by omega
       (try (simp -implicitDefEqProofs only[go_sem,hj',hwj,hmj,hma,hlt,hfl,hst,hjl,hkl]));repeat' first|(with_reducible first|exact tI|refine aI ?_ ?_|intro _)|((first|with_reducible refine AK ?_ ?_<;>intro _)<;>try (simp -implicitDefEqProofs only[go_sem,hj',hwj,hmj,hma,hlt,hfl,hst,hjl,hkl]))|simp (disch:=omega) only[Ae]|((with_reducible refine Ad ?_);refine⟨_,rfl,?_,?_⟩)
       all_goals first|omega|(simp<;>omega)|skip
       all_goals first|rfl|skip
      ·have hj':¬(j:Int)<(l:Int):=by omega
       have hje:j=l:=by omega
       rw[hje,hnx]
       (try (simp -implicitDefEqProofs only[go_sem,Int.lt_irrefl,hwk,hkl]));repeat' first|(with_reducible first|exact tI|refine aI ?_ ?_|intro _)|((first|with_reducible refine AK ?_ ?_<;>intro _)<;>try (simp -implicitDefEqProofs only[go_sem,Int.lt_irrefl,hwk,hkl]))|simp (disch:=omega) only[Ae]|((with_reducible refine Ad ?_);refine⟨_,rfl,?_,?_⟩)
       all_goals first|omega|(simp<;>omega)|skip
       all_goals first|rfl|skip
    ·have hk':¬(k:Int)<(q:Int):=by omega
     have hke:k=q:=by omega
     have hfe:=Uc (m:=l) W (show 0<q by omega)
     rw[hke,hfe]
     (try (simp -implicitDefEqProofs only[go_sem,Int.lt_irrefl]));repeat' first|(with_reducible first|exact tI|refine aI ?_ ?_|intro _)|((first|with_reducible refine AK ?_ ?_<;>intro _)<;>try (simp -implicitDefEqProofs only[go_sem,Int.lt_irrefl]))|simp (disch:=omega) only[Ae]|((with_reducible refine Ad ?_);refine⟨_,rfl,?_,?_⟩)
     all_goals first|rfl|omega|(simp;done)|skip
end
section
def bI:AY:={ code:=iX,L:=3,P:=2,Q:=1,nm:=false,mark:=[1,1,1,0],seed:=1,errs:=0 }
def lz:List Int:=[1,1,1,0,1,0,1,0,1,0,0,1,1,0,1,0,1,0,0,1,1,0,1,0,0,1,0,0]
theorem Sd:bI.ok=true:=by decide +kernel
theorem nR:eP bI [1]=lz:=by decide +kernel
theorem iZ:Yc bI.L bI.P bI.Q [1]=0:=by decide +kernel
theorem pc:jW bI=1:=by decide +kernel
theorem pZ:Ps lz=true:=by decide +kernel
theorem iY:Th bI lz=.tup [.list false (Ab [1]),.int .i64 0,.int .i64 0]:=by
 obtain⟨h1,h2,h3⟩:=ff (HT Sd) iZ []
 have hw:=nR
 unfold eP at hw
 rw[if_pos Sd,if_pos iZ] at hw
 rw[hw,List.append_nil] at h1 h2 h3
 unfold Th SJ UM UL
 simp only[Sd,pZ,if_true,h1,h2,h3]
 rfl
attribute [local congr] Bm A' BA Au Bn Az A1 A0 Ar Al Af Aa Aw Ag Ax BM BQ BO BP BN BR BG Aj Ay Ak BE BX Ai BK BL BF BH BJ BI BC BD A_ Bp BB Av Ah
attribute [local irreducible] IntKind.wrap A3 Option.getD and or
theorem OY:CA E0 Kn [] (.tup [DX bI,.list false (Ab lz)]):=by
 have c1:=OZ
 refine AL Oq An (by simp) fun hwf=>?_
 rw[AR];unfold JF
 (try (simp -implicitDefEqProofs only[go_sem,BU,A9]));repeat' first|(with_reducible first|exact tI|refine aI ?_ ?_|intro _)|((first|with_reducible refine AK ?_ ?_<;>intro _|(with_reducible refine isCall ?_);first|refine AE c1 ?_)<;>try (simp -implicitDefEqProofs only[go_sem,BU,A9]))|simp (disch:=omega) only[Ae]
 all_goals first|rfl|skip
theorem Q4:CA E0 NK [] (.bool true):=by
 have c1:=OY
 have c2:=IY bI false [1]
 have c3:=Jd bI false lz
 have c4:=PE bI
 have c5:=Ej false false lz lz
 rw[decide_eq_true rfl] at c5
 have e1:jf bI [1]=0:=by unfold jf;rw[if_pos Sd,if_pos iZ]
 have e2:=(Ig Sd).2
 rw[nR,e1] at c2
 rw[iY] at c3
 rw[pc,e2] at c4
 obtain⟨W,hW⟩:∃W,lz=W:=⟨_,rfl⟩
 have hWe:lz.isEmpty=false:=rfl
 rw[hWe] at c2
 rw[hW] at c1 c2 c3 c5
 refine AL RE An (by simp) fun hwf=>?_
 rw[AR];unfold LO
 have hc:DX bI=.agg (YG bI):=rfl
 (try (simp -implicitDefEqProofs only[go_sem,AP,AO,aV]));repeat' first|(with_reducible first|exact tI|refine aI ?_ ?_|intro _)|((first|with_reducible refine AK ?_ ?_<;>intro _|(with_reducible refine isCall ?_);first|refine AE c1 ?_|refine AE c2 ?_|refine AE c3 ?_|refine AE c4 ?_|refine AE c5 ?_)<;>try (simp -implicitDefEqProofs only[go_sem,AP,AO,aV]))|simp (disch:=omega) only[Ae]
 all_goals first|rfl|omega|(exfalso;rename_i h;exact h rfl)|skip
theorem EG (c:AY):CA E0 NE [DX c] (.int .i64 (JU c)):=by
 have c1:=Q2 c.code
 have c2:=Ek c.L c.P c.Q
 have c4:=Pq c.nm c.mark
 have c5:=I' c.seed 1 127
 have c6:=I' c.errs 0 16
 have e1:c.code.ok=false->Ld c.code.ok 40=40:=fun h=>by rw[h];rfl
 have e0:c.code.ok=true->Ld c.code.ok 40=0:=fun h=>by rw[h];rfl
 have no:(c.code.ok && (C2 c.L c.P c.Q && (decide (c.Q*c.L<=32) && (Cx c.mark && (C1 c.seed 1 127 && C1 c.errs 0 16)))))=false->JU c=130:=fun h=>(Hm (by
  unfold AY.ok
  cases h1:c.code.ok<;>cases h2:C2 c.L c.P c.Q<;>cases h3:decide (c.Q*c.L<=32)<;>cases h4:Cx c.mark<;>cases h5:C1 c.seed 1 127<;>cases h6:C1 c.errs 0 16<;>simp_all)).2
 refine AL Q8 An (by simp) fun hwf=>?_
 rw[AR];unfold LH
 cases h1:c.code.ok with
 |false =>
  rw[no (by simp only[h1,Bool.false_and])];rw[e1 h1] at c1
  (try (simp -implicitDefEqProofs only[go_sem,AP,AO]));repeat' first|(with_reducible first|exact tI|refine aI ?_ ?_|intro _)|((first|with_reducible refine AK ?_ ?_<;>intro _|(with_reducible refine isCall ?_);first|refine AE c1 ?_)<;>try (simp -implicitDefEqProofs only[go_sem,AP,AO]))|simp (disch:=omega) only[Ae]|((with_reducible refine Ad ?_);refine⟨_,rfl,?_,?_⟩)
  all_goals first|rfl|skip
 |true =>
 rw[e0 h1] at c1
 cases h2:C2 c.L c.P c.Q with
 |false =>
  rw[no (by simp only[h1,h2,Bool.true_and,Bool.false_and])];rw[h2] at c2;simp only[Bool.false_eq_true,if_false] at c2
  (try (simp -implicitDefEqProofs only[go_sem,AP,AO]));repeat' first|(with_reducible first|exact tI|refine aI ?_ ?_|intro _)|((first|with_reducible refine AK ?_ ?_<;>intro _|(with_reducible refine isCall ?_);first|refine AE c1 ?_|refine AE c2 ?_)<;>try (simp -implicitDefEqProofs only[go_sem,AP,AO]))|simp (disch:=omega) only[Ae]|((with_reducible refine Ad ?_);refine⟨_,rfl,?_,?_⟩)
  all_goals first|rfl|skip
 |true =>
 rw[h2] at c2;simp only[if_true] at c2
 have c3:=Ec c h2
 by_cases h3:c.Q*c.L<=32
 ·have h3':¬32<c.Q*c.L:=by omega
  cases h4:Cx c.mark with
  |false =>
   rw[no (by simp only[h1,h2,h4,Bool.true_and,Bool.false_and,Bool.and_false])];rw[h4] at c4
   (try (simp -implicitDefEqProofs only[go_sem,AP,AO,h3']));repeat' first|(with_reducible first|exact tI|refine aI ?_ ?_|intro _)|((first|with_reducible refine AK ?_ ?_<;>intro _|(with_reducible refine isCall ?_);first|refine AE c1 ?_|refine AE c2 ?_|refine AE c3 ?_|refine AE c4 ?_)<;>try (simp -implicitDefEqProofs only[go_sem,AP,AO,h3']))|simp (disch:=omega) only[Ae]|((with_reducible refine Ad ?_);refine⟨_,rfl,?_,?_⟩)
   all_goals first|rfl|skip
  |true =>
  rw[h4] at c4
  cases h5:C1 c.seed 1 127 with
  |false =>
   rw[no (by simp only[h1,h2,h4,h5,Bool.true_and,Bool.false_and,Bool.and_false])];rw[h5] at c5
   (try (simp -implicitDefEqProofs only[go_sem,AP,AO,h3']));repeat' first|(with_reducible first|exact tI|refine aI ?_ ?_|intro _)|((first|with_reducible refine AK ?_ ?_<;>intro _|(with_reducible refine isCall ?_);first|refine AE c1 ?_|refine AE c2 ?_|refine AE c3 ?_|refine AE c4 ?_|refine AE c5 ?_)<;>try (simp -implicitDefEqProofs only[go_sem,AP,AO,h3']))|simp (disch:=omega) only[Ae]|((with_reducible refine Ad ?_);refine⟨_,rfl,?_,?_⟩)
   all_goals first|rfl|skip
  |true =>
  rw[h5] at c5
  cases h6:C1 c.errs 0 16 with
  |false =>
   rw[no (by simp only[h1,h2,h4,h5,h6,Bool.true_and,Bool.false_and,Bool.and_false])];rw[h6] at c6
   (try (simp -implicitDefEqProofs only[go_sem,AP,AO,h3']));repeat' first|(with_reducible first|exact tI|refine aI ?_ ?_|intro _)|((first|with_reducible refine AK ?_ ?_<;>intro _|(with_reducible refine isCall ?_);first|refine AE c1 ?_|refine AE c2 ?_|refine AE c3 ?_|refine AE c4 ?_|refine AE c5 ?_|refine AE c6 ?_)<;>try (simp -implicitDefEqProofs only[go_sem,AP,AO,h3']))|simp (disch:=omega) only[Ae]|((with_reducible refine Ad ?_);refine⟨_,rfl,?_,?_⟩)
   all_goals first|rfl|skip
  |true =>
  rw[h6] at c6
  have hok:JV c.code 16=true->JU c=0:=fun h=>(Ig (by
   unfold AY.ok;rw[h1,h2,decide_eq_true h3,h4,h5,h6,h];simp only[Bool.and_self])).2
  have hnok:JV c.code 16=false->JU c=130:=fun h=>(Hm (by
   unfold AY.ok;rw[h,Bool.and_false,Bool.and_false,Bool.and_false,Bool.and_false,Bool.and_false,Bool.and_false])).2
  (try (simp -implicitDefEqProofs only[go_sem,AP,AO,h3']));repeat' first|(with_reducible first|exact tI|refine aI ?_ ?_|intro _)|((first|with_reducible refine AK ?_ ?_<;>intro _|(with_reducible refine isCall ?_);first|refine AE c1 ?_|refine AE c2 ?_|refine AE c3 ?_|refine AE c4 ?_|refine AE c5 ?_|refine AE c6 ?_)<;>try (simp -implicitDefEqProofs only[go_sem,AP,AO,h3']))|simp (disch:=omega) only[Ae]|((with_reducible refine Ad ?_);refine⟨_,rfl,?_,?_⟩)
  all_goals first|omega|(simp<;>omega)|skip
  refine AX (α:=Nat) (l0:=?l1) (m0:=?m1) (fun x=>[(3,.d (.int .i64 (x:Int)))]) (fun x=>[]) (fun x=>x<=16/\JV c.code x=true) (fun x=>16-x) 0 ?h01 ?he1 ?he21 ?hI1 ?step1
  case h01=>(simp -implicitDefEqProofs only[go_sem];rfl)
  case he1=>rfl
  case he21=>rfl
  case' step1=>(rintro s hI;try dsimp only at hI)
  case' hI1=>try dsimp only
  ·exact⟨Nat.zero_le _,rfl⟩
  ·obtain⟨i1,i2⟩:=hI
   by_cases hs:s<16
   ·have hs':(s:Int)<16:=by omega
    have hws:IntKind.i64.wrap ((s:Int)+1)=((s+1:Nat):Int):=by rw[AZ _ (by omega)];omega
    have cs:=Ex c h1 s hs
    (try (simp -implicitDefEqProofs only[go_sem,hs']));repeat' first|(with_reducible first|exact tI|refine aI ?_ ?_|intro _)|((first|with_reducible refine AK ?_ ?_<;>intro _)<;>try (simp -implicitDefEqProofs only[go_sem,hs']))|simp (disch:=omega) only[Ae]|((with_reducible refine Ad ?_);refine⟨_,rfl,?_,?_⟩)
    all_goals first|omega|(simp<;>omega)|skip
    refine AX (α:=Nat) (l0:=?l2) (m0:=?m2) (fun x=>[(4,.d (.int .i64 (x:Int)))]) (fun x=>[]) (fun x=>x<=s/\∀j,j<x->c.code.stm j≠c.code.stm s) (fun x=>s-x) 0 ?h02 ?he2 ?he22 ?hI2 ?step2
    case h02=>(simp -implicitDefEqProofs only[go_sem];rfl)
    case he2=>rfl
    case he22=>rfl
    case' step2=>(rintro k hI2;try dsimp only at hI2)
    case' hI2=>try dsimp only
    ·exact⟨Nat.zero_le _,fun j hj=>by omega⟩
    ·obtain⟨k1,k2⟩:=hI2
     by_cases hk:k<s
     ·have hk':(k:Int)<(s:Int):=by omega
      have hwk:IntKind.i64.wrap ((k:Int)+1)=((k+1:Nat):Int):=by rw[AZ _ (by omega)];omega
      have ck:=Ex c h1 k (by omega)
      have c8:=Ej false false (c.code.stm s) (c.code.stm k)
      by_cases he:c.code.stm k=c.code.stm s
      ·rw[decide_eq_true he.symm] at c8
       rw[hnok (ir hs hk he)]
       (try (simp -implicitDefEqProofs only[go_sem,AP,AO,hk']));repeat' first|(with_reducible first|exact tI|refine aI ?_ ?_|intro _)|((first|with_reducible refine AK ?_ ?_<;>intro _|(with_reducible refine isCall ?_);first|refine AE cs ?_|refine AE ck ?_|refine AE c8 ?_)<;>try (simp -implicitDefEqProofs only[go_sem,AP,AO,hk']))|simp (disch:=omega) only[Ae]|((with_reducible refine Ad ?_);refine⟨_,rfl,?_,?_⟩)
       all_goals first|omega|(simp<;>omega)|skip
       all_goals first|rfl|skip
      ·rw[decide_eq_false fun e=>he e.symm] at c8
       (try (simp -implicitDefEqProofs only[go_sem,AP,AO,hk',hwk]));repeat' first|(with_reducible first|exact tI|refine aI ?_ ?_|intro _)|((first|with_reducible refine AK ?_ ?_<;>intro _|(with_reducible refine isCall ?_);first|refine AE cs ?_|refine AE ck ?_|refine AE c8 ?_)<;>try (simp -implicitDefEqProofs only[go_sem,AP,AO,hk',hwk]))|simp (disch:=omega) only[Ae]|((with_reducible refine Ad ?_);refine⟨_,rfl,?_,?_⟩)
       all_goals first|omega|(simp<;>omega)|skip
       rename_i j hj
       by_cases e:j=k
       ·rw[e];exact he
       ·exact k2 j (by omega)
     ·have hk':¬(k:Int)<(s:Int):=by omega
      have hds:=X1 i2 fun j hj=>k2 j (by omega)
      (try (simp -implicitDefEqProofs only[go_sem,hk',hws]));repeat' first|(with_reducible first|exact tI|refine aI ?_ ?_|intro _)|((first|with_reducible refine AK ?_ ?_<;>intro _)<;>try (simp -implicitDefEqProofs only[go_sem,hk',hws]))|simp (disch:=omega) only[Ae]|((with_reducible refine Ad ?_);refine⟨_,rfl,?_,?_⟩)
      all_goals first|omega|(simp<;>omega)|skip
      all_goals first|rfl|skip
   ·have hs16:s=16:=by omega
    subst hs16
    rw[hok i2]
    (try (simp -implicitDefEqProofs only[go_sem]));repeat' first|(with_reducible first|exact tI|refine aI ?_ ?_|intro _)|((first|with_reducible refine AK ?_ ?_<;>intro _)<;>try (simp -implicitDefEqProofs only[go_sem]))|simp (disch:=omega) only[Ae]|((with_reducible refine Ad ?_);refine⟨_,rfl,?_,?_⟩)
    all_goals first|omega|(simp<;>omega)|skip
    all_goals first|rfl|skip
 ·have h3':32<c.Q*c.L:=by omega
  rw[no (by rw[decide_eq_false h3];simp only[h1,h2,Bool.true_and,Bool.false_and])]
  (try (simp -implicitDefEqProofs only[go_sem,AP,AO,h3']));repeat' first|(with_reducible first|exact tI|refine aI ?_ ?_|intro _)|((first|with_reducible refine AK ?_ ?_<;>intro _|(with_reducible refine isCall ?_);first|refine AE c1 ?_|refine AE c2 ?_|refine AE c3 ?_)<;>try (simp -implicitDefEqProofs only[go_sem,AP,AO,h3']))|simp (disch:=omega) only[Ae]|((with_reducible refine Ad ?_);refine⟨_,rfl,?_,?_⟩)
  all_goals first|rfl|skip
end
section
def Zp (c:AY):Bool:=c.code.far || (decide (40<(c.mark.length:Int)) || (decide (8<c.Q) || (decide (15<c.L) || (c.ok && decide (8<c.Q*c.L)))))
def rq (c:AY) (d:List Int):Bool:=!Zp c && (c.ok && (decide (d.length<=100) && CP d (c.Q*(c.L-c.P))))
structure sP (c:AY) (d:List Int):Prop where
 ok:c.ok=true
 nf:Zp c=false
 len:d.length<=100
 sym:CP d (c.Q*(c.L-c.P))=true
def rp (out:List Int) (f:Int):List Int:=if 0<=f/\f<out.length then out.set f.toNat (1-out[f.toNat]?.getD 0) else out
def ro (out fl:List Int):List Int:=fl.foldl rp out
attribute [local congr] Bm A' BA Au Bn Az A1 A0 Ar Al Af Aa Aw Ag Ax BM BQ BO BP BN BR BG Aj Ay Ak BE BX Ai BK BL BF BH BJ BI BC BD A_ Bp BB Av Ah
attribute [local irreducible] IntKind.wrap A3 Option.getD and or
theorem Tk (c:AY):CA E0 Qu [DX c] (.bool (Zp c)):=by
 have c1:=Tl c.code
 have c2:=EG c
 refine AL Tv An (by simp) fun hwf=>?_
 rw[AR];unfold OO Zp
 obtain⟨fr,hfr⟩:∃fr,c.code.far=fr:=⟨_,rfl⟩
 rw[hfr] at c1 ⊢
 clear hfr
 rcases hok:c.ok with _|_
 ·rw[(Hm hok).2] at c2
  cases fr with
  |true =>
   (try (simp -implicitDefEqProofs only[go_sem,AP,AO]));repeat' first|(with_reducible first|exact tI|refine aI ?_ ?_|intro _)|((first|with_reducible refine AK ?_ ?_<;>intro _|(with_reducible refine isCall ?_);first|refine AE c1 ?_|refine AE c2 ?_)<;>try (simp -implicitDefEqProofs only[go_sem,AP,AO]))|simp (disch:=omega) only[Ae]
   all_goals first|rfl|(simp only[Bool.true_or];done)|skip
  |false =>
   (try (simp -implicitDefEqProofs only[go_sem,AP,AO]));repeat' first|(with_reducible first|exact tI|refine aI ?_ ?_|intro _)|((first|with_reducible refine AK ?_ ?_<;>intro _|(with_reducible refine isCall ?_);first|refine AE c1 ?_|refine AE c2 ?_)<;>try (simp -implicitDefEqProofs only[go_sem,AP,AO]))|simp (disch:=omega) only[Ae]
   all_goals first|rfl|(congr 1;symm;simp;omega)|skip
 ·rw[(Ig hok).2] at c2
  have c3:=Ec c (HT hok).wev
  cases fr with
  |true =>
   (try (simp -implicitDefEqProofs only[go_sem,AP,AO]));repeat' first|(with_reducible first|exact tI|refine aI ?_ ?_|intro _)|((first|with_reducible refine AK ?_ ?_<;>intro _|(with_reducible refine isCall ?_);first|refine AE c1 ?_|refine AE c2 ?_|refine AE c3 ?_)<;>try (simp -implicitDefEqProofs only[go_sem,AP,AO]))|simp (disch:=omega) only[Ae]
   all_goals first|rfl|(simp only[Bool.true_or];done)|skip
  |false =>
   (try (simp -implicitDefEqProofs only[go_sem,AP,AO]));repeat' first|(with_reducible first|exact tI|refine aI ?_ ?_|intro _)|((first|with_reducible refine AK ?_ ?_<;>intro _|(with_reducible refine isCall ?_);first|refine AE c1 ?_|refine AE c2 ?_|refine AE c3 ?_)<;>try (simp -implicitDefEqProofs only[go_sem,AP,AO]))|simp (disch:=omega) only[Ae]
   all_goals first|rfl|(congr 1;symm;simp;omega)|skip
end
section
def D6 (c:AY):AY:={ c with code:=Fh c.code,nm:=false }
theorem Nv (c:AY):(Fh c.code).stm=c.code.stm:=by
 funext s;unfold AW.stm;rw[Qp];rfl
theorem Z8 (c:AY) (m:Nat):JV (Fh c.code) m=JV c.code m:=by unfold JV;rw[Nv]
theorem Jc (c:AY):(D6 c).ok=c.ok:=by
 unfold AY.ok D6
 simp only[mP,Z8]
theorem YD (c:AY):DX (D6 c)=.agg [.int .i64 c.code.bits,.int .i64 c.code.out,.int .i64 c.code.least,.int .i64 c.code.most,.list c.code.words.isEmpty (DE (Fh c.code).words),.list c.code.next.isEmpty (DE (Fh c.code).next),.int .i64 c.L,.int .i64 c.P,.int .i64 c.Q,.list false (Ab c.mark),.int .i64 c.seed,.int .i64 c.errs]:=rfl
theorem mQ (c:AW):Fz (Fh c)=.agg [.int .i64 c.bits,.int .i64 c.out,.int .i64 c.least,.int .i64 c.most,.list c.words.isEmpty (DE (Fh c).words),.list c.next.isEmpty (DE (Fh c).next)]:=rfl
theorem Sh {c:AY}(h:c.ok=true):JU c=0:=(Ig h).2
theorem Vq {c:AY}(h:c.ok=false):JU c=130:=(Hm h).2
attribute [local congr] Bm A' BA Au Bn Az A1 A0 Ar Al Af Aa Aw Ag Ax BM BQ BO BP BN BR BG Aj Ay Ak BE BX Ai BK BL BF BH BJ BI BC BD A_ Bp BB Av Ah
attribute [local irreducible] IntKind.wrap A3 Option.getD and or
theorem SC (c:AY) (hf:c.code.far=false) (hm:c.mark.length<=1000):CA E0 PO [DX c] (DX (D6 c)):=by
 have c1:=SE c.code hf
 rw[mQ] at c1
 rw[YD]
 refine AL Sr An (by simp) fun hwf=>?_
 rw[AR];unfold Mx
 (try (simp -implicitDefEqProofs only[go_sem,AP,AO,BU,A9]));repeat' first|(with_reducible first|exact tI|refine aI ?_ ?_|intro _)|((first|with_reducible refine AK ?_ ?_<;>intro _|(with_reducible refine isCall ?_);first|refine AE c1 ?_)<;>try (simp -implicitDefEqProofs only[go_sem,AP,AO,BU,A9]))|simp (disch:=omega) only[Ae]
 all_goals first|rfl|omega|(rename_i h;rw[h];rfl)|skip
end
end Go.Pw
