/- A part of the proof. -/
import Derived.Test.YtibkjeolahobbaaDoorPgCdChrN
import Derived.Test.YtibkjeolahobbaaDoorPgCdChI
import Derived.Test.YtibkjeolahobbaaDoorPgCdChrBw
set_option linter.all false
section
open Go Go.Pw
namespace Go.Pw
def FF (f:Nat->Nat) (q:Nat):Nat->Nat->Nat
 |0,_=>0
 |i+1,k=>FF f q i k+if i%q=k then f i else 0
def M4 (f:Nat->Nat) (q:Nat):Nat->Nat->Nat
 |0,_=>0
 |m+1,k=>M4 f q m k+f (m*q+k)
theorem Vn (f:Nat->Nat) {q k:Nat}(hk:k<q) (m:Nat):∀t,t<=q->FF f q (m*q+t) k=FF f q (m*q) k+if k<t then f (m*q+k) else 0
 |0,_=>by simp
 |t+1,h=>by
  have ih:=Vn f hk m t (by omega)
  show FF f q (m*q+t) k+(if (m*q+t)%q=k then f (m*q+t) else 0)=_
  rw[ih,Qd (show t<q by omega)]
  by_cases h1:t=k
  ·subst h1
   rw[if_pos rfl,if_neg (by omega),if_pos (by omega)];omega
  ·rw[if_neg h1]
   by_cases h2:k<t
   ·rw[if_pos h2,if_pos (by omega)];rfl
   ·rw[if_neg h2,if_neg (by omega)]
theorem Ns (f:Nat->Nat) {q k:Nat}(hk:k<q):∀m,FF f q (m*q) k=M4 f q m k
 |0=>by rw[Nat.zero_mul];rfl
 |m+1=>by
  rw[Nat.add_mul,Nat.one_mul,Vn f hk m q (Nat.le_refl q),if_pos hk,Ns f hk m];rfl
theorem f8 {f g h:Nat->Nat}{q m k:Nat}(hk:k<q) (e:∀i,i<m*q->f i=2*g i+h i):M4 f q m k=2*M4 g q m k+M4 h q m k:=by
 induction m with
 |zero=>rfl
 |succ m ih =>
  have h1:=ih fun i hi=>e i (by rw[Nat.add_mul];omega)
  have h2:=e (m*q+k) (PE hk (by omega))
  show M4 f q m k+f (m*q+k)=2*(M4 g q m k+g (m*q+k))+(M4 h q m k+h (m*q+k))
  omega
theorem TI (mB:Nat->Bool) {q:Nat}(k:Nat):∀i,(O9 q k ((List.range i).filter mB)).length=FF (fun i=>if mB i then 1 else 0) q i k
 |0=>rfl
 |i+1=>by
  have ih:=TI mB (q:=q) k i
  rw[List.range_succ,List.filter_append]
  show _=FF _ q i k+if i%q=k then (if mB i then 1 else 0) else 0
  rw[←ih]
  cases hm:mB i with
  |false=>simp[hm]
  |true =>
   simp only[List.filter_cons,hm,if_true,List.filter_nil]
   rw[U_]
   by_cases h:i%q=k
   ·rw[if_pos h,if_pos h];simp
   ·rw[if_neg h,if_neg h];rfl
theorem YY {l q k:Nat}(hk:k<q) {a R:List F}{W:Nat->List F}{mB wB:Nat->Bool}(hw:∀j,j<l->(W k)[j]?.getD 0≠R[j*q+k]?.getD 0->mB (j*q+k)=false->wB (j*q+k)=true) :
  (MR l (W k) (CS l q k R) (O9 q k ((List.range (l*q)).filter mB))).length<=M4 (fun i=>if wB i then 1 else 0) q l k:=by
 have hmk:∀j,j<l->(j∈O9 q k ((List.range (l*q)).filter mB)↔mB (j*q+k)=true):=fun j hj=>by
  rw[gf hk,List.mem_filter,List.mem_range]
  exact⟨fun h=>h.2,fun h=>⟨PE hk hj,h⟩⟩
 have hg:∀j,j<l->(CS l q k R)[j]?.getD 0=R[j*q+k]?.getD 0:=fun j hj=>OP j hj
 generalize O9 q k ((List.range (l*q)).filter mB)=mk at *
 generalize CS l q k R=b at *
 unfold MR
 have:∀m,m<=l->((List.range m).filter fun j=>decide ((W k)[j]?.getD 0≠b[j]?.getD 0) && !mk.contains j).length<=M4 (fun i=>if wB i then 1 else 0) q m k:=by
  intro m
  induction m with
  |zero=>intro _;exact Nat.le_refl 0
  |succ m ih =>
   intro hm
   have i1:=ih (by omega)
   rw[List.range_succ,List.filter_append,List.length_append]
   show _<=M4 (fun i=>if wB i then 1 else 0) q m k+(if wB (m*q+k) then 1 else 0)
   refine Nat.add_le_add i1 ?_
   by_cases hc:(decide ((W k)[m]?.getD 0≠b[m]?.getD 0) && !mk.contains m)=true
   ·have hc2:=hc
    simp only[Bool.and_eq_true,decide_eq_true_eq,Bool.not_eq_true',List.contains_eq_mem,decide_eq_false_iff_not] at hc2
    have h3:mB (m*q+k)=false:=by
     cases h:mB (m*q+k) with
     |false=>rfl
     |true=>exact absurd ((hmk m (by omega)).2 h) hc2.2
    have h4:=hw m (by omega) (by rw[←hg m (by omega)];exact hc2.1) h3
    rw[h4]
    simp only[List.filter_cons,hc,if_true,List.filter_nil]
    exact Nat.le_refl 1
   ·simp only[List.filter_cons,hc,List.filter_nil]
    exact Nat.zero_le _
 exact this l (Nat.le_refl l)
theorem QP (mB:Nat->Bool) (n:Nat):Xv n ((List.range n).filter mB) :=
 ⟨List.Pairwise.filter _ List.pairwise_lt_range,fun j hj=>by simpa using (List.mem_filter.1 hj).1⟩
theorem RQ {l p q:Nat}(hl:l<=15) (hpl:p<l) (hq:0<q) {d R:List F}(hd:d.length=(l-p)*q) (hR:R.length=l*q) {mB wB:Nat->Bool}
  (hw:∀i,i<l*q->(Rs l p q d)[i]?.getD 0≠R[i]?.getD 0->mB i=false->wB i=true) {fC:Nat->Nat}(hf:∀i,i<l*q->fC i=if mB i then 1 else if wB i then 2 else 0)
  (hk:∀k,k<q->FF fC q (l*q) k<=p):XF l p q R ((List.range (l*q)).filter mB)=some d:=by
 refine RK hl hpl hq hd hR (QP mB _) fun k hkq=>?_
 have h1:=hk k hkq
 rw[Ns fC hkq] at h1
 rw[f8 (g:=fun i=>if wB i && !mB i then 1 else 0) (h:=fun i=>if mB i then 1 else 0) hkq fun i hi=>by
  rw[hf i hi]
  cases mB i<;>cases wB i<;>rfl] at h1
 rw[TI mB k,Ns _ hkq]
 have h2:=YY (a:=[]) (wB:=fun i=>wB i && !mB i) (mB:=mB) (R:=R) (W:=fun k=>GZ p (CS (l-p) q k d)) (l:=l) hkq fun j hj hne hm=>by
  have hlt:=PE hkq hj
  have h3:(Rs l p q d)[j*q+k]?.getD 0=(GZ p (CS (l-p) q k d))[j]?.getD 0:=by
   unfold Rs
   rw[Nx _ hlt,Td hkq,Qd hkq]
  rw[hw (j*q+k) hlt (by rw[h3];exact hne) hm,hm];rfl
 omega
end Go.Pw
end
section
open Go Go.Pw
namespace Go.Pw
theorem NP:∀(xs ys:List Int),Bv xs (xs++ys)=0
 |[],_=>by simp[Bv]
 |x::xs,ys=>by rw[List.cons_append,Bv,if_pos rfl,NP xs ys];rfl
theorem kV (mk:List Nat):nt (ni mk)=mk:=by
 unfold nt ni
 rw[List.map_map]
 exact List.map_id'' (fun x=>by simp) mk
theorem YH (l:List Nat) (i:Nat) (h:i<l.length):(ni l)[i]?.getD 0=((l[i]?.getD 0:Nat):Int):=by simp[ni,h]
theorem U9 {m:Nat}{mk:List Nat}(h:Xv m mk):EO (ni mk) (m:Int)=true:=SE fun i hi=>by
 have hil:i<mk.length:=by simpa[ni] using hi
 unfold gj
 rw[decide_eq_true_eq,YH _ _ hil,YH _ _ (show i-1<mk.length by omega)]
 have h1:=h.lt (mk[i]?.getD 0) (by rw[List.getElem?_eq_getElem hil];exact List.getElem_mem hil)
 refine⟨by omega,by exact_mod_cast h1,fun h0=>?_⟩
 have h2:=(List.pairwise_iff_getElem.1 h.asc) (i-1) i (by omega) hil (by omega)
 rw[List.getElem?_eq_getElem hil,List.getElem?_eq_getElem (show i-1<mk.length by omega)]
 exact_mod_cast h2
theorem Sq {c:AX}(hk:Ff c) {d:List Int}(he:spE c.L c.P c.Q d=0) :
  ∃(l p q:Nat) (e:List F),c.L=(l:Int)/\c.P=(p:Int)/\c.Q=(q:Int)/\2<=l/\l<=15/\1<=p/\p<=8/\p<l/\1<=q/\q<=8/\d=iv e/\e.length=(l-p)*q/\Rt c.L c.P c.Q d=iv (Rs l p q e)/\c.syms=l*q:=by
 obtain⟨l,p,q,h1,h2,h3,b1,b2,b3,b4,b5,b6,b7,hc⟩:=LS hk.wev
 have hw:=hk.wev
 unfold spE at he
 rw[if_pos hw] at he
 have hs:CR d (c.Q*(c.L-c.P))=true:=by
  cases hs:CR d (c.Q*(c.L-c.P)) with
  |true=>rfl
  |false=>rw[hs] at he;simp at he
 obtain⟨hl,hf⟩:=P2 hs
 refine⟨l,p,q,fs d,h1,h2,h3,b1,b2,b3,b4,b5,b6,b7,hf.symm,?_,?_,?_⟩
 ·rw[TN]
  rw[h1,h2,h3,show ((l:Int)-(p:Int))=((l-p:Nat):Int) by omega] at hl
  exact TJ hl
 ·unfold Rt
  rw[if_pos hw,if_pos hs,h1,h2,h3];rfl
 ·have:=hk.syms.2.2
  rw[h1,h3] at this
  have e:(q:Int)*(l:Int)=((l*q:Nat):Int):=by push_cast;exact Int.mul_comm ..
  rw[e] at this;omega
theorem km (w:List F):∀x,x∈iv w->0<=x/\x<=15:=fun x hx=>by
 simp only[iv,List.mem_map] at hx
 obtain⟨a,_,rfl⟩:=hx
 exact Sg a
theorem dV {c:AX}(hk:Ff c) {l p q:Nat}(h1:c.L=(l:Int)) (h2:c.P=(p:Int)) (h3:c.Q=(q:Int)) (hs:c.syms=l*q) {sy:List (Option Nat)}(hl:sy.length=c.syms) :
  RE c sy=oE (XF l p q (fs (CQ c.seed (Mo sy))) (Zf sy))/\VH c sy=iv (oL (XF l p q (fs (CQ c.seed (Mo sy))) (Zf sy))):=by
 have hw:=hk.wev
 have hxl:(CQ c.seed (Mo sy)).length=c.syms:=by rw[Ce,FM,hl]
 have hsy:CR (CQ c.seed (Mo sy)) (c.Q*c.L)=true:=by
  have:iv (fs (CQ c.seed (Mo sy)))=CQ c.seed (Mo sy):=YQ (by
   rw[List.all_eq_true]
   intro x hx
   have:=HB _ _ x hx
   unfold KQ;rw[decide_eq_true_eq];omega)
  rw[←this,bM,decide_eq_true_eq,TN,hxl]
  exact hk.syms.2.2.symm
 have hm:EO (ni (Zf sy)) ((CQ c.seed (Mo sy)).length:Int)=true:=by
  rw[hxl]
  refine U9 ⟨List.Pairwise.filter _ List.pairwise_lt_range,fun j hj=>?_⟩
  have:=(List.mem_filter.1 hj).1
  rw[List.mem_range] at this
  omega
 unfold RE VH mL lW
 rw[if_pos hw,if_pos hsy,if_pos hm,if_pos hw,if_pos hsy,if_pos hm,kV,h1,h2,h3,Int.toNat_natCast,Int.toNat_natCast,Int.toNat_natCast]
 exact⟨rfl,rfl⟩
theorem WQ {c:AX}{R:List Int}{i:Nat}(h:i<c.syms):(c.syL R 0)[i]?.getD none=Sk c.code (c.part R 0 i):=by
 simp[AX.syL,h]
theorem bn {c:AX}{sy:List (Option Nat)}{B:List F}{i:Nat}(hi:i<sy.length) (hB:i<B.length) {s:Nat}(hs:sy[i]?.getD none=some s) (hx:(s:Int)=(CQ c.seed (iv B))[i]?.getD 0) :
  (fs (CQ c.seed (Mo sy)))[i]?.getD 0=B[i]?.getD 0:=by
 have h1:=QD (Mo sy) c.seed i (by rw[FM];exact hi)
 have h2:=QD (iv B) c.seed i (by rw[JQ];exact hB)
 have h3:(Mo sy)[i]?.getD 0=(s:Int):=by
  simp only[Mo,List.getElem?_map]
  rw[List.getElem?_eq_getElem hi] at hs ⊢
  simp only[Option.getD_some,Option.map_some] at hs ⊢
  rw[hs];rfl
 have h4:0<=(iv B)[i]?.getD 0/\(iv B)[i]?.getD 0<=15:=km B _ (DS (by rw[JQ];exact hB))
 rw[h3,hx,h2,fw _ h4,dJ] at h1
 have h5:(fs (CQ c.seed (Mo sy)))[i]?.getD 0=Fin.ofNat 16 ((CQ c.seed (Mo sy))[i]?.getD 0).toNat:=by
  simp only[fs,List.getElem?_map]
  rw[List.getElem?_eq_getElem (by rw[Ce,FM];exact hi)];rfl
 rw[h5,h1,Int.toNat_natCast]
 exact Fin.ext (Nat.mod_eq_of_lt (B[i]?.getD 0).isLt)
theorem Qp {f g:Nat->Nat}{q:Nat}:∀{n:Nat},(∀i,i<n->f i<=g i)->∀k,FF f q n k<=FF g q n k
 |0,_,_=>Nat.le_refl _
 |n+1,h,k=>by
  have ih:=Qp (f:=f) (g:=g) (q:=q) (n:=n) (fun i hi=>h i (by omega)) k
  have h1:=h n (by omega)
  show FF f q n k+(if n%q=k then f n else 0)<=FF g q n k+(if n%q=k then g n else 0)
  split<;>omega
theorem Ut {c:AX}(hk:Ff c) {l p q:Nat}{e:List F}(h1:c.L=(l:Int)) (h2:c.P=(p:Int)) (h3:c.Q=(q:Int)) (b2:l<=15) (b5:p<l) (b6:1<=q) (he:e.length=(l-p)*q) (hs:c.syms=l*q)
  {sy:List (Option Nat)}(hl:sy.length=c.syms) {f:Nat->Nat}
  (hf:∀i,i<l*q->sy[i]?.getD none≠some ((CQ c.seed (iv (Rs l p q e)))[i]?.getD 0).toNat->(if (sy[i]?.getD none).isNone then 1 else 2)<=f i)
  (hc:∀k,k<q->FF f q (l*q) k<=p):RE c sy=0/\VH c sy=iv e:=by
 obtain⟨g1,g2⟩:=dV hk h1 h2 h3 hs hl
 have hBl:(Rs l p q e).length=l*q:=Sr ..
 have hrl:(fs (CQ c.seed (Mo sy))).length=l*q:=by rw[TN,Ce,FM,hl,hs]
 have key:=RQ (l:=l) (p:=p) (q:=q) b2 b5 (by omega) he hrl (mB:=fun i=>(sy[i]?.getD none).isNone) (wB:=fun i=>decide (sy[i]?.getD none≠some ((CQ c.seed (iv (Rs l p q e)))[i]?.getD 0).toNat))
  (fun i hi hne hm=>by
   rw[decide_eq_true_eq]
   intro hs2
   have hx:0<=(CQ c.seed (iv (Rs l p q e)))[i]?.getD 0:=(HB _ _ _ (DS (by rw[Ce,JQ,hBl];exact hi))).1
   exact hne (bn (by omega) (by omega) hs2 (by omega)).symm)
  (fC:=fun i=>if (sy[i]?.getD none).isNone then 1 else if decide (sy[i]?.getD none≠some ((CQ c.seed (iv (Rs l p q e)))[i]?.getD 0).toNat) then 2 else 0) (fun i hi=>rfl)
  (fun k hkq=>Nat.le_trans (Qp (fun i hi=>by
   by_cases hw:sy[i]?.getD none=some ((CQ c.seed (iv (Rs l p q e)))[i]?.getD 0).toNat
   ·rw[hw];simp
   ·have:=hf i hi hw
    by_cases hn:(sy[i]?.getD none).isNone=true
    ·rw[if_pos hn] at this ⊢;exact this
    ·rw[if_neg hn] at this ⊢
     rw[if_pos (by rw[decide_eq_true_eq];exact hw)];exact this) k) (hc k hkq))
 have hmk:Zf sy=(List.range (l*q)).filter fun i=>(sy[i]?.getD none).isNone:=by unfold Zf;rw[hl,hs]
 rw[g1,g2,hmk,key]
 exact⟨rfl,rfl⟩
theorem bj {c:AX}(hk:Ff c) {b:List Int}(hb:b.length=c.syms) (rest:List Int) {i:Nat}(hi:i<c.syms):(c.syL (DL c b++rest) 0)[i]?.getD none=some ((CQ c.seed b)[i]?.getD 0).toNat:=by
 rw[WQ hi]
 have hl:(CQ c.seed b).length=c.syms:=by rw[Ce,hb]
 unfold DL
 rw[QA c _ rest i (by omega)]
 have hx:=HB b c.seed _ (DS (show i<(CQ c.seed b).length by omega))
 exact UJ hk.dst (by omega)
theorem d6 {c:AX}(hk:Ff c) {b:List Int}(hb:b.length=c.syms) (rest:List Int):c.find (DL c b++rest)=some 0:=by
 refine Iy.2 ⟨?_,?_,fun j hj=>by omega⟩
 ·rw[List.length_append,JN,hb];unfold AX.tot;omega
 ·rw[List.drop_zero]
  unfold DL
  rw[List.append_assoc,NP];exact hk.errs.1
theorem Us {c:AX}(hk:Ff c) {d:List Int}(he:spE c.L c.P c.Q d=0) (rest:List Int) :
  c.find (DL c (Rt c.L c.P c.Q d)++rest)=some 0/\RE c (c.syL (DL c (Rt c.L c.P c.Q d)++rest) 0)=0/\VH c (c.syL (DL c (Rt c.L c.P c.Q d)++rest) 0)=d:=by
 have hbl:=Hq hk.wev he
 obtain⟨l,p,q,e,h1,h2,h3,b1,b2,b3,b4,b5,b6,b7,rfl,hel,hsp,hs⟩:=Sq hk he
 refine⟨d6 hk hbl rest,?_⟩
 refine Ut hk h1 h2 h3 b2 b5 b6 hel hs (LT ..) (f:=fun _=>0) (fun i hi hne=>?_) fun k _=>?_
 ·rw[bj hk hbl rest (by omega),hsp] at hne
  exact absurd rfl hne
 ·have:∀n,FF (fun _=>0) q n k=0:=fun n=>by
   induction n with
   |zero=>rfl
   |succ n ih=>show FF _ q n k+(if n%q=k then 0 else 0)=0;rw[ih];split<;>rfl
  rw[this];omega
end Go.Pw
end
section
open Go Go.Pw Go.Proofs
namespace Go.Pw
set_option maxRecDepth 100000
set_option maxHeartbeats 3200000
def nZ (m q:Nat) (W:Nat->List F) (k j:Nat):List F:=(List.range (m*q)).map fun i=>if i%q<k\/(i%q=k/\i/q<j) then (W (i%q))[i/q]?.getD 0 else 0
attribute [local congr] Bi A9 A_ Aq Bj Ax Az Ay Ap Aj Ad AY Au Ae Av BH BL BJ BK BI BM BE Ah Aw Ai BC BS Ag BF BG BD BA BB A8 Bl A' Ar Af
attribute [local irreducible] IntKind.wrap A3 Option.getD and or
theorem KZ (L P Q:Int):CK E0 Hb [.agg [.int .i64 L,.int .i64 P,.int .i64 Q]] (.int .i64 (if Cv L P Q=true then 0 else 50)):=by
 have c1:=PO L P
 have c2:=GD Q 1 8
 refine AM K0 A0 (by simp) fun hwf=>?_
 rw[AU];unfold Gs Cv
 cases hc:ED L P with
 |false =>
  rw[hc] at c1
  simp only[Bool.false_eq_true,if_false,Bool.false_and] at c1 ⊢
  (try (simp -implicitDefEqProofs only[go_sem]));repeat' first|(with_reducible first|exact tI|refine aI ?_ ?_|intro _)|((first|with_reducible refine AO ?_ ?_<;>intro _|(with_reducible refine isCall ?_);first|refine AE c1 ?_)<;>try (simp -implicitDefEqProofs only[go_sem]))|simp (disch:=omega) only[An]
  all_goals first|rfl|(simp;done)|skip
 |true =>
  rw[hc] at c1
  simp only[if_true,Bool.true_and] at c1 ⊢
  by_cases h:1<=Q/\Q<=8
  ·rw[decide_eq_true h] at c2 ⊢
   (try (simp -implicitDefEqProofs only[go_sem]));repeat' first|(with_reducible first|exact tI|refine aI ?_ ?_|intro _)|((first|with_reducible refine AO ?_ ?_<;>intro _|(with_reducible refine isCall ?_);first|refine AE c1 ?_|refine AE c2 ?_)<;>try (simp -implicitDefEqProofs only[go_sem]))|simp (disch:=omega) only[An]
   all_goals first|rfl|(simp;done)|skip
  ·rw[decide_eq_false h] at c2 ⊢
   (try (simp -implicitDefEqProofs only[go_sem]));repeat' first|(with_reducible first|exact tI|refine aI ?_ ?_|intro _)|((first|with_reducible refine AO ?_ ?_<;>intro _|(with_reducible refine isCall ?_);first|refine AE c1 ?_|refine AE c2 ?_)<;>try (simp -implicitDefEqProofs only[go_sem]))|simp (disch:=omega) only[An]
   all_goals first|rfl|(simp;done)|skip
end Go.Pw
end
section
open Go Go.Pw Go.Proofs
namespace Go.Pw
set_option maxRecDepth 100000
set_option maxHeartbeats 3200000
def YT:AX:={ code:=eA,L:=3,P:=2,Q:=1,nm:=false,mark:=[1,1,1,0],seed:=1,errs:=0 }
def iT:List Int:=[1,1,1,0,1,0,1,0,1,0,0,1,1,0,1,0,1,0,0,1,1,0,1,0,0,1,0,0]
theorem QW:YT.ok=true:=by decide +kernel
theorem jZ:T4 YT [1]=iT:=by decide +kernel
theorem eC:spE YT.L YT.P YT.Q [1]=0:=by decide +kernel
theorem lD:V3 YT=1:=by decide +kernel
theorem lC:Hi iT=true:=by decide +kernel
theorem eB:ZO YT iT=.tup [.list false (Al [1]),.int .i64 0,.int .i64 0]:=by
 obtain⟨h1,h2,h3⟩:=Us (D7 QW) eC []
 have hw:=jZ
 unfold T4 at hw
 rw[if_pos QW,if_pos eC] at hw
 rw[hw,List.append_nil] at h1 h2 h3
 unfold ZO Uv YD YC
 simp only[QW,lC,if_true,h1,h2,h3]
 rfl
attribute [local congr] Bi A9 A_ Aq Bj Ax Az Ay Ap Aj Ad AY Au Ae Av BH BL BJ BK BI BM BE Ah Aw Ai BC BS Ag BF BG BD BA BB A8 Bl A' Ar Af
attribute [local irreducible] IntKind.wrap A3 Option.getD and or
theorem NE:CK E0 J6 [] (.tup [FG YT,.list false (Al iT)]):=by
 have c1:=NF
 refine AM NX A0 (by simp) fun hwf=>?_
 rw[AU];unfold Ih
 (try (simp -implicitDefEqProofs only[go_sem,BO,A6]));repeat' first|(with_reducible first|exact tI|refine aI ?_ ?_|intro _)|((first|with_reducible refine AO ?_ ?_<;>intro _|(with_reducible refine isCall ?_);first|refine AE c1 ?_)<;>try (simp -implicitDefEqProofs only[go_sem,BO,A6]))|simp (disch:=omega) only[An]
 all_goals first|rfl|skip
theorem Gl:CK E0 L9 [] (.bool true):=by
 have c1:=NE
 have c2:=Dd YT false [1]
 have c3:=Er YT false iT
 have c4:=H6 YT
 have c5:=Du false false iT iT
 rw[decide_eq_true rfl] at c5
 have e1:lV YT [1]=0:=by unfold lV;rw[if_pos QW,if_pos eC]
 have e2:=(GE QW).2
 rw[jZ,e1] at c2
 rw[eB] at c3
 rw[lD,e2] at c4
 obtain⟨W,hW⟩:∃W,iT=W:=⟨_,rfl⟩
 have hWe:iT.isEmpty=false:=rfl
 rw[hWe] at c2
 rw[hW] at c1 c2 c3 c5
 refine AM PX A0 (by simp) fun hwf=>?_
 rw[AU];unfold Kg
 have hc:FG YT=.agg (Vo YT):=rfl
 (try (simp -implicitDefEqProofs only[go_sem,AI,AH,Oz]));repeat' first|(with_reducible first|exact tI|refine aI ?_ ?_|intro _)|((first|with_reducible refine AO ?_ ?_<;>intro _|(with_reducible refine isCall ?_);first|refine AE c1 ?_|refine AE c2 ?_|refine AE c3 ?_|refine AE c4 ?_|refine AE c5 ?_)<;>try (simp -implicitDefEqProofs only[go_sem,AI,AH,Oz]))|simp (disch:=omega) only[An]
 all_goals first|rfl|omega|(exfalso;rename_i h;exact h rfl)|skip
theorem Ji (c:AX):CK E0 L6 [FG c] (.int .i64 (OV c)):=by
 have c1:=PP c.code
 have c2:=KZ c.L c.P c.Q
 have c4:=OK c.nm c.mark
 have c5:=IZ c.seed 1 127
 have c6:=IZ c.errs 0 16
 have e1:c.code.ok=false->Kx c.code.ok 40=40:=fun h=>by rw[h];rfl
 have e0:c.code.ok=true->Kx c.code.ok 40=0:=fun h=>by rw[h];rfl
 have no:(c.code.ok && (Cv c.L c.P c.Q && (decide (c.Q*c.L<=32) && (Cl c.mark && (Cq c.seed 1 127 && Cq c.errs 0 16)))))=false->OV c=130:=fun h=>(HH (by
  unfold AX.ok
  cases h1:c.code.ok<;>cases h2:Cv c.L c.P c.Q<;>cases h3:decide (c.Q*c.L<=32)<;>cases h4:Cl c.mark<;>cases h5:Cq c.seed 1 127<;>cases h6:Cq c.errs 0 16<;>simp_all)).2
 refine AM PU A0 (by simp) fun hwf=>?_
 rw[AU];unfold Kd
 cases h1:c.code.ok with
 |false =>
  rw[no (by simp only[h1,Bool.false_and])];rw[e1 h1] at c1
  (try (simp -implicitDefEqProofs only[go_sem,AI,AH]));repeat' first|(with_reducible first|exact tI|refine aI ?_ ?_|intro _)|((first|with_reducible refine AO ?_ ?_<;>intro _|(with_reducible refine isCall ?_);first|refine AE c1 ?_)<;>try (simp -implicitDefEqProofs only[go_sem,AI,AH]))|simp (disch:=omega) only[An]|((with_reducible refine A5 ?_);refine⟨_,rfl,?_,?_⟩)
  all_goals first|rfl|skip
 |true =>
 rw[e0 h1] at c1
 cases h2:Cv c.L c.P c.Q with
 |false =>
  rw[no (by simp only[h1,h2,Bool.true_and,Bool.false_and])];rw[h2] at c2;simp only[Bool.false_eq_true,if_false] at c2
  (try (simp -implicitDefEqProofs only[go_sem,AI,AH]));repeat' first|(with_reducible first|exact tI|refine aI ?_ ?_|intro _)|((first|with_reducible refine AO ?_ ?_<;>intro _|(with_reducible refine isCall ?_);first|refine AE c1 ?_|refine AE c2 ?_)<;>try (simp -implicitDefEqProofs only[go_sem,AI,AH]))|simp (disch:=omega) only[An]|((with_reducible refine A5 ?_);refine⟨_,rfl,?_,?_⟩)
  all_goals first|rfl|skip
 |true =>
 rw[h2] at c2;simp only[if_true] at c2
 have c3:=EV c h2
 by_cases h3:c.Q*c.L<=32
 ·have h3':¬32<c.Q*c.L:=by omega
  cases h4:Cl c.mark with
  |false =>
   rw[no (by simp only[h1,h2,h4,Bool.true_and,Bool.false_and,Bool.and_false])];rw[h4] at c4
   (try (simp -implicitDefEqProofs only[go_sem,AI,AH,h3']));repeat' first|(with_reducible first|exact tI|refine aI ?_ ?_|intro _)|((first|with_reducible refine AO ?_ ?_<;>intro _|(with_reducible refine isCall ?_);first|refine AE c1 ?_|refine AE c2 ?_|refine AE c3 ?_|refine AE c4 ?_)<;>try (simp -implicitDefEqProofs only[go_sem,AI,AH,h3']))|simp (disch:=omega) only[An]|((with_reducible refine A5 ?_);refine⟨_,rfl,?_,?_⟩)
   all_goals first|rfl|skip
  |true =>
  rw[h4] at c4
  cases h5:Cq c.seed 1 127 with
  |false =>
   rw[no (by simp only[h1,h2,h4,h5,Bool.true_and,Bool.false_and,Bool.and_false])];rw[h5] at c5
   (try (simp -implicitDefEqProofs only[go_sem,AI,AH,h3']));repeat' first|(with_reducible first|exact tI|refine aI ?_ ?_|intro _)|((first|with_reducible refine AO ?_ ?_<;>intro _|(with_reducible refine isCall ?_);first|refine AE c1 ?_|refine AE c2 ?_|refine AE c3 ?_|refine AE c4 ?_|refine AE c5 ?_)<;>try (simp -implicitDefEqProofs only[go_sem,AI,AH,h3']))|simp (disch:=omega) only[An]|((with_reducible refine A5 ?_);refine⟨_,rfl,?_,?_⟩)
   all_goals first|rfl|skip
  |true =>
  rw[h5] at c5
  cases h6:Cq c.errs 0 16 with
  |false =>
   rw[no (by simp only[h1,h2,h4,h5,h6,Bool.true_and,Bool.false_and,Bool.and_false])];rw[h6] at c6
   (try (simp -implicitDefEqProofs only[go_sem,AI,AH,h3']));repeat' first|(with_reducible first|exact tI|refine aI ?_ ?_|intro _)|((first|with_reducible refine AO ?_ ?_<;>intro _|(with_reducible refine isCall ?_);first|refine AE c1 ?_|refine AE c2 ?_|refine AE c3 ?_|refine AE c4 ?_|refine AE c5 ?_|refine AE c6 ?_)<;>try (simp -implicitDefEqProofs only[go_sem,AI,AH,h3']))|simp (disch:=omega) only[An]|((with_reducible refine A5 ?_);refine⟨_,rfl,?_,?_⟩)
   all_goals first|rfl|skip
  |true =>
  rw[h6] at c6
  have hok:Ky c.code 16=true->OV c=0:=fun h=>(GE (by
   unfold AX.ok;rw[h1,h2,decide_eq_true h3,h4,h5,h6,h];simp only[Bool.and_self])).2
  have hnok:Ky c.code 16=false->OV c=130:=fun h=>(HH (by
   unfold AX.ok;rw[h,Bool.and_false,Bool.and_false,Bool.and_false,Bool.and_false,Bool.and_false,Bool.and_false])).2
  (try (simp -implicitDefEqProofs only[go_sem,AI,AH,h3']));repeat' first|(with_reducible first|exact tI|refine aI ?_ ?_|intro _)|((first|with_reducible refine AO ?_ ?_<;>intro _|(with_reducible refine isCall ?_);first|refine AE c1 ?_|refine AE c2 ?_|refine AE c3 ?_|refine AE c4 ?_|refine AE c5 ?_|refine AE c6 ?_)<;>try (simp -implicitDefEqProofs only[go_sem,AI,AH,h3']))|simp (disch:=omega) only[An]|((with_reducible refine A5 ?_);refine⟨_,rfl,?_,?_⟩)
  all_goals first|omega|(simp;done)|(simp;omega)|skip
  refine AZ (α:=Nat) (l0:=?l1) (m0:=?m1) (fun x=>[(3,.d (.int .i64 (x:Int)))]) (fun x=>[]) (fun x=>x<=16/\Ky c.code x=true) (fun x=>16-x) 0 ?h01 ?he1 ?he21 ?hI1 ?step1
  case h01=>(simp -implicitDefEqProofs only[go_sem];rfl)
  case he1=>rfl
  case he21=>rfl
  case' step1=>(rintro s hI;try dsimp only at hI)
  case' hI1=>try dsimp only
  ·exact⟨Nat.zero_le _,rfl⟩
  ·obtain⟨i1,i2⟩:=hI
   by_cases hs:s<16
   ·have hs':(s:Int)<16:=by omega
    have hws:IntKind.i64.wrap ((s:Int)+1)=((s+1:Nat):Int):=by rw[Ak _ (by omega)];omega
    have cs:=Ia c h1 s hs
    (try (simp -implicitDefEqProofs only[go_sem,hs']));repeat' first|(with_reducible first|exact tI|refine aI ?_ ?_|intro _)|((first|with_reducible refine AO ?_ ?_<;>intro _)<;>try (simp -implicitDefEqProofs only[go_sem,hs']))|simp (disch:=omega) only[An]|((with_reducible refine A5 ?_);refine⟨_,rfl,?_,?_⟩)
    all_goals first|omega|(simp;done)|(simp;omega)|skip
    refine AZ (α:=Nat) (l0:=?l2) (m0:=?m2) (fun x=>[(4,.d (.int .i64 (x:Int)))]) (fun x=>[]) (fun x=>x<=s/\∀j,j<x->c.code.stm j≠c.code.stm s) (fun x=>s-x) 0 ?h02 ?he2 ?he22 ?hI2 ?step2
    case h02=>(simp -implicitDefEqProofs only[go_sem];rfl)
    case he2=>rfl
    case he22=>rfl
    case' step2=>(rintro k hI2;try dsimp only at hI2)
    case' hI2=>try dsimp only
    ·exact⟨Nat.zero_le _,fun j hj=>by omega⟩
    ·obtain⟨k1,k2⟩:=hI2
     by_cases hk:k<s
     ·have hk':(k:Int)<(s:Int):=by omega
      have hwk:IntKind.i64.wrap ((k:Int)+1)=((k+1:Nat):Int):=by rw[Ak _ (by omega)];omega
      have ck:=Ia c h1 k (by omega)
      have c8:=Du false false (c.code.stm s) (c.code.stm k)
      by_cases he:c.code.stm k=c.code.stm s
      ·rw[decide_eq_true he.symm] at c8
       rw[hnok (eM hs hk he)]
       (try (simp -implicitDefEqProofs only[go_sem,AI,AH,hk']));repeat' first|(with_reducible first|exact tI|refine aI ?_ ?_|intro _)|((first|with_reducible refine AO ?_ ?_<;>intro _|(with_reducible refine isCall ?_);first|refine AE cs ?_|refine AE ck ?_|refine AE c8 ?_)<;>try (simp -implicitDefEqProofs only[go_sem,AI,AH,hk']))|simp (disch:=omega) only[An]|((with_reducible refine A5 ?_);refine⟨_,rfl,?_,?_⟩)
       all_goals first|omega|(simp;done)|(simp;omega)|skip
       all_goals first|rfl|skip
      ·rw[decide_eq_false fun e=>he e.symm] at c8
       (try (simp -implicitDefEqProofs only[go_sem,AI,AH,hk',hwk]));repeat' first|(with_reducible first|exact tI|refine aI ?_ ?_|intro _)|((first|with_reducible refine AO ?_ ?_<;>intro _|(with_reducible refine isCall ?_);first|refine AE cs ?_|refine AE ck ?_|refine AE c8 ?_)<;>try (simp -implicitDefEqProofs only[go_sem,AI,AH,hk',hwk]))|simp (disch:=omega) only[An]|((with_reducible refine A5 ?_);refine⟨_,rfl,?_,?_⟩)
       all_goals first|omega|(simp;done)|(simp;omega)|skip
       rename_i j hj
       by_cases e:j=k
       ·rw[e];exact he
       ·exact k2 j (by omega)
     ·have hk':¬(k:Int)<(s:Int):=by omega
      have hds:=Ve i2 fun j hj=>k2 j (by omega)
      (try (simp -implicitDefEqProofs only[go_sem,hk',hws]));repeat' first|(with_reducible first|exact tI|refine aI ?_ ?_|intro _)|((first|with_reducible refine AO ?_ ?_<;>intro _)<;>try (simp -implicitDefEqProofs only[go_sem,hk',hws]))|simp (disch:=omega) only[An]|((with_reducible refine A5 ?_);refine⟨_,rfl,?_,?_⟩)
      all_goals first|omega|(simp;done)|(simp;omega)|skip
      all_goals first|rfl|skip
   ·have hs16:s=16:=by omega
    subst hs16
    rw[hok i2]
    (try (simp -implicitDefEqProofs only[go_sem]));repeat' first|(with_reducible first|exact tI|refine aI ?_ ?_|intro _)|((first|with_reducible refine AO ?_ ?_<;>intro _)<;>try (simp -implicitDefEqProofs only[go_sem]))|simp (disch:=omega) only[An]|((with_reducible refine A5 ?_);refine⟨_,rfl,?_,?_⟩)
    all_goals first|omega|(simp;done)|(simp;omega)|skip
    all_goals first|rfl|skip
 ·have h3':32<c.Q*c.L:=by omega
  rw[no (by rw[decide_eq_false h3];simp only[h1,h2,Bool.true_and,Bool.false_and])]
  (try (simp -implicitDefEqProofs only[go_sem,AI,AH,h3']));repeat' first|(with_reducible first|exact tI|refine aI ?_ ?_|intro _)|((first|with_reducible refine AO ?_ ?_<;>intro _|(with_reducible refine isCall ?_);first|refine AE c1 ?_|refine AE c2 ?_|refine AE c3 ?_)<;>try (simp -implicitDefEqProofs only[go_sem,AI,AH,h3']))|simp (disch:=omega) only[An]|((with_reducible refine A5 ?_);refine⟨_,rfl,?_,?_⟩)
  all_goals first|rfl|skip
end Go.Pw
end
section
open Go Go.Pw Go.Proofs
namespace Go.Pw
set_option maxRecDepth 100000
set_option maxHeartbeats 3200000
def Zy (c:AX):Bool:=c.code.far || (decide (40<(c.mark.length:Int)) || (decide (8<c.Q) || (decide (15<c.L) || (c.ok && decide (8<c.Q*c.L)))))
def Uu (c:AX) (d:List Int):Bool:=!Zy c && (c.ok && (decide (d.length<=100) && CR d (c.Q*(c.L-c.P))))
structure jN (c:AX) (d:List Int):Prop where
 ok:c.ok=true
 nf:Zy c=false
 len:d.length<=100
 sym:CR d (c.Q*(c.L-c.P))=true
theorem S' {c:AX}{d:List Int}(h:Uu c d=true):jN c d:=by
 unfold Uu at h
 simp only[Bool.and_eq_true,Bool.not_eq_true',decide_eq_true_eq] at h
 exact⟨h.2.1,h.1,h.2.2.1,h.2.2.2⟩
theorem jN.spE {c:AX}{d:List Int}(h:jN c d):spE c.L c.P c.Q d=0:=by
 unfold Go.Pw.spE
 rw[if_pos (D7 h.ok).wev,if_pos h.sym]
theorem jN.syms {c:AX}{d:List Int}(h:jN c d):c.syms<=8:=by
 have h1:=h.nf
 have h2:=(D7 h.ok).syms
 unfold Zy at h1
 rw[h.ok] at h1
 simp only[Bool.or_eq_false_iff,Bool.true_and,decide_eq_false_iff_not] at h1
 omega
theorem jN.tot {c:AX}{d:List Int}(h:jN c d):c.tot<=176:=by
 have h1:=h.syms
 have hk:=D7 h.ok
 have h2:=E3 hk.code;have h3:=hk.markl
 have:c.syms*c.code.sz<=8*20:=Nat.mul_le_mul h1 h2.2
 unfold AX.tot;omega
theorem jN.wr {c:AX}{d:List Int}(h:jN c d):T4 c d=DL c (Rt c.L c.P c.Q d)/\lV c d=0/\(T4 c d).length=c.tot:=by
 have h1:T4 c d=DL c (Rt c.L c.P c.Q d):=by unfold T4;rw[if_pos h.ok,if_pos h.spE]
 refine⟨h1,by unfold lV;rw[if_pos h.ok,if_pos h.spE],?_⟩
 rw[h1,JN,Hq (D7 h.ok).wev h.spE];rfl
def So (out:List Int) (f:Int):List Int:=if 0<=f/\f<out.length then out.set f.toNat (1-out[f.toNat]?.getD 0) else out
def KE (out fl:List Int):List Int:=fl.foldl So out
theorem fZ (out:List Int) (f:Int):(So out f).length=out.length:=by unfold So;split<;>simp
theorem Ms (fl:List Int):∀out:List Int,(KE out fl).length=out.length:=by
 induction fl with
 |nil=>intro out;rfl
 |cons f fl ih=>intro out;show (KE (So out f) fl).length=_;rw[ih,fZ]
theorem Yy (out fl:List Int) (f:Int):KE out (fl++[f])=So (KE out fl) f:=by simp[KE]
theorem bR {out:List Int}(h:Ab out=true) (f:Int):Ab (So out f)=true:=by
 unfold So
 split
 ·rename_i hf
  refine PI h _ ?_
  have:=Df h (i:=f.toNat) (by omega)
  simp only[Cq,decide_eq_true_eq];omega
 ·exact h
theorem Rp (fl:List Int):∀{out:List Int},Ab out=true->Ab (KE out fl)=true:=by
 induction fl with
 |nil=>intro out h;exact h
 |cons f fl ih=>intro out h;exact ih (bR h f)
attribute [local congr] Bi A9 A_ Aq Bj Ax Az Ay Ap Aj Ad AY Au Ae Av BH BL BJ BK BI BM BE Ah Aw Ai BC BS Ag BF BG BD BA BB A8 Bl A' Ar Af
attribute [local irreducible] IntKind.wrap A3 Option.getD and or
theorem RO (c:AX):CK E0 PJ [FG c] (.bool (Zy c)):=by
 have c1:=RP c.code
 have c2:=Ji c
 refine AM RY A0 (by simp) fun hwf=>?_
 rw[AU];unfold M6 Zy
 obtain⟨fr,hfr⟩:∃fr,c.code.far=fr:=⟨_,rfl⟩
 rw[hfr] at c1 ⊢
 clear hfr
 rcases hok:c.ok with _|_
 ·rw[(HH hok).2] at c2
  cases fr with
  |true =>
   (try (simp -implicitDefEqProofs only[go_sem,AI,AH]));repeat' first|(with_reducible first|exact tI|refine aI ?_ ?_|intro _)|((first|with_reducible refine AO ?_ ?_<;>intro _|(with_reducible refine isCall ?_);first|refine AE c1 ?_|refine AE c2 ?_)<;>try (simp -implicitDefEqProofs only[go_sem,AI,AH]))|simp (disch:=omega) only[An]
   all_goals first|rfl|(simp only[Bool.true_or];done)|skip
  |false =>
   (try (simp -implicitDefEqProofs only[go_sem,AI,AH]));repeat' first|(with_reducible first|exact tI|refine aI ?_ ?_|intro _)|((first|with_reducible refine AO ?_ ?_<;>intro _|(with_reducible refine isCall ?_);first|refine AE c1 ?_|refine AE c2 ?_)<;>try (simp -implicitDefEqProofs only[go_sem,AI,AH]))|simp (disch:=omega) only[An]
   all_goals first|rfl|(congr 1;symm;simp;omega)|skip
 ·rw[(GE hok).2] at c2
  have c3:=EV c (D7 hok).wev
  cases fr with
  |true =>
   (try (simp -implicitDefEqProofs only[go_sem,AI,AH]));repeat' first|(with_reducible first|exact tI|refine aI ?_ ?_|intro _)|((first|with_reducible refine AO ?_ ?_<;>intro _|(with_reducible refine isCall ?_);first|refine AE c1 ?_|refine AE c2 ?_|refine AE c3 ?_)<;>try (simp -implicitDefEqProofs only[go_sem,AI,AH]))|simp (disch:=omega) only[An]
   all_goals first|rfl|(simp only[Bool.true_or];done)|skip
  |false =>
   (try (simp -implicitDefEqProofs only[go_sem,AI,AH]));repeat' first|(with_reducible first|exact tI|refine aI ?_ ?_|intro _)|((first|with_reducible refine AO ?_ ?_<;>intro _|(with_reducible refine isCall ?_);first|refine AE c1 ?_|refine AE c2 ?_|refine AE c3 ?_)<;>try (simp -implicitDefEqProofs only[go_sem,AI,AH]))|simp (disch:=omega) only[An]
   all_goals first|rfl|(congr 1;symm;simp;omega)|skip
theorem FL (c:AX) (nl:Bool) (d:List Int):CK E0 L_ [FG c,.list nl (Al d)] (.bool (Uu c d)):=by
 have c1:=RO c
 have c2:=Ji c
 refine AM PY A0 (by simp) fun hwf=>?_
 rw[AU];unfold Kh Uu
 obtain⟨fr,hfr⟩:∃fr,Zy c=fr:=⟨_,rfl⟩
 rw[hfr] at c1 ⊢
 clear hfr
 cases fr with
 |true =>
  (try (simp -implicitDefEqProofs only[go_sem,AI,AH]));repeat' first|(with_reducible first|exact tI|refine aI ?_ ?_|intro _)|((first|with_reducible refine AO ?_ ?_<;>intro _|(with_reducible refine isCall ?_);first|refine AE c1 ?_)<;>try (simp -implicitDefEqProofs only[go_sem,AI,AH]))|simp (disch:=omega) only[An]
  all_goals first|rfl|(simp only[Bool.not_true,Bool.false_and];done)|skip
 |false =>
  rcases hok:c.ok with _|_
  ·rw[(HH hok).2] at c2
   (try (simp -implicitDefEqProofs only[go_sem,AI,AH]));repeat' first|(with_reducible first|exact tI|refine aI ?_ ?_|intro _)|((first|with_reducible refine AO ?_ ?_<;>intro _|(with_reducible refine isCall ?_);first|refine AE c1 ?_|refine AE c2 ?_)<;>try (simp -implicitDefEqProofs only[go_sem,AI,AH]))|simp (disch:=omega) only[An]
   all_goals first|rfl|(simp only[Bool.false_and,Bool.and_false];done)|skip
  ·rw[(GE hok).2] at c2
   have hb:=Sf (D7 hok).wev
   have w1:IntKind.i64.wrap (c.L-c.P)=c.L-c.P:=Ak _ (by omega)
   have w2:IntKind.i64.wrap (c.Q*(c.L-c.P))=c.Q*(c.L-c.P):=Ak _ (by
    have h1:0<=c.Q*(c.L-c.P):=Int.mul_nonneg (by omega) (by omega)
    have h2:c.Q*(c.L-c.P)<=8*15:=Int.mul_le_mul (by omega) (by omega) (by omega) (by omega)
    omega)
   have c3:=Ka nl d (c.Q*(c.L-c.P))
   obtain⟨sb,hsb⟩:∃sb,CR d (c.Q*(c.L-c.P))=sb:=⟨_,rfl⟩
   rw[hsb] at c3 ⊢
   by_cases hl:d.length<=100
   ·have hl':(d.length:Int)<=100:=by omega
    (try (simp -implicitDefEqProofs only[go_sem,AI,AH,w1,w2,hl']));repeat' first|(with_reducible first|exact tI|refine aI ?_ ?_|intro _)|((first|with_reducible refine AO ?_ ?_<;>intro _|(with_reducible refine isCall ?_);first|refine AE c1 ?_|refine AE c2 ?_|refine AE c3 ?_)<;>try (simp -implicitDefEqProofs only[go_sem,AI,AH,w1,w2,hl']))|simp (disch:=omega) only[An]
    all_goals first|rfl|(rename_i h;rw[h];simp[hl];done)|skip
   ·have hl':¬(d.length:Int)<=100:=by omega
    (try (simp -implicitDefEqProofs only[go_sem,AI,AH,w1,w2,hl']));repeat' first|(with_reducible first|exact tI|refine aI ?_ ?_|intro _)|((first|with_reducible refine AO ?_ ?_<;>intro _|(with_reducible refine isCall ?_);first|refine AE c1 ?_|refine AE c2 ?_|refine AE c3 ?_)<;>try (simp -implicitDefEqProofs only[go_sem,AI,AH,w1,w2,hl']))|simp (disch:=omega) only[An]
    all_goals first|rfl|(simp[hl];done)|skip
theorem ND (n1 n2:Bool) (bits fl:List Int) (hb:Ab bits=true) (h1000:bits.length<=1000000) (hne:¬bits=[]):CK E0 J5 [.list n1 (Al bits),.list n2 (Al fl)] (.list false (Al (KE bits fl))):=by
 refine AM NW A0 (by simp) fun hwf=>?_
 simp only[EM,DU,DT,DI,Ed,Ec,GL,Eb,Bq,B3,B4,DY,CI,List.length_map,CB,true_and,and_true] at hwf
 rw[AU];unfold Ig
 (try (simp -implicitDefEqProofs only[go_sem,hne]));repeat' first|(with_reducible first|exact tI|refine aI ?_ ?_|intro _)|((first|with_reducible refine AO ?_ ?_<;>intro _)<;>try (simp -implicitDefEqProofs only[go_sem,hne]))|simp (disch:=omega) only[An]|((with_reducible refine Ao ?_);refine⟨(_,_),rfl,?_,?_⟩)
 all_goals first|omega|(simp;done)|(simp;omega)|skip
 have hl0:=Ms
 refine AZ (α:=Nat×(List Int)) (l0:=?l1) (m0:=?m1) (fun x=>[(6,.d (.int .i64 (x.1:Int)))]) (fun x=>[(9,.row 3 1 false (Al x.2))]) (fun x=>x.1<=fl.length/\x.2=KE bits (fl.take x.1)) (fun x=>fl.length-x.1) (0,bits) ?h01 ?he1 ?he21 ?hI1 ?step1
 case h01=>(simp -implicitDefEqProofs only[go_sem];rfl)
 case he1=>rfl
 case he21=>rfl
 case' step1=>(rintro⟨k,R⟩ hI;try dsimp only at hI)
 case' hI1=>try dsimp only
 ·exact⟨Nat.zero_le _,rfl⟩
 ·obtain⟨k1,k2⟩:=hI
  change R=KE bits (fl.take k) at k2
  have hRl:R.length=bits.length:=by rw[k2,Ms]
  have hRb:Ab R=true:=by rw[k2];exact Rp _ hb
  by_cases hk:k<fl.length
  ·have hk':(k:Int)<(fl.length:Int):=by omega
   have hwk:IntKind.i64.wrap ((k:Int)+1)=((k+1:Nat):Int):=by rw[Ak _ (by omega)];omega
   obtain⟨f,hf⟩:∃f,fl[k]?.getD 0=f:=⟨_,rfl⟩
   have hst:So R f=KE bits (fl.take (k+1)):=by
    rw[k2,←Yy,←hf,List.take_add_one,List.getElem?_eq_getElem hk];simp[Option.getD]
   by_cases h0:0<=f
   ·by_cases h1:f<(R.length:Int)
    ·have hv:=Df hRb (i:=f.toNat) (by omega)
     have hwv:IntKind.i64.wrap (1-R[f.toNat]?.getD 0)=1-R[f.toNat]?.getD 0:=Ak _ (by omega)
     have hs2:So R f=R.set f.toNat (1-R[f.toNat]?.getD 0):=by unfold So;rw[if_pos ⟨h0,h1⟩]
     (try (simp -implicitDefEqProofs only[go_sem,hk',hk,hwk,hf,h0,h1,hwv]));repeat' first|(with_reducible first|exact tI|refine aI ?_ ?_|intro _)|((first|with_reducible refine AO ?_ ?_<;>intro _)<;>try (simp -implicitDefEqProofs only[go_sem,hk',hk,hwk,hf,h0,h1,hwv]))|simp (disch:=omega) only[An]|((with_reducible refine Ao ?_);refine⟨(_,_),rfl,?_,?_⟩)
     all_goals first|omega|(simp;done)|(simp;omega)|skip
     rw[←hs2,hst]
    ·have hs2:So R f=R:=by unfold So;rw[if_neg fun h=>h1 h.2]
     (try (simp -implicitDefEqProofs only[go_sem,hk',hk,hwk,hf,h0,h1]));repeat' first|(with_reducible first|exact tI|refine aI ?_ ?_|intro _)|((first|with_reducible refine AO ?_ ?_<;>intro _)<;>try (simp -implicitDefEqProofs only[go_sem,hk',hk,hwk,hf,h0,h1]))|simp (disch:=omega) only[An]|((with_reducible refine Ao ?_);refine⟨(_,_),rfl,?_,?_⟩)
     all_goals first|omega|(simp;done)|(simp;omega)|skip
     rw[←hst,hs2]
   ·have hs2:So R f=R:=by unfold So;rw[if_neg fun h=>h0 h.1]
    (try (simp -implicitDefEqProofs only[go_sem,hk',hk,hwk,hf,h0]));repeat' first|(with_reducible first|exact tI|refine aI ?_ ?_|intro _)|((first|with_reducible refine AO ?_ ?_<;>intro _)<;>try (simp -implicitDefEqProofs only[go_sem,hk',hk,hwk,hf,h0]))|simp (disch:=omega) only[An]|((with_reducible refine Ao ?_);refine⟨(_,_),rfl,?_,?_⟩)
    all_goals first|omega|(simp;done)|(simp;omega)|skip
    rw[←hst,hs2]
  ·have hk':¬(k:Int)<(fl.length:Int):=by omega
   have hte:fl.take k=fl:=List.take_of_length_le (by omega)
   rw[hte] at k2
   rw[←k2]
   (try (simp -implicitDefEqProofs only[go_sem,hk']));repeat' first|(with_reducible first|exact tI|refine aI ?_ ?_|intro _)|((first|with_reducible refine AO ?_ ?_<;>intro _)<;>try (simp -implicitDefEqProofs only[go_sem,hk']))|simp (disch:=omega) only[An]|((with_reducible refine Ao ?_);refine⟨(_,_),rfl,?_,?_⟩)
   all_goals first|omega|(simp;done)|(simp;omega)|skip
   all_goals first|rfl|skip
end Go.Pw
end
section
open Go Go.Pw Go.Proofs
namespace Go.Pw
set_option maxRecDepth 100000
set_option maxHeartbeats 3200000
def Qr (c:AX) (a b:List Int) (i:Nat):Nat:=if c.part a 0 i=c.part b 0 i then 0 else 1
def oO (c:AX) (a b:List Int) (n:Nat):List Int:=(List.range c.Q.toNat).map fun k=>((FF (Qr c a b) c.Q.toNat n k:Nat):Int)
theorem iu (c:AX) (a b:List Int) (i:Nat):Qr c a b i<=1:=by unfold Qr;split<;>omega
def oH (c:AX) (bits:List Int):D:=.tup [.int .i64 (match c.find bits with|some a=>(a:Int)|none=>0),.bool (c.find bits).isSome]
attribute [local congr] Bi A9 A_ Aq Bj Ax Az Ay Ap Aj Ad AY Au Ae Av BH BL BJ BK BI BM BE Ah Aw Ai BC BS Ag BF BG BD BA BB A8 Bl A' Ar Af
attribute [local irreducible] IntKind.wrap A3 Option.getD and or
theorem Hu (nl:Bool) (xs:List Int):CK E0 J3 [.list nl (Al xs)] (.bool (Hi xs)):=by
 have c1:=Hv nl xs
 refine AM NU A0 (by simp) fun hwf=>?_
 rw[AU];unfold Ic Hi
 obtain⟨sb,hsb⟩:∃sb,Ab xs=sb:=⟨_,rfl⟩
 rw[hsb] at c1 ⊢
 by_cases hl:xs.length<=1000
 ·have hl':(xs.length:Int)<=1000:=by omega
  (try (simp -implicitDefEqProofs only[go_sem,hl']));repeat' first|(with_reducible first|exact tI|refine aI ?_ ?_|intro _)|((first|with_reducible refine AO ?_ ?_<;>intro _|(with_reducible refine isCall ?_);first|refine AE c1 ?_)<;>try (simp -implicitDefEqProofs only[go_sem,hl']))|simp (disch:=omega) only[An]
  all_goals first|rfl|(rename_i h;rw[h];simp[hl];done)|skip
 ·have hl':¬(xs.length:Int)<=1000:=by omega
  (try (simp -implicitDefEqProofs only[go_sem,hl']));repeat' first|(with_reducible first|exact tI|refine aI ?_ ?_|intro _)|((first|with_reducible refine AO ?_ ?_<;>intro _|(with_reducible refine isCall ?_);first|refine AE c1 ?_)<;>try (simp -implicitDefEqProofs only[go_sem,hl']))|simp (disch:=omega) only[An]
  all_goals first|rfl|(simp[hl];done)|skip
end Go.Pw
end
