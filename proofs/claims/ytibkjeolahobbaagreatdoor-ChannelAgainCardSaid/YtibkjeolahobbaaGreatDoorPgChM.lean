/- A part of the proof. -/
import Derived.Test.YtibkjeolahobbaaGreatDoorPgChI
import Derived.Test.YtibkjeolahobbaaGreatDoorPgChrPh2
import Derived.Test.YtibkjeolahobbaaGreatDoorPgChrN
set_option linter.all false
open Go Go.Pw Go.Proofs
namespace Go.Pw
set_option maxRecDepth 100000
set_option maxHeartbeats 3200000
theorem VZ:∀(xs ys:List Int),Ce xs (xs++ys)=0
 |[],_=>by simp[Ce]
 |x::xs,ys=>by rw[List.cons_append,Ce,if_pos rfl,VZ xs ys];rfl
theorem kl (mk:List Nat):nt (ni mk)=mk:=by
 unfold nt ni
 rw[List.map_map]
 exact List.map_id'' (fun x=>by simp) mk
theorem YB (l:List Nat) (i:Nat) (h:i<l.length):(ni l)[i]?.getD 0=((l[i]?.getD 0:Nat):Int):=by simp[ni,h]
theorem U0 {m:Nat}{mk:List Nat}(h:ak m mk):EJ (ni mk) (m:Int)=true:=SG fun i hi=>by
 have hil:i<mk.length:=by simpa[ni] using hi
 unfold g6
 rw[decide_eq_true_eq,YB _ _ hil,YB _ _ (show i-1<mk.length by omega)]
 have h1:=h.lt (mk[i]?.getD 0) (by rw[List.getElem?_eq_getElem hil];exact List.getElem_mem hil)
 refine⟨by omega,by exact_mod_cast h1,fun h0=>?_⟩
 have h2:=(List.pairwise_iff_getElem.1 h.asc) (i-1) i (by omega) hil (by omega)
 rw[List.getElem?_eq_getElem hil,List.getElem?_eq_getElem (show i-1<mk.length by omega)]
 exact_mod_cast h2
theorem fz {c:AX}(hk:G6 c) {d:List Int}(he:spE c.L c.P c.Q d=0) :
  ∃(l p q:Nat) (e:List F),c.L=(l:Int)/\c.P=(p:Int)/\c.Q=(q:Int)/\2<=l/\l<=15/\1<=p/\p<=8/\p<l/\1<=q/\q<=8/\d=iv e/\e.length=(l-p)*q/\UL c.L c.P c.Q d=iv (Yq l p q e)/\c.syms=l*q:=by
 obtain⟨l,p,q,h1,h2,h3,b1,b2,b3,b4,b5,b6,b7,hc⟩:=Mr hk.wev
 have hw:=hk.wev
 unfold spE at he
 rw[if_pos hw] at he
 have hs:CN d (c.Q*(c.L-c.P))=true:=by
  cases hs:CN d (c.Q*(c.L-c.P)) with
  |true=>rfl
  |false=>rw[hs] at he;simp at he
 obtain⟨hl,hf⟩:=P4 hs
 refine⟨l,p,q,fs d,h1,h2,h3,b1,b2,b3,b4,b5,b6,b7,hf.symm,?_,?_,?_⟩
 ·rw[W7]
  rw[h1,h2,h3,show ((l:Int)-(p:Int))=((l-p:Nat):Int) by omega] at hl
  exact TC hl
 ·unfold UL
  rw[if_pos hw,if_pos hs,h1,h2,h3];rfl
 ·have:=hk.syms.2.2
  rw[h1,h3] at this
  have e:(q:Int)*(l:Int)=((l*q:Nat):Int):=by push_cast;exact Int.mul_comm ..
  rw[e] at this;omega
theorem lD (w:List F):∀x,x∈iv w->0<=x/\x<=15:=fun x hx=>by
 simp only[iv,List.mem_map] at hx
 obtain⟨a,_,rfl⟩:=hx
 exact Si a
theorem md {c:AX}(hk:G6 c) {l p q:Nat}(h1:c.L=(l:Int)) (h2:c.P=(p:Int)) (h3:c.Q=(q:Int)) (hs:c.syms=l*q) {sy:List (Option Nat)}(hl:sy.length=c.syms) :
  Zg c sy=oE (dp l p q (fs (Db c.seed (O8 sy))) (fO sy))/\af c sy=iv (oL (dp l p q (fs (Db c.seed (O8 sy))) (fO sy))):=by
 have hw:=hk.wev
 have hxl:(Db c.seed (O8 sy)).length=c.syms:=by rw[EW,Fd,hl]
 have hsy:CN (Db c.seed (O8 sy)) (c.Q*c.L)=true:=by
  have:iv (fs (Db c.seed (O8 sy)))=Db c.seed (O8 sy):=YN (by
   rw[List.all_eq_true]
   intro x hx
   have:=KV _ _ x hx
   unfold KM;rw[decide_eq_true_eq];omega)
  rw[←this,bJ,decide_eq_true_eq,W7,hxl]
  exact hk.syms.2.2.symm
 have hm:EJ (ni (fO sy)) ((Db c.seed (O8 sy)).length:Int)=true:=by
  rw[hxl]
  refine U0 ⟨List.Pairwise.filter _ List.pairwise_lt_range,fun j hj=>?_⟩
  have:=(List.mem_filter.1 hj).1
  rw[List.mem_range] at this
  omega
 unfold Zg af mf lx
 rw[if_pos hw,if_pos hsy,if_pos hm,if_pos hw,if_pos hsy,if_pos hm,kl,h1,h2,h3,Int.toNat_natCast,Int.toNat_natCast,Int.toNat_natCast]
 exact⟨rfl,rfl⟩
theorem Sn {c:AX}{R:List Int}{i:Nat}(h:i<c.syms):(c.syL R 0)[i]?.getD none=RO c.code (c.part R 0 i):=by
 simp[AX.syL,h]
theorem kN {c:AX}{sy:List (Option Nat)}{B:List F}{i:Nat}(hi:i<sy.length) (hB:i<B.length) {s:Nat}(hs:sy[i]?.getD none=some s) (hx:(s:Int)=(Db c.seed (iv B))[i]?.getD 0) :
  (fs (Db c.seed (O8 sy)))[i]?.getD 0=B[i]?.getD 0:=by
 have h1:=QF (O8 sy) c.seed i (by rw[Fd];exact hi)
 have h2:=QF (iv B) c.seed i (by rw[Kp];exact hB)
 have h3:(O8 sy)[i]?.getD 0=(s:Int):=by
  simp only[O8,List.getElem?_map]
  rw[List.getElem?_eq_getElem hi] at hs ⊢
  simp only[Option.getD_some,Option.map_some] at hs ⊢
  rw[hs];rfl
 have h4:0<=(iv B)[i]?.getD 0/\(iv B)[i]?.getD 0<=15:=lD B _ (EC (by rw[Kp];exact hB))
 rw[h3,hx,h2,gI _ h4,dR] at h1
 have h5:(fs (Db c.seed (O8 sy)))[i]?.getD 0=Fin.ofNat 16 ((Db c.seed (O8 sy))[i]?.getD 0).toNat:=by
  simp only[fs,List.getElem?_map]
  rw[List.getElem?_eq_getElem (by rw[EW,Fd];exact hi)];rfl
 rw[h5,h1,Int.toNat_natCast]
 exact Fin.ext (Nat.mod_eq_of_lt (B[i]?.getD 0).isLt)
theorem Ve {f g:Nat->Nat}{q:Nat}:∀{n:Nat},(∀i,i<n->f i<=g i)->∀k,Lp f q n k<=Lp g q n k
 |0,_,_=>Nat.le_refl _
 |n+1,h,k=>by
  have ih:=Ve (f:=f) (g:=g) (q:=q) (n:=n) (fun i hi=>h i (by omega)) k
  have h1:=h n (by omega)
  show Lp f q n k+(if n%q=k then f n else 0)<=Lp g q n k+(if n%q=k then g n else 0)
  split<;>omega
theorem b_ {c:AX}(hk:G6 c) {l p q:Nat}{e:List F}(h1:c.L=(l:Int)) (h2:c.P=(p:Int)) (h3:c.Q=(q:Int)) (b2:l<=15) (b5:p<l) (b6:1<=q) (he:e.length=(l-p)*q) (hs:c.syms=l*q)
  {sy:List (Option Nat)}(hl:sy.length=c.syms) {f:Nat->Nat}
  (hf:∀i,i<l*q->sy[i]?.getD none≠some ((Db c.seed (iv (Yq l p q e)))[i]?.getD 0).toNat->(if (sy[i]?.getD none).isNone then 1 else 2)<=f i)
  (hc:∀k,k<q->Lp f q (l*q) k<=p):Zg c sy=0/\af c sy=iv e:=by
 obtain⟨g1,g2⟩:=md hk h1 h2 h3 hs hl
 have hBl:(Yq l p q e).length=l*q:=Xy ..
 have hrl:(fs (Db c.seed (O8 sy))).length=l*q:=by rw[W7,EW,Fd,hl,hs]
 have key:=RZ (l:=l) (p:=p) (q:=q) b2 b5 (by omega) he hrl (mB:=fun i=>(sy[i]?.getD none).isNone) (wB:=fun i=>decide (sy[i]?.getD none≠some ((Db c.seed (iv (Yq l p q e)))[i]?.getD 0).toNat))
  (fun i hi hne hm=>by
   rw[decide_eq_true_eq]
   intro hs2
   have hx:0<=(Db c.seed (iv (Yq l p q e)))[i]?.getD 0:=(KV _ _ _ (EC (by rw[EW,Kp,hBl];exact hi))).1
   exact hne (kN (by omega) (by omega) hs2 (by omega)).symm)
  (fC:=fun i=>if (sy[i]?.getD none).isNone then 1 else if decide (sy[i]?.getD none≠some ((Db c.seed (iv (Yq l p q e)))[i]?.getD 0).toNat) then 2 else 0) (fun i hi=>rfl)
  (fun k hkq=>Nat.le_trans (Ve (fun i hi=>by
   by_cases hw:sy[i]?.getD none=some ((Db c.seed (iv (Yq l p q e)))[i]?.getD 0).toNat
   ·rw[hw];simp
   ·have:=hf i hi hw
    by_cases hn:(sy[i]?.getD none).isNone=true
    ·rw[if_pos hn] at this ⊢;exact this
    ·rw[if_neg hn] at this ⊢
     rw[if_pos (by rw[decide_eq_true_eq];exact hw)];exact this) k) (hc k hkq))
 have hmk:fO sy=(List.range (l*q)).filter fun i=>(sy[i]?.getD none).isNone:=by unfold fO;rw[hl,hs]
 rw[g1,g2,hmk,key]
 exact⟨rfl,rfl⟩
theorem bf {c:AX}(hk:G6 c) {b:List Int}(hb:b.length=c.syms) (rest:List Int) {i:Nat}(hi:i<c.syms):(c.syL (JL c b++rest) 0)[i]?.getD none=some ((Db c.seed b)[i]?.getD 0).toNat:=by
 rw[Sn hi]
 have hl:(Db c.seed b).length=c.syms:=by rw[EW,hb]
 unfold JL
 rw[bg c _ rest i (by omega)]
 have hx:=KV b c.seed _ (EC (show i<(Db c.seed b).length by omega))
 exact Mu hk.dst (by omega)
theorem eC {c:AX}(hk:G6 c) {b:List Int}(hb:b.length=c.syms) (rest:List Int):c.find (JL c b++rest)=some 0:=by
 refine OO.2 ⟨?_,?_,fun j hj=>by omega⟩
 ·rw[List.length_append,X1,hb];unfold AX.tot;omega
 ·rw[List.drop_zero]
  unfold JL
  rw[List.append_assoc,VZ];exact hk.errs.1
theorem Un {c:AX}(hk:G6 c) {d:List Int}(he:spE c.L c.P c.Q d=0) (rest:List Int) :
  c.find (JL c (UL c.L c.P c.Q d)++rest)=some 0/\Zg c (c.syL (JL c (UL c.L c.P c.Q d)++rest) 0)=0/\af c (c.syL (JL c (UL c.L c.P c.Q d)++rest) 0)=d:=by
 have hbl:=Pg hk.wev he
 obtain⟨l,p,q,e,h1,h2,h3,b1,b2,b3,b4,b5,b6,b7,rfl,hel,hsp,hs⟩:=fz hk he
 refine⟨eC hk hbl rest,?_⟩
 refine b_ hk h1 h2 h3 b2 b5 b6 hel hs (LT ..) (f:=fun _=>0) (fun i hi hne=>?_) fun k _=>?_
 ·rw[bf hk hbl rest (by omega),hsp] at hne
  exact absurd rfl hne
 ·have:∀n,Lp (fun _=>0) q n k=0:=fun n=>by
   induction n with
   |zero=>rfl
   |succ n ih=>show Lp _ q n k+(if n%q=k then 0 else 0)=0;rw[ih];split<;>rfl
  rw[this];omega
section
def oO (m q:Nat) (W:Nat->List F) (k j:Nat):List F:=(List.range (m*q)).map fun i=>if i%q<k\/(i%q=k/\i/q<j) then (W (i%q))[i/q]?.getD 0 else 0
attribute [local congr] Bh A7 A8 Au Bi Az A1 A0 Ar Ai Ab AZ Aw Ad Ax BF BJ BH BI BG BK BC Ag Ay Ah BA BS Af BD BE BB A_ A' A6 Bj A9 Av Ae
attribute [local irreducible] IntKind.wrap A5 Option.getD and or
theorem KZ (L P Q:Int):CI E0 Ha [.agg [.int .i64 L,.int .i64 P,.int .i64 Q]] (.int .i64 (if Cx L P Q=true then 0 else 50)):=by
 have c1:=PK L P
 have c2:=F_ Q 1 8
 refine AK K0 Aq (by simp) fun hwf=>?_
 rw[AW];unfold Gp Cx
 cases hc:D7 L P with
 |false =>
  rw[hc] at c1
  simp only[Bool.false_eq_true,if_false,Bool.false_and] at c1 ⊢
  (try (simp -implicitDefEqProofs only[go_sem]));repeat' first|(with_reducible first|exact tI|refine aI ?_ ?_|intro _)|((first|with_reducible refine AM ?_ ?_<;>intro _|(with_reducible refine isCall ?_);first|refine AE c1 ?_)<;>try (simp -implicitDefEqProofs only[go_sem]))|simp (disch:=omega) only[An]
  all_goals first|rfl|(simp;done)|skip
 |true =>
  rw[hc] at c1
  simp only[if_true,Bool.true_and] at c1 ⊢
  by_cases h:1<=Q/\Q<=8
  ·rw[decide_eq_true h] at c2 ⊢
   (try (simp -implicitDefEqProofs only[go_sem]));repeat' first|(with_reducible first|exact tI|refine aI ?_ ?_|intro _)|((first|with_reducible refine AM ?_ ?_<;>intro _|(with_reducible refine isCall ?_);first|refine AE c1 ?_|refine AE c2 ?_)<;>try (simp -implicitDefEqProofs only[go_sem]))|simp (disch:=omega) only[An]
   all_goals first|rfl|(simp;done)|skip
  ·rw[decide_eq_false h] at c2 ⊢
   (try (simp -implicitDefEqProofs only[go_sem]));repeat' first|(with_reducible first|exact tI|refine aI ?_ ?_|intro _)|((first|with_reducible refine AM ?_ ?_<;>intro _|(with_reducible refine isCall ?_);first|refine AE c1 ?_|refine AE c2 ?_)<;>try (simp -implicitDefEqProofs only[go_sem]))|simp (disch:=omega) only[An]
   all_goals first|rfl|(simp;done)|skip
end
section
def YP:AX:={ code:=eI,L:=3,P:=2,Q:=1,nm:=false,mark:=[1,1,1,0],seed:=1,errs:=0 }
def im:List Int:=[1,1,1,0,1,0,1,0,1,0,0,1,1,0,1,0,1,0,0,1,1,0,1,0,0,1,0,0]
theorem Qc:YP.ok=true:=by decide +kernel
theorem jm:ap YP [1]=im:=by decide +kernel
theorem eK:spE YP.L YP.P YP.Q [1]=0:=by decide +kernel
theorem lU:e_ YP=1:=by decide +kernel
theorem lT:Gh im=true:=by decide +kernel
theorem eJ:gT YP im=.tup [.list false (Aj [1]),.int .i64 0,.int .i64 0]:=by
 obtain⟨h1,h2,h3⟩:=Un (FD Qc) eK []
 have hw:=jm
 unfold ap at hw
 rw[if_pos Qc,if_pos eK] at hw
 rw[hw,List.append_nil] at h1 h2 h3
 unfold gT X9 cK cH
 simp only[Qc,lT,if_true,h1,h2,h3]
 rfl
attribute [local congr] Bh A7 A8 Au Bi Az A1 A0 Ar Ai Ab AZ Aw Ad Ax BF BJ BH BI BG BK BC Ag Ay Ah BA BS Af BD BE BB A_ A' A6 Bj A9 Av Ae
attribute [local irreducible] IntKind.wrap A5 Option.getD and or
theorem NF:CI E0 J4 [] (.tup [Fj YP,.list false (Aj im)]):=by
 have c1:=NG
 refine AK NS Aq (by simp) fun hwf=>?_
 rw[AW];unfold Ig
 (try (simp -implicitDefEqProofs only[go_sem,BQ,BN]));repeat' first|(with_reducible first|exact tI|refine aI ?_ ?_|intro _)|((first|with_reducible refine AM ?_ ?_<;>intro _|(with_reducible refine isCall ?_);first|refine AE c1 ?_)<;>try (simp -implicitDefEqProofs only[go_sem,BQ,BN]))|simp (disch:=omega) only[An]
 all_goals first|rfl|skip
theorem PN:CI E0 L9 [] (.bool true):=by
 have c1:=NF
 have c2:=H4 YP false [1]
 have c3:=Oj YP false im
 have c4:=Np YP
 have c5:=FY false false im im
 rw[decide_eq_true rfl] at c5
 have e1:lw YP [1]=0:=by unfold lw;rw[if_pos Qc,if_pos eK]
 have e2:=(JN Qc).2
 rw[jm,e1] at c2
 rw[eJ] at c3
 rw[lU,e2] at c4
 obtain⟨W,hW⟩:∃W,im=W:=⟨_,rfl⟩
 have hWe:im.isEmpty=false:=rfl
 rw[hWe] at c2
 rw[hW] at c1 c2 c3 c5
 refine AK PV Aq (by simp) fun hwf=>?_
 rw[AW];unfold Kg
 have hc:Fj YP=.agg (Vf YP):=rfl
 (try (simp -implicitDefEqProofs only[go_sem,AO,AN,UX]));repeat' first|(with_reducible first|exact tI|refine aI ?_ ?_|intro _)|((first|with_reducible refine AM ?_ ?_<;>intro _|(with_reducible refine isCall ?_);first|refine AE c1 ?_|refine AE c2 ?_|refine AE c3 ?_|refine AE c4 ?_|refine AE c5 ?_)<;>try (simp -implicitDefEqProofs only[go_sem,AO,AN,UX]))|simp (disch:=omega) only[An]
 all_goals first|rfl|omega|(exfalso;rename_i h;exact h rfl)|skip
theorem Jh (c:AX):CI E0 L6 [Fj c] (.int .i64 (Qh c)):=by
 have c1:=PL c.code
 have c2:=KZ c.L c.P c.Q
 have c4:=OE c.nm c.mark
 have c5:=IZ c.seed 1 127
 have c6:=IZ c.errs 0 16
 have e1:c.code.ok=false->Kx c.code.ok 40=40:=fun h=>by rw[h];rfl
 have e0:c.code.ok=true->Kx c.code.ok 40=0:=fun h=>by rw[h];rfl
 have no:(c.code.ok && (Cx c.L c.P c.Q && (decide (c.Q*c.L<=32) && (Ci c.mark && (Cp c.seed 1 127 && Cp c.errs 0 16)))))=false->Qh c=130:=fun h=>(H_ (by
  unfold AX.ok
  cases h1:c.code.ok<;>cases h2:Cx c.L c.P c.Q<;>cases h3:decide (c.Q*c.L<=32)<;>cases h4:Ci c.mark<;>cases h5:Cp c.seed 1 127<;>cases h6:Cp c.errs 0 16<;>simp_all)).2
 refine AK PS Aq (by simp) fun hwf=>?_
 rw[AW];unfold Kd
 cases h1:c.code.ok with
 |false =>
  rw[no (by simp only[h1,Bool.false_and])];rw[e1 h1] at c1
  (try (simp -implicitDefEqProofs only[go_sem,AO,AN]));repeat' first|(with_reducible first|exact tI|refine aI ?_ ?_|intro _)|((first|with_reducible refine AM ?_ ?_<;>intro _|(with_reducible refine isCall ?_);first|refine AE c1 ?_)<;>try (simp -implicitDefEqProofs only[go_sem,AO,AN]))|simp (disch:=omega) only[An]|((with_reducible refine Ao ?_);refine⟨_,rfl,?_,?_⟩)
  all_goals first|rfl|skip
 |true =>
 rw[e0 h1] at c1
 cases h2:Cx c.L c.P c.Q with
 |false =>
  rw[no (by simp only[h1,h2,Bool.true_and,Bool.false_and])];rw[h2] at c2;simp only[Bool.false_eq_true,if_false] at c2
  (try (simp -implicitDefEqProofs only[go_sem,AO,AN]));repeat' first|(with_reducible first|exact tI|refine aI ?_ ?_|intro _)|((first|with_reducible refine AM ?_ ?_<;>intro _|(with_reducible refine isCall ?_);first|refine AE c1 ?_|refine AE c2 ?_)<;>try (simp -implicitDefEqProofs only[go_sem,AO,AN]))|simp (disch:=omega) only[An]|((with_reducible refine Ao ?_);refine⟨_,rfl,?_,?_⟩)
  all_goals first|rfl|skip
 |true =>
 rw[h2] at c2;simp only[if_true] at c2
 have c3:=ER c h2
 by_cases h3:c.Q*c.L<=32
 ·have h3':¬32<c.Q*c.L:=by omega
  cases h4:Ci c.mark with
  |false =>
   rw[no (by simp only[h1,h2,h4,Bool.true_and,Bool.false_and,Bool.and_false])];rw[h4] at c4
   (try (simp -implicitDefEqProofs only[go_sem,AO,AN,h3']));repeat' first|(with_reducible first|exact tI|refine aI ?_ ?_|intro _)|((first|with_reducible refine AM ?_ ?_<;>intro _|(with_reducible refine isCall ?_);first|refine AE c1 ?_|refine AE c2 ?_|refine AE c3 ?_|refine AE c4 ?_)<;>try (simp -implicitDefEqProofs only[go_sem,AO,AN,h3']))|simp (disch:=omega) only[An]|((with_reducible refine Ao ?_);refine⟨_,rfl,?_,?_⟩)
   all_goals first|rfl|skip
  |true =>
  rw[h4] at c4
  cases h5:Cp c.seed 1 127 with
  |false =>
   rw[no (by simp only[h1,h2,h4,h5,Bool.true_and,Bool.false_and,Bool.and_false])];rw[h5] at c5
   (try (simp -implicitDefEqProofs only[go_sem,AO,AN,h3']));repeat' first|(with_reducible first|exact tI|refine aI ?_ ?_|intro _)|((first|with_reducible refine AM ?_ ?_<;>intro _|(with_reducible refine isCall ?_);first|refine AE c1 ?_|refine AE c2 ?_|refine AE c3 ?_|refine AE c4 ?_|refine AE c5 ?_)<;>try (simp -implicitDefEqProofs only[go_sem,AO,AN,h3']))|simp (disch:=omega) only[An]|((with_reducible refine Ao ?_);refine⟨_,rfl,?_,?_⟩)
   all_goals first|rfl|skip
  |true =>
  rw[h5] at c5
  cases h6:Cp c.errs 0 16 with
  |false =>
   rw[no (by simp only[h1,h2,h4,h5,h6,Bool.true_and,Bool.false_and,Bool.and_false])];rw[h6] at c6
   (try (simp -implicitDefEqProofs only[go_sem,AO,AN,h3']));repeat' first|(with_reducible first|exact tI|refine aI ?_ ?_|intro _)|((first|with_reducible refine AM ?_ ?_<;>intro _|(with_reducible refine isCall ?_);first|refine AE c1 ?_|refine AE c2 ?_|refine AE c3 ?_|refine AE c4 ?_|refine AE c5 ?_|refine AE c6 ?_)<;>try (simp -implicitDefEqProofs only[go_sem,AO,AN,h3']))|simp (disch:=omega) only[An]|((with_reducible refine Ao ?_);refine⟨_,rfl,?_,?_⟩)
   all_goals first|rfl|skip
  |true =>
  rw[h6] at c6
  have hok:Ky c.code 16=true->Qh c=0:=fun h=>(JN (by
   unfold AX.ok;rw[h1,h2,decide_eq_true h3,h4,h5,h6,h];simp only[Bool.and_self])).2
  have hnok:Ky c.code 16=false->Qh c=130:=fun h=>(H_ (by
   unfold AX.ok;rw[h,Bool.and_false,Bool.and_false,Bool.and_false,Bool.and_false,Bool.and_false,Bool.and_false])).2
  (try (simp -implicitDefEqProofs only[go_sem,AO,AN,h3']));repeat' first|(with_reducible first|exact tI|refine aI ?_ ?_|intro _)|((first|with_reducible refine AM ?_ ?_<;>intro _|(with_reducible refine isCall ?_);first|refine AE c1 ?_|refine AE c2 ?_|refine AE c3 ?_|refine AE c4 ?_|refine AE c5 ?_|refine AE c6 ?_)<;>try (simp -implicitDefEqProofs only[go_sem,AO,AN,h3']))|simp (disch:=omega) only[An]|((with_reducible refine Ao ?_);refine⟨_,rfl,?_,?_⟩)
  all_goals first|omega|(simp;done)|(simp;omega)|skip
  refine AY (α:=Nat) (l0:=?l1) (m0:=?m1) (fun x=>[(3,.d (.int .i64 (x:Int)))]) (fun x=>[]) (fun x=>x<=16/\Ky c.code x=true) (fun x=>16-x) 0 ?h01 ?he1 ?he21 ?hI1 ?step1
  case h01=>(simp -implicitDefEqProofs only[go_sem];rfl)
  case he1=>rfl
  case he21=>rfl
  case' step1=>(rintro s hI;try dsimp only at hI)
  case' hI1=>try dsimp only
  ·exact⟨Nat.zero_le _,rfl⟩
  ·obtain⟨i1,i2⟩:=hI
   by_cases hs:s<16
   ·have hs':(s:Int)<16:=by omega
    have hws:IntKind.i64.wrap ((s:Int)+1)=((s+1:Nat):Int):=by rw[Ak _ (by omega)];omega
    have cs:=Ia c h1 s hs
    (try (simp -implicitDefEqProofs only[go_sem,hs']));repeat' first|(with_reducible first|exact tI|refine aI ?_ ?_|intro _)|((first|with_reducible refine AM ?_ ?_<;>intro _)<;>try (simp -implicitDefEqProofs only[go_sem,hs']))|simp (disch:=omega) only[An]|((with_reducible refine Ao ?_);refine⟨_,rfl,?_,?_⟩)
    all_goals first|omega|(simp;done)|(simp;omega)|skip
    refine AY (α:=Nat) (l0:=?l2) (m0:=?m2) (fun x=>[(4,.d (.int .i64 (x:Int)))]) (fun x=>[]) (fun x=>x<=s/\∀j,j<x->c.code.stm j≠c.code.stm s) (fun x=>s-x) 0 ?h02 ?he2 ?he22 ?hI2 ?step2
    case h02=>(simp -implicitDefEqProofs only[go_sem];rfl)
    case he2=>rfl
    case he22=>rfl
    case' step2=>(rintro k hI2;try dsimp only at hI2)
    case' hI2=>try dsimp only
    ·exact⟨Nat.zero_le _,fun j hj=>by omega⟩
    ·obtain⟨k1,k2⟩:=hI2
     by_cases hk:k<s
     ·have hk':(k:Int)<(s:Int):=by omega
      have hwk:IntKind.i64.wrap ((k:Int)+1)=((k+1:Nat):Int):=by rw[Ak _ (by omega)];omega
      have ck:=Ia c h1 k (by omega)
      have c8:=FY false false (c.code.stm s) (c.code.stm k)
      by_cases he:c.code.stm k=c.code.stm s
      ·rw[decide_eq_true he.symm] at c8
       rw[hnok (eW hs hk he)]
       (try (simp -implicitDefEqProofs only[go_sem,AO,AN,hk']));repeat' first|(with_reducible first|exact tI|refine aI ?_ ?_|intro _)|((first|with_reducible refine AM ?_ ?_<;>intro _|(with_reducible refine isCall ?_);first|refine AE cs ?_|refine AE ck ?_|refine AE c8 ?_)<;>try (simp -implicitDefEqProofs only[go_sem,AO,AN,hk']))|simp (disch:=omega) only[An]|((with_reducible refine Ao ?_);refine⟨_,rfl,?_,?_⟩)
       all_goals first|omega|(simp;done)|(simp;omega)|skip
       all_goals first|rfl|skip
      ·rw[decide_eq_false fun e=>he e.symm] at c8
       (try (simp -implicitDefEqProofs only[go_sem,AO,AN,hk',hwk]));repeat' first|(with_reducible first|exact tI|refine aI ?_ ?_|intro _)|((first|with_reducible refine AM ?_ ?_<;>intro _|(with_reducible refine isCall ?_);first|refine AE cs ?_|refine AE ck ?_|refine AE c8 ?_)<;>try (simp -implicitDefEqProofs only[go_sem,AO,AN,hk',hwk]))|simp (disch:=omega) only[An]|((with_reducible refine Ao ?_);refine⟨_,rfl,?_,?_⟩)
       all_goals first|omega|(simp;done)|(simp;omega)|skip
       rename_i j hj
       by_cases e:j=k
       ·rw[e];exact he
       ·exact k2 j (by omega)
     ·have hk':¬(k:Int)<(s:Int):=by omega
      have hds:=VW i2 fun j hj=>k2 j (by omega)
      (try (simp -implicitDefEqProofs only[go_sem,hk',hws]));repeat' first|(with_reducible first|exact tI|refine aI ?_ ?_|intro _)|((first|with_reducible refine AM ?_ ?_<;>intro _)<;>try (simp -implicitDefEqProofs only[go_sem,hk',hws]))|simp (disch:=omega) only[An]|((with_reducible refine Ao ?_);refine⟨_,rfl,?_,?_⟩)
      all_goals first|omega|(simp;done)|(simp;omega)|skip
      all_goals first|rfl|skip
   ·have hs16:s=16:=by omega
    subst hs16
    rw[hok i2]
    (try (simp -implicitDefEqProofs only[go_sem]));repeat' first|(with_reducible first|exact tI|refine aI ?_ ?_|intro _)|((first|with_reducible refine AM ?_ ?_<;>intro _)<;>try (simp -implicitDefEqProofs only[go_sem]))|simp (disch:=omega) only[An]|((with_reducible refine Ao ?_);refine⟨_,rfl,?_,?_⟩)
    all_goals first|omega|(simp;done)|(simp;omega)|skip
    all_goals first|rfl|skip
 ·have h3':32<c.Q*c.L:=by omega
  rw[no (by rw[decide_eq_false h3];simp only[h1,h2,Bool.true_and,Bool.false_and])]
  (try (simp -implicitDefEqProofs only[go_sem,AO,AN,h3']));repeat' first|(with_reducible first|exact tI|refine aI ?_ ?_|intro _)|((first|with_reducible refine AM ?_ ?_<;>intro _|(with_reducible refine isCall ?_);first|refine AE c1 ?_|refine AE c2 ?_|refine AE c3 ?_)<;>try (simp -implicitDefEqProofs only[go_sem,AO,AN,h3']))|simp (disch:=omega) only[An]|((with_reducible refine Ao ?_);refine⟨_,rfl,?_,?_⟩)
  all_goals first|rfl|skip
end
section
def Zr (c:AX):Bool:=c.code.far || (decide (40<(c.mark.length:Int)) || (decide (8<c.Q) || (decide (15<c.L) || (c.ok && decide (8<c.Q*c.L)))))
def cE (c:AX) (d:List Int):Bool:=!Zr c && (c.ok && (decide (d.length<=100) && CN d (c.Q*(c.L-c.P))))
structure jb (c:AX) (d:List Int):Prop where
 ok:c.ok=true
 nf:Zr c=false
 len:d.length<=100
 sym:CN d (c.Q*(c.L-c.P))=true
theorem kb {c:AX}{d:List Int}(h:cE c d=true):jb c d:=by
 unfold cE at h
 simp only[Bool.and_eq_true,Bool.not_eq_true',decide_eq_true_eq] at h
 exact⟨h.2.1,h.1,h.2.2.1,h.2.2.2⟩
theorem jb.spE {c:AX}{d:List Int}(h:jb c d):spE c.L c.P c.Q d=0:=by
 unfold Go.Pw.spE
 rw[if_pos (FD h.ok).wev,if_pos h.sym]
theorem jb.syms {c:AX}{d:List Int}(h:jb c d):c.syms<=8:=by
 have h1:=h.nf
 have h2:=(FD h.ok).syms
 unfold Zr at h1
 rw[h.ok] at h1
 simp only[Bool.or_eq_false_iff,Bool.true_and,decide_eq_false_iff_not] at h1
 omega
theorem jb.tot {c:AX}{d:List Int}(h:jb c d):c.tot<=176:=by
 have h1:=h.syms
 have hk:=FD h.ok
 have h2:=HB hk.code;have h3:=hk.markl
 have:c.syms*c.code.sz<=8*20:=Nat.mul_le_mul h1 h2.2
 unfold AX.tot;omega
theorem jb.wr {c:AX}{d:List Int}(h:jb c d):ap c d=JL c (UL c.L c.P c.Q d)/\lw c d=0/\(ap c d).length=c.tot:=by
 have h1:ap c d=JL c (UL c.L c.P c.Q d):=by unfold ap;rw[if_pos h.ok,if_pos h.spE]
 refine⟨h1,by unfold lw;rw[if_pos h.ok,if_pos h.spE],?_⟩
 rw[h1,X1,Pg (FD h.ok).wev h.spE];rfl
def Xv (out:List Int) (f:Int):List Int:=if 0<=f/\f<out.length then out.set f.toNat (1-out[f.toNat]?.getD 0) else out
def Mx (out fl:List Int):List Int:=fl.foldl Xv out
theorem fx (out:List Int) (f:Int):(Xv out f).length=out.length:=by unfold Xv;split<;>simp
theorem Mw (fl:List Int):∀out:List Int,(Mx out fl).length=out.length:=by
 induction fl with
 |nil=>intro out;rfl
 |cons f fl ih=>intro out;show (Mx (Xv out f) fl).length=_;rw[ih,fx]
theorem Yo (out fl:List Int) (f:Int):Mx out (fl++[f])=Xv (Mx out fl) f:=by simp[Mx]
theorem bO {out:List Int}(h:Ap out=true) (f:Int):Ap (Xv out f)=true:=by
 unfold Xv
 split
 ·rename_i hf
  refine Vo h _ ?_
  have:=Ee h (i:=f.toNat) (by omega)
  simp only[Cp,decide_eq_true_eq];omega
 ·exact h
theorem N7 (fl:List Int):∀{out:List Int},Ap out=true->Ap (Mx out fl)=true:=by
 induction fl with
 |nil=>intro out h;exact h
 |cons f fl ih=>intro out h;exact ih (bO h f)
attribute [local congr] Bh A7 A8 Au Bi Az A1 A0 Ar Ai Ab AZ Aw Ad Ax BF BJ BH BI BG BK BC Ag Ay Ah BA BS Af BD BE BB A_ A' A6 Bj A9 Av Ae
attribute [local irreducible] IntKind.wrap A5 Option.getD and or
theorem RX (c:AX):CI E0 PF [Fj c] (.bool (Zr c)):=by
 have c1:=RY c.code
 have c2:=Jh c
 refine AK Rf Aq (by simp) fun hwf=>?_
 rw[AW];unfold M8 Zr
 obtain⟨fr,hfr⟩:∃fr,c.code.far=fr:=⟨_,rfl⟩
 rw[hfr] at c1 ⊢
 clear hfr
 rcases hok:c.ok with _|_
 ·rw[(H_ hok).2] at c2
  cases fr with
  |true =>
   (try (simp -implicitDefEqProofs only[go_sem,AO,AN]));repeat' first|(with_reducible first|exact tI|refine aI ?_ ?_|intro _)|((first|with_reducible refine AM ?_ ?_<;>intro _|(with_reducible refine isCall ?_);first|refine AE c1 ?_|refine AE c2 ?_)<;>try (simp -implicitDefEqProofs only[go_sem,AO,AN]))|simp (disch:=omega) only[An]
   all_goals first|rfl|(simp only[Bool.true_or];done)|skip
  |false =>
   (try (simp -implicitDefEqProofs only[go_sem,AO,AN]));repeat' first|(with_reducible first|exact tI|refine aI ?_ ?_|intro _)|((first|with_reducible refine AM ?_ ?_<;>intro _|(with_reducible refine isCall ?_);first|refine AE c1 ?_|refine AE c2 ?_)<;>try (simp -implicitDefEqProofs only[go_sem,AO,AN]))|simp (disch:=omega) only[An]
   all_goals first|rfl|(congr 1;symm;simp;omega)|skip
 ·rw[(JN hok).2] at c2
  have c3:=ER c (FD hok).wev
  cases fr with
  |true =>
   (try (simp -implicitDefEqProofs only[go_sem,AO,AN]));repeat' first|(with_reducible first|exact tI|refine aI ?_ ?_|intro _)|((first|with_reducible refine AM ?_ ?_<;>intro _|(with_reducible refine isCall ?_);first|refine AE c1 ?_|refine AE c2 ?_|refine AE c3 ?_)<;>try (simp -implicitDefEqProofs only[go_sem,AO,AN]))|simp (disch:=omega) only[An]
   all_goals first|rfl|(simp only[Bool.true_or];done)|skip
  |false =>
   (try (simp -implicitDefEqProofs only[go_sem,AO,AN]));repeat' first|(with_reducible first|exact tI|refine aI ?_ ?_|intro _)|((first|with_reducible refine AM ?_ ?_<;>intro _|(with_reducible refine isCall ?_);first|refine AE c1 ?_|refine AE c2 ?_|refine AE c3 ?_)<;>try (simp -implicitDefEqProofs only[go_sem,AO,AN]))|simp (disch:=omega) only[An]
   all_goals first|rfl|(congr 1;symm;simp;omega)|skip
theorem PO (c:AX) (nl:Bool) (d:List Int):CI E0 L_ [Fj c,.list nl (Aj d)] (.bool (cE c d)):=by
 have c1:=RX c
 have c2:=Jh c
 refine AK PW Aq (by simp) fun hwf=>?_
 rw[AW];unfold Kh cE
 obtain⟨fr,hfr⟩:∃fr,Zr c=fr:=⟨_,rfl⟩
 rw[hfr] at c1 ⊢
 clear hfr
 cases fr with
 |true =>
  (try (simp -implicitDefEqProofs only[go_sem,AO,AN]));repeat' first|(with_reducible first|exact tI|refine aI ?_ ?_|intro _)|((first|with_reducible refine AM ?_ ?_<;>intro _|(with_reducible refine isCall ?_);first|refine AE c1 ?_)<;>try (simp -implicitDefEqProofs only[go_sem,AO,AN]))|simp (disch:=omega) only[An]
  all_goals first|rfl|(simp only[Bool.not_true,Bool.false_and];done)|skip
 |false =>
  rcases hok:c.ok with _|_
  ·rw[(H_ hok).2] at c2
   (try (simp -implicitDefEqProofs only[go_sem,AO,AN]));repeat' first|(with_reducible first|exact tI|refine aI ?_ ?_|intro _)|((first|with_reducible refine AM ?_ ?_<;>intro _|(with_reducible refine isCall ?_);first|refine AE c1 ?_|refine AE c2 ?_)<;>try (simp -implicitDefEqProofs only[go_sem,AO,AN]))|simp (disch:=omega) only[An]
   all_goals first|rfl|(simp only[Bool.false_and,Bool.and_false];done)|skip
  ·rw[(JN hok).2] at c2
   have hb:=a6 (FD hok).wev
   have w1:IntKind.i64.wrap (c.L-c.P)=c.L-c.P:=Ak _ (by omega)
   have w2:IntKind.i64.wrap (c.Q*(c.L-c.P))=c.Q*(c.L-c.P):=Ak _ (by
    have h1:0<=c.Q*(c.L-c.P):=Int.mul_nonneg (by omega) (by omega)
    have h2:c.Q*(c.L-c.P)<=8*15:=Int.mul_le_mul (by omega) (by omega) (by omega) (by omega)
    omega)
   have c3:=Ka nl d (c.Q*(c.L-c.P))
   obtain⟨sb,hsb⟩:∃sb,CN d (c.Q*(c.L-c.P))=sb:=⟨_,rfl⟩
   rw[hsb] at c3 ⊢
   by_cases hl:d.length<=100
   ·have hl':(d.length:Int)<=100:=by omega
    (try (simp -implicitDefEqProofs only[go_sem,AO,AN,w1,w2,hl']));repeat' first|(with_reducible first|exact tI|refine aI ?_ ?_|intro _)|((first|with_reducible refine AM ?_ ?_<;>intro _|(with_reducible refine isCall ?_);first|refine AE c1 ?_|refine AE c2 ?_|refine AE c3 ?_)<;>try (simp -implicitDefEqProofs only[go_sem,AO,AN,w1,w2,hl']))|simp (disch:=omega) only[An]
    all_goals first|rfl|(rename_i h;rw[h];simp[hl];done)|skip
   ·have hl':¬(d.length:Int)<=100:=by omega
    (try (simp -implicitDefEqProofs only[go_sem,AO,AN,w1,w2,hl']));repeat' first|(with_reducible first|exact tI|refine aI ?_ ?_|intro _)|((first|with_reducible refine AM ?_ ?_<;>intro _|(with_reducible refine isCall ?_);first|refine AE c1 ?_|refine AE c2 ?_|refine AE c3 ?_)<;>try (simp -implicitDefEqProofs only[go_sem,AO,AN,w1,w2,hl']))|simp (disch:=omega) only[An]
    all_goals first|rfl|(simp[hl];done)|skip
theorem NE (n1 n2:Bool) (bits fl:List Int) (hb:Ap bits=true) (h1000:bits.length<=1000000) (hne:¬bits=[]):CI E0 J3 [.list n1 (Aj bits),.list n2 (Aj fl)] (.list false (Aj (Mx bits fl))):=by
 refine AK NR Aq (by simp) fun hwf=>?_
 simp only[Dx,DK,DJ,C0,EH,EG,Fz,EF,Bk,Bv,Bw,DM,B9,List.length_map,B5,true_and,and_true] at hwf
 rw[AW];unfold Ie
 (try (simp -implicitDefEqProofs only[go_sem,hne]));repeat' first|(with_reducible first|exact tI|refine aI ?_ ?_|intro _)|((first|with_reducible refine AM ?_ ?_<;>intro _)<;>try (simp -implicitDefEqProofs only[go_sem,hne]))|simp (disch:=omega) only[An]|((with_reducible refine Am ?_);refine⟨(_,_),rfl,?_,?_⟩)
 all_goals first|omega|(simp;done)|(simp;omega)|skip
 have hl0:=Mw
 refine AY (α:=Nat×(List Int)) (l0:=?l1) (m0:=?m1) (fun x=>[(6,.d (.int .i64 (x.1:Int)))]) (fun x=>[(9,.row 3 1 false (Aj x.2))]) (fun x=>x.1<=fl.length/\x.2=Mx bits (fl.take x.1)) (fun x=>fl.length-x.1) (0,bits) ?h01 ?he1 ?he21 ?hI1 ?step1
 case h01=>(simp -implicitDefEqProofs only[go_sem];rfl)
 case he1=>rfl
 case he21=>rfl
 case' step1=>(rintro⟨k,R⟩ hI;try dsimp only at hI)
 case' hI1=>try dsimp only
 ·exact⟨Nat.zero_le _,rfl⟩
 ·obtain⟨k1,k2⟩:=hI
  change R=Mx bits (fl.take k) at k2
  have hRl:R.length=bits.length:=by rw[k2,Mw]
  have hRb:Ap R=true:=by rw[k2];exact N7 _ hb
  by_cases hk:k<fl.length
  ·have hk':(k:Int)<(fl.length:Int):=by omega
   have hwk:IntKind.i64.wrap ((k:Int)+1)=((k+1:Nat):Int):=by rw[Ak _ (by omega)];omega
   obtain⟨f,hf⟩:∃f,fl[k]?.getD 0=f:=⟨_,rfl⟩
   have hst:Xv R f=Mx bits (fl.take (k+1)):=by
    rw[k2,←Yo,←hf,List.take_add_one,List.getElem?_eq_getElem hk];simp[Option.getD]
   by_cases h0:0<=f
   ·by_cases h1:f<(R.length:Int)
    ·have hv:=Ee hRb (i:=f.toNat) (by omega)
     have hwv:IntKind.i64.wrap (1-R[f.toNat]?.getD 0)=1-R[f.toNat]?.getD 0:=Ak _ (by omega)
     have hs2:Xv R f=R.set f.toNat (1-R[f.toNat]?.getD 0):=by unfold Xv;rw[if_pos ⟨h0,h1⟩]
     (try (simp -implicitDefEqProofs only[go_sem,hk',hk,hwk,hf,h0,h1,hwv]));repeat' first|(with_reducible first|exact tI|refine aI ?_ ?_|intro _)|((first|with_reducible refine AM ?_ ?_<;>intro _)<;>try (simp -implicitDefEqProofs only[go_sem,hk',hk,hwk,hf,h0,h1,hwv]))|simp (disch:=omega) only[An]|((with_reducible refine Am ?_);refine⟨(_,_),rfl,?_,?_⟩)
     all_goals first|omega|(simp;done)|(simp;omega)|skip
     rw[←hs2,hst]
    ·have hs2:Xv R f=R:=by unfold Xv;rw[if_neg fun h=>h1 h.2]
     (try (simp -implicitDefEqProofs only[go_sem,hk',hk,hwk,hf,h0,h1]));repeat' first|(with_reducible first|exact tI|refine aI ?_ ?_|intro _)|((first|with_reducible refine AM ?_ ?_<;>intro _)<;>try (simp -implicitDefEqProofs only[go_sem,hk',hk,hwk,hf,h0,h1]))|simp (disch:=omega) only[An]|((with_reducible refine Am ?_);refine⟨(_,_),rfl,?_,?_⟩)
     all_goals first|omega|(simp;done)|(simp;omega)|skip
     rw[←hst,hs2]
   ·have hs2:Xv R f=R:=by unfold Xv;rw[if_neg fun h=>h0 h.1]
    (try (simp -implicitDefEqProofs only[go_sem,hk',hk,hwk,hf,h0]));repeat' first|(with_reducible first|exact tI|refine aI ?_ ?_|intro _)|((first|with_reducible refine AM ?_ ?_<;>intro _)<;>try (simp -implicitDefEqProofs only[go_sem,hk',hk,hwk,hf,h0]))|simp (disch:=omega) only[An]|((with_reducible refine Am ?_);refine⟨(_,_),rfl,?_,?_⟩)
    all_goals first|omega|(simp;done)|(simp;omega)|skip
    rw[←hst,hs2]
  ·have hk':¬(k:Int)<(fl.length:Int):=by omega
   have hte:fl.take k=fl:=List.take_of_length_le (by omega)
   rw[hte] at k2
   rw[←k2]
   (try (simp -implicitDefEqProofs only[go_sem,hk']));repeat' first|(with_reducible first|exact tI|refine aI ?_ ?_|intro _)|((first|with_reducible refine AM ?_ ?_<;>intro _)<;>try (simp -implicitDefEqProofs only[go_sem,hk']))|simp (disch:=omega) only[An]|((with_reducible refine Am ?_);refine⟨(_,_),rfl,?_,?_⟩)
   all_goals first|omega|(simp;done)|(simp;omega)|skip
   all_goals first|rfl|skip
end
section
def nu (c:AX) (a b:List Int) (i:Nat):Nat:=if c.part a 0 i=c.part b 0 i then 0 else 1
def o5 (c:AX) (a b:List Int) (n:Nat):List Int:=(List.range c.Q.toNat).map fun k=>((Lp (nu c a b) c.Q.toNat n k:Nat):Int)
def Zo (c:AX) (bits:List Int):D:=.tup [.int .i64 (match c.find bits with|some a=>(a:Int)|none=>0),.bool (c.find bits).isSome]
attribute [local congr] Bh A7 A8 Au Bi Az A1 A0 Ar Ai Ab AZ Aw Ad Ax BF BJ BH BI BG BK BC Ag Ay Ah BA BS Af BD BE BB A_ A' A6 Bj A9 Av Ae
attribute [local irreducible] IntKind.wrap A5 Option.getD and or
theorem QI (c:AX) (hk:G6 c) (nb:Bool) (bits:List Int) (hb:bits.length<=1000):CI E0 Ny [Fj c,.list nb (Aj bits)] (Zo c bits):=by
 have hm:=hk.markl
 have ht:=hk.tot
 have c1:=Jg c hk.wev hk.code (by omega)
 refine AK Qo Aq (by simp) fun hwf=>?_
 rw[AW];unfold Lv
 (try (simp -implicitDefEqProofs only[go_sem,AO,AN]));repeat' first|(with_reducible first|exact tI|refine aI ?_ ?_|intro _)|((first|with_reducible refine AM ?_ ?_<;>intro _)<;>try (simp -implicitDefEqProofs only[go_sem,AO,AN]))|simp (disch:=omega) only[An]|((with_reducible refine Ao ?_);refine⟨_,rfl,?_,?_⟩)
 all_goals first|omega|(simp;done)|(simp;omega)|skip
 refine AY (α:=Nat) (l0:=?l1) (m0:=?m1) (fun x=>[(6,.d (.int .i64 (x:Int)))]) (fun x=>[]) (fun x=>x<=bits.length+1/\∀j,j<x->c.errs<Ce c.mark (bits.drop j)) (fun x=>bits.length+1-x) 0 ?h01 ?he1 ?he21 ?hI1 ?step1
 case h01=>(simp -implicitDefEqProofs only[go_sem];rfl)
 case he1=>rfl
 case he21=>rfl
 case' step1=>(rintro a hI;try dsimp only at hI)
 case' hI1=>try dsimp only
 ·exact⟨Nat.zero_le _,fun j hj=>by omega⟩
 ·obtain⟨i1,i2⟩:=hI
  have w1:IntKind.i64.wrap ((a:Int)+(c.tot:Int))=((a+c.tot:Nat):Int):=by rw[Ak _ (by omega)];omega
  have w3:IntKind.i64.wrap ((a:Int)+1)=((a+1:Nat):Int):=by rw[Ak _ (by omega)];omega
  by_cases ha:a+c.tot<=bits.length
  ·have g1:((a+c.tot:Nat):Int)<=(bits.length:Int):=by omega
   have htm:c.mark.length<=c.tot:=by unfold AX.tot;omega
   have c2:=ML c.nm nb c.mark bits (a:Int) (by omega) (by omega) (by omega) (by omega)
   rw[Int.toNat_natCast] at c2
   by_cases hd:Ce c.mark (bits.drop a)<=c.errs
   ·have hf:=VE i2 ha hd
    have hr:Zo c bits=.tup [.int .i64 (a:Int),.bool true]:=by unfold Zo;rw[hf];rfl
    rw[hr]
    (try (simp -implicitDefEqProofs only[go_sem,AO,AN,w1,g1,hd]));repeat' first|(with_reducible first|exact tI|refine aI ?_ ?_|intro _)|((first|with_reducible refine AM ?_ ?_<;>intro _|(with_reducible refine isCall ?_);first|refine AE c1 ?_|refine AE c2 ?_)<;>try (simp -implicitDefEqProofs only[go_sem,AO,AN,w1,g1,hd]))|simp (disch:=omega) only[An]|((with_reducible refine Ao ?_);refine⟨_,rfl,?_,?_⟩)
    all_goals first|omega|(simp;done)|(simp;omega)|skip
    all_goals first|rfl|skip
   ·(try (simp -implicitDefEqProofs only[go_sem,AO,AN,w1,g1,hd,w3]));repeat' first|(with_reducible first|exact tI|refine aI ?_ ?_|intro _)|((first|with_reducible refine AM ?_ ?_<;>intro _|(with_reducible refine isCall ?_);first|refine AE c1 ?_|refine AE c2 ?_)<;>try (simp -implicitDefEqProofs only[go_sem,AO,AN,w1,g1,hd,w3]))|simp (disch:=omega) only[An]|((with_reducible refine Ao ?_);refine⟨_,rfl,?_,?_⟩)
    all_goals first|omega|(simp;done)|(simp;omega)|skip
    rename_i j hj
    by_cases e:j=a
    ·rw[e];omega
    ·exact i2 j (by omega)
  ·have g1:¬((a+c.tot:Nat):Int)<=(bits.length:Int):=by omega
   have hf:=VD i2 ha
   have hr:Zo c bits=.tup [.int .i64 0,.bool false]:=by unfold Zo;rw[hf];rfl
   rw[hr]
   (try (simp -implicitDefEqProofs only[go_sem,AO,AN,w1,g1]));repeat' first|(with_reducible first|exact tI|refine aI ?_ ?_|intro _)|((first|with_reducible refine AM ?_ ?_<;>intro _|(with_reducible refine isCall ?_);first|refine AE c1 ?_)<;>try (simp -implicitDefEqProofs only[go_sem,AO,AN,w1,g1]))|simp (disch:=omega) only[An]|((with_reducible refine Ao ?_);refine⟨_,rfl,?_,?_⟩)
   all_goals first|omega|(simp;done)|(simp;omega)|skip
   all_goals first|rfl|skip
end
section
theorem bh {c:AX}(hk:G6 c) (b:List Int):Ap (JL c b)=true:=by
 unfold JL
 refine H7 hk.markl.2.2 ?_
 unfold AX.flat
 generalize Db c.seed b=X
 induction X with
 |nil=>rfl
 |cons x X ih=>exact H7 (UF ..) ih
attribute [local congr] Bh A7 A8 Au Bi Az A1 A0 Ar Ai Ab AZ Aw Ad Ax BF BJ BH BI BG BK BC Ag Ay Ah BA BS Af BD BE BB A_ A' A6 Bj A9 Av Ae
attribute [local irreducible] IntKind.wrap A5 Option.getD and or
end
end Go.Pw
