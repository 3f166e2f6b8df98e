/- A part of the proof. -/
import Derived.Test.YtlmkpaimjpdhiaaDoorPgCorrectBw
set_option linter.all false
open Go Go.Pw Go.Proofs
namespace Go.Pw
set_option linter.unusedSimpArgs false
set_option linter.unusedVariables false
set_option maxRecDepth 100000
set_option maxHeartbeats 3200000
def FF (m q:Nat) (W:Nat→List F) (k j:Nat):List F:=(List.range (m * q)).map fun i=>if i % q < k∨(i % q=k∧i / q < j) then (W (i % q))[i / q]?.getD 0 else 0
theorem PW (m q:Nat) (W:Nat→List F) (k j:Nat):(FF m q W k j).length=m * q:=by simp [FF]
theorem U4 (m q:Nat) (W:Nat→List F):FF m q W 0 0=List.replicate (m * q) 0:=by
 apply List.ext_getElem
 ·simp [FF]
 ·intro i h1 h2;simp [FF]
theorem PV {m q k j:Nat} {W:Nat→List F} (hk:k < q) (hj:j < m):(FF m q W k j).set (j * q+k) ((W k)[j]?.getD 0)=FF m q W k (j+1):=by
 apply List.ext_getElem
 ·simp [FF]
 ·intro i h1 h2
  rw [List.getElem_set]
  simp only [FF,List.getElem_map,List.getElem_range]
  by_cases hij:j * q+k=i
  ·subst hij
   rw [if_pos rfl,Qp hk,Qo hk,if_pos (.inr ⟨rfl,by omega⟩)]
  ·rw [if_neg hij]
   have he:=Pa q i
   by_cases hc:i % q < k∨(i % q=k∧i / q < j)
   ·rw [if_pos hc,if_pos (by omega)]
   ·rw [if_neg hc,if_neg fun h=>?_]
    rcases h with h|⟨h3,h4⟩
    ·exact hc (.inl h)
    ·have h5:i / q=j:=by
      rcases Nat.lt_or_ge (i / q) j with h6|h6
      ·exact absurd (.inr ⟨h3,h6⟩) hc
      ·omega
     rw [h5,h3] at he
     exact hij he
theorem N0 {m q k:Nat} (W:Nat→List F) (hq:0 < q):FF m q W k m=FF m q W (k+1) 0:=by
 unfold FF
 apply List.map_congr_left
 intro i hi
 have h1:i / q < m:=Nat.div_lt_of_lt_mul (by rw [Nat.mul_comm];simpa using hi)
 by_cases hc:i % q < k∨(i % q=k∧i / q < m)
 ·rw [if_pos hc,if_pos (.inl (by rcases hc with h|⟨h,_⟩<;>omega))]
 ·rw [if_neg hc,if_neg fun h=>?_]
  rcases h with h|⟨_,h⟩
  ·rcases Nat.lt_succ_iff_lt_or_eq.1 h with h2|h2
   ·exact hc (.inl h2)
   ·exact hc (.inr ⟨h2,h1⟩)
  ·exact absurd h (Nat.not_lt_zero _)
theorem PX {m q:Nat} (W:Nat→List F) (hq:0 < q):FF m q W q 0=FN m q W:=by
 unfold FF FN
 apply List.map_congr_left
 intro i hi
 rw [if_pos (.inl (Nat.mod_lt _ hq))]
attribute [local congr] Ch BI BJ A0 Ci A5 A7 A6 Az Ar Am Ai A2 An A3 BR BV BT BU BS BW BO Ap A4 Aq BM Bm Ao BP BQ BN BK BL
attribute [local irreducible] IntKind.wrap A_ Option.getD and or
theorem I5 (q m k:Nat) (n:Bool) (b:List F) (hm:m≤15) (hm1:1≤m) (hq:q≤8) (hk:k < q) (hb:b.length=m * q) :
  B7 E0 Lu [.list n (AY (iv b)),.int .i64 (q:Int),.int .i64 (k:Int)] (.list false (AY (iv (Bf m q k b)))):=by
 have hmq:=Mk hm hq
 have hpl:=Bk m q k b
 refine AQ N8 Af (by simp) fun hwf=>?_
 rw [AR];unfold KH
 (try (simp -implicitDefEqProofs only [go_sem]));repeat' first|(with_reducible first|exact True.intro|refine And.intro ?_ ?_|intro _)|(((with_reducible refine AM ?_ ?_)<;>intro _)<;>try (simp -implicitDefEqProofs only [go_sem]))|simp (disch:=omega) only [AC,AH,AK,AJ,AD,AL,AI,AA]|((with_reducible refine AU ?_);refine⟨(_,_,_),rfl,?_,?_⟩)
 all_goals first|omega|(simp;done)|(simp;omega)|skip
 refine AS (α:=Nat×Nat×Bool) (l0:=?l1) (m0:=?m1) (fun x=>[(8,.d (.int .i64 (x.2.1:Int)))]) (fun x=>[(23,.row 3 1 x.2.2 (AY (iv ((Bf m q k b).take x.1))))]) (fun x=>x.1≤m∧x.2.1=k+x.1 * q∧x.2.2=decide (x.1=0)) (fun x=>m - x.1) (0,k,true) ?h01 ?he1 ?he21 ?hI1 ?step1
 case h01=>(simp -implicitDefEqProofs only [go_sem];rfl)
 case he1=>rfl
 case he21=>rfl
 case' step1=>(rintro⟨j,s,e⟩ hI;try dsimp only at hI)
 case' hI1=>try dsimp only
 ·exact⟨Nat.zero_le _,by simp,rfl⟩
 ·obtain⟨h1,hs,h2⟩:=hI
  change e=decide (j=0) at h2
  subst h2
  have hjq:=Nat.mul_le_mul_right q h1
  by_cases h:j < m
  ·have h0:=bq hk hb h
   rw [←hs] at h0
   have h':(s:Int) < (b.length:Int):=by omega
   have hs2:s+q=k+(j+1) * q:=by rw [Nat.add_mul,Nat.one_mul];omega
   have hwj:IntKind.i64.wrap ((s:Int)+(q:Int))=((s+q:Nat):Int):=by rw [AC _ (by omega)];omega
   have hst:=PJ m q k j b h
   rw [Nat.add_comm (j * q) k,←hs] at hst
   (try (simp -implicitDefEqProofs only [go_sem,h0,h',hwj,hst]));repeat' first|(with_reducible first|exact True.intro|refine And.intro ?_ ?_|intro _)|(((with_reducible refine AM ?_ ?_)<;>intro _)<;>try (simp -implicitDefEqProofs only [go_sem,h0,h',hwj,hst]))|simp (disch:=omega) only [AC,AH,AK,AJ,AD,AL,AI,AA]|((with_reducible refine AU ?_);refine⟨(_,_,_),rfl,?_,?_⟩)
   all_goals first|omega|(simp;done)|(simp;omega)|skip
   all_goals first|exact⟨hs2,rfl⟩|exact hs2|rfl|skip
  ·have hje:j=m:=by omega
   subst hje
   have h0:=br (k:=k) hb
   have h':¬(s:Int) < (b.length:Int):=by omega
   have htk:(Bf j q k b).take j=Bf j q k b:=List.take_of_length_le (by omega)
   have hj0:decide (j=0)=false:=decide_eq_false (by omega)
   rw [htk,hj0]
   (try (simp -implicitDefEqProofs only [go_sem,h']));repeat' first|(with_reducible first|exact True.intro|refine And.intro ?_ ?_|intro _)|(((with_reducible refine AM ?_ ?_)<;>intro _)<;>try (simp -implicitDefEqProofs only [go_sem,h']))|simp (disch:=omega) only [AC,AH,AK,AJ,AD,AL,AI,AA]|((with_reducible refine AU ?_);refine⟨(_,_,_),rfl,?_,?_⟩)
   all_goals first|omega|(simp;done)|(simp;omega)|skip
   all_goals first|rfl|skip
theorem D1 (L P Q:Int):B7 E0 Gj [.agg [.int .i64 L,.int .i64 P,.int .i64 Q]] (.int .i64 (if CJ L P Q=true then 0 else 50)):=by
 have c1:=DX L P
 have c2:=DD Q 1 8
 refine AQ JT Af (by simp) fun hwf=>?_
 rw [AR];unfold Fu CJ
 cases hc:BG L P with
 |false =>
  rw [hc] at c1
  simp only [Bool.false_eq_true,if_false,Bool.false_and] at c1 ⊢
  (try (simp -implicitDefEqProofs only [go_sem]));repeat' first|(with_reducible first|exact True.intro|refine And.intro ?_ ?_|intro _)|(((with_reducible refine isCall ?_);first|refine AG (c1) rfl ?_ ?_|refine AE (c1) rfl ?_|refine AB (c1) rfl ?_ ?_|refine AF (c1) rfl rfl ?_)<;>try (simp -implicitDefEqProofs only [go_sem]))|(((with_reducible refine AM ?_ ?_)<;>intro _)<;>try (simp -implicitDefEqProofs only [go_sem]))|simp (disch:=omega) only [AC,AH,AK,AJ,AD,AL,AI,AA]
  all_goals first|rfl|(simp;done)|skip
 |true =>
  rw [hc] at c1
  simp only [if_true,Bool.true_and] at c1 ⊢
  by_cases h:1≤Q∧Q≤8
  ·rw [decide_eq_true h] at c2 ⊢
   (try (simp -implicitDefEqProofs only [go_sem]));repeat' first|(with_reducible first|exact True.intro|refine And.intro ?_ ?_|intro _)|(((with_reducible refine isCall ?_);first|refine AG (c1) rfl ?_ ?_|refine AE (c1) rfl ?_|refine AB (c1) rfl ?_ ?_|refine AF (c1) rfl rfl ?_|refine AG (c2) rfl ?_ ?_|refine AE (c2) rfl ?_|refine AB (c2) rfl ?_ ?_|refine AF (c2) rfl rfl ?_)<;>try (simp -implicitDefEqProofs only [go_sem]))|(((with_reducible refine AM ?_ ?_)<;>intro _)<;>try (simp -implicitDefEqProofs only [go_sem]))|simp (disch:=omega) only [AC,AH,AK,AJ,AD,AL,AI,AA]
   all_goals first|rfl|(simp;done)|skip
  ·rw [decide_eq_false h] at c2 ⊢
   (try (simp -implicitDefEqProofs only [go_sem]));repeat' first|(with_reducible first|exact True.intro|refine And.intro ?_ ?_|intro _)|(((with_reducible refine isCall ?_);first|refine AG (c1) rfl ?_ ?_|refine AE (c1) rfl ?_|refine AB (c1) rfl ?_ ?_|refine AF (c1) rfl rfl ?_|refine AG (c2) rfl ?_ ?_|refine AE (c2) rfl ?_|refine AB (c2) rfl ?_ ?_|refine AF (c2) rfl rfl ?_)<;>try (simp -implicitDefEqProofs only [go_sem]))|(((with_reducible refine AM ?_ ?_)<;>intro _)<;>try (simp -implicitDefEqProofs only [go_sem]))|simp (disch:=omega) only [AC,AH,AK,AJ,AD,AL,AI,AA]
   all_goals first|rfl|(simp;done)|skip
theorem Mx (L P Q:Int):B7 E0 KT [.agg [.int .i64 L,.int .i64 P,.int .i64 Q]] (.tup [.int .i64 (if CJ L P Q=true then Q * (P / 2) else 0),.int .i64 (if CJ L P Q=true then Q * P else 0),.int .i64 (if CJ L P Q=true then 0 else 50)]):=by
 have c1:=D1 L P Q
 refine AQ M8 Af (by simp) fun hwf=>?_
 rw [AR];unfold JA
 cases hw:CJ L P Q with
 |false =>
  rw [hw] at c1
  simp only [Bool.false_eq_true,if_false] at c1 ⊢
  (try (simp -implicitDefEqProofs only [go_sem]));repeat' first|(with_reducible first|exact True.intro|refine And.intro ?_ ?_|intro _)|(((with_reducible refine isCall ?_);first|refine AG (c1) rfl ?_ ?_|refine AE (c1) rfl ?_|refine AB (c1) rfl ?_ ?_|refine AF (c1) rfl rfl ?_)<;>try (simp -implicitDefEqProofs only [go_sem]))|(((with_reducible refine AM ?_ ?_)<;>intro _)<;>try (simp -implicitDefEqProofs only [go_sem]))|simp (disch:=omega) only [AC,AH,AK,AJ,AD,AL,AI,AA]
  all_goals first|rfl|(simp;done)|skip
 |true =>
  obtain⟨hc,hD⟩:=Iv hw
  have hb:=C3 hc
  rw [hw] at c1
  simp only [if_true] at c1 ⊢
  have hd:P.tdiv 2=P / 2:=Int.tdiv_eq_ediv_of_nonneg (by omega)
  have w1:IntKind.i64.wrap (P / 2)=P / 2:=AC _ (by omega)
  have b1:0≤Q * (P / 2)∧Q * (P / 2)≤8 * 8:=⟨Int.mul_nonneg (by omega) (by omega),Int.mul_le_mul hD.2 (by omega) (by omega) (by omega)⟩
  have b2:0≤Q * P∧Q * P≤8 * 8:=⟨Int.mul_nonneg (by omega) (by omega),Int.mul_le_mul hD.2 (by omega) (by omega) (by omega)⟩
  have w2:IntKind.i64.wrap (Q * (P / 2))=Q * (P / 2):=AC _ (by omega)
  have w3:IntKind.i64.wrap (Q * P)=Q * P:=AC _ (by omega)
  (try (simp -implicitDefEqProofs only [go_sem,hd,w1,w2,w3]));repeat' first|(with_reducible first|exact True.intro|refine And.intro ?_ ?_|intro _)|(((with_reducible refine isCall ?_);first|refine AG (c1) rfl ?_ ?_|refine AE (c1) rfl ?_|refine AB (c1) rfl ?_ ?_|refine AF (c1) rfl rfl ?_)<;>try (simp -implicitDefEqProofs only [go_sem,hd,w1,w2,w3]))|(((with_reducible refine AM ?_ ?_)<;>intro _)<;>try (simp -implicitDefEqProofs only [go_sem,hd,w1,w2,w3]))|simp (disch:=omega) only [AC,AH,AK,AJ,AD,AL,AI,AA]
  all_goals first|rfl|(simp;done)|skip
theorem L8 (L P Q:Int) (n:Bool) (xs:List Int):B7 E0 Jc [.agg [.int .i64 L,.int .i64 P,.int .i64 Q],.list n (AY xs)] (.tup [.list (bl L P Q xs).isEmpty (AY (bl L P Q xs)),.int .i64 (dv L P Q xs)]):=by
 have c1:=D1 L P Q
 refine AQ MM Af (by simp) fun hwf=>?_
 rw [AR];unfold IV bl dv
 cases hw:CJ L P Q with
 |false =>
  rw [hw] at c1
  simp only [Bool.false_eq_true,if_false] at c1 ⊢
  (try (simp -implicitDefEqProofs only [go_sem]));repeat' first|(with_reducible first|exact True.intro|refine And.intro ?_ ?_|intro _)|(((with_reducible refine isCall ?_);first|refine AG (c1) rfl ?_ ?_|refine AE (c1) rfl ?_|refine AB (c1) rfl ?_ ?_|refine AF (c1) rfl rfl ?_)<;>try (simp -implicitDefEqProofs only [go_sem]))|(((with_reducible refine AM ?_ ?_)<;>intro _)<;>try (simp -implicitDefEqProofs only [go_sem]))|simp (disch:=omega) only [AC,AH,AK,AJ,AD,AL,AI,AA]|((with_reducible refine AW ?_);refine⟨_,rfl,?_,?_⟩)
  all_goals first|rfl|(simp;done)|skip
 |true =>
  rw [hw] at c1
  simp only [if_true] at c1 ⊢
  obtain⟨l,p,q,rfl,rfl,rfl,b1,b2,b3,b4,b5,b6,b7,hc⟩:=NF hw
  have w0:IntKind.i64.wrap ((l:Int) - (p:Int))=(l:Int) - (p:Int):=AC _ (by omega)
  have hmul:(q:Int) * ((l:Int) - (p:Int))=((q * (l - p):Nat):Int):=by rw [show ((l:Int) - (p:Int))=((l - p:Nat):Int) by omega];push_cast;rfl
  have hql:q * l≤8 * 15:=Nat.mul_le_mul b7 b2
  have hqlp:q * (l - p)≤8 * 15:=Nat.mul_le_mul b7 (by omega)
  have w1:IntKind.i64.wrap ((q:Int) * ((l:Int) - (p:Int)))=(q:Int) * ((l:Int) - (p:Int)):=by rw [hmul];exact AC _ (by omega)
  have w2:IntKind.i64.wrap ((q:Int) * (l:Int))=((l * q:Nat):Int):=by rw [show (q:Int) * (l:Int)=((q * l:Nat):Int) by push_cast;rfl,Nat.mul_comm l q];exact AC _ (by omega)
  have c2:=Al n xs ((q:Int) * ((l:Int) - (p:Int)))
  cases hs:Au xs ((q:Int) * ((l:Int) - (p:Int))) with
  |false =>
   rw [hs] at c2
   simp only [Bool.false_eq_true,if_false]
   (try (simp -implicitDefEqProofs only [go_sem,w0,w1]));repeat' first|(with_reducible first|exact True.intro|refine And.intro ?_ ?_|intro _)|(((with_reducible refine isCall ?_);first|refine AG (c1) rfl ?_ ?_|refine AE (c1) rfl ?_|refine AB (c1) rfl ?_ ?_|refine AF (c1) rfl rfl ?_|refine AG (c2) rfl ?_ ?_|refine AE (c2) rfl ?_|refine AB (c2) rfl ?_ ?_|refine AF (c2) rfl rfl ?_)<;>try (simp -implicitDefEqProofs only [go_sem,w0,w1]))|(((with_reducible refine AM ?_ ?_)<;>intro _)<;>try (simp -implicitDefEqProofs only [go_sem,w0,w1]))|simp (disch:=omega) only [AC,AH,AK,AJ,AD,AL,AI,AA]|((with_reducible refine AW ?_);refine⟨_,rfl,?_,?_⟩)
   all_goals first|rfl|(simp;done)|skip
  |true =>
   rw [hs] at c2
   simp only [if_true]
   obtain⟨hl,hf⟩:=DC hs
   obtain⟨d,hd⟩:∃d,fs xs=d:=⟨_,rfl⟩
   rw [hd] at hf ⊢
   subst hf
   rw [DI,show ((l:Int) - (p:Int))=((l - p:Nat):Int) by omega] at hl
   have hdl:=NO hl
   simp only [Int.toNat_natCast]
   have c3:=fun k hk=>I5 q (l - p) k n d (by omega) (by omega) b7 hk hdl
   have hW0:S4 l p q d=FN l q fun k=>CU p (Bf (l - p) q k d):=rfl
   have c4:=fun k=>HT l p false (Bf (l - p) q k d) b2 b3 (by rw [Bk];omega) (by rw [Bk];omega)
   have hWl:∀k,k < q→(CU p (Bf (l - p) q k d)).length=l:=fun k _=>by rw [CF,Bk];omega
   obtain⟨W,hW⟩:∃W:Nat→List F,(fun k=>CU p (Bf (l - p) q k d))=W:=⟨_,rfl⟩
   have hWk:∀k,CU p (Bf (l - p) q k d)=W k:=fun k=>by rw [←hW]
   simp only [hWk] at c4 hWl
   rw [hW] at hW0
   rw [hW0]
   have hlq:l * q≤120:=Mk b2 b7
   have hlq1:0 < l * q:=Nat.mul_pos (by omega) (by omega)
   have hB:0 < (FN l q W).length:=by rw [E5];exact hlq1
   rw [Bs hB]
   obtain⟨N,hN⟩:∃N,l * q=N:=⟨_,rfl⟩
   rw [hN] at w2 hlq hlq1
   have hf0:=U4 l q W
   rw [hN] at hf0
   (try (simp -implicitDefEqProofs only [go_sem,w0,w1,w2,DU]));repeat' first|(with_reducible first|exact True.intro|refine And.intro ?_ ?_|intro _)|(((with_reducible refine isCall ?_);first|refine AG (c1) rfl ?_ ?_|refine AE (c1) rfl ?_|refine AB (c1) rfl ?_ ?_|refine AF (c1) rfl rfl ?_|refine AG (c2) rfl ?_ ?_|refine AE (c2) rfl ?_|refine AB (c2) rfl ?_ ?_|refine AF (c2) rfl rfl ?_)<;>try (simp -implicitDefEqProofs only [go_sem,w0,w1,w2,DU]))|(((with_reducible refine AM ?_ ?_)<;>intro _)<;>try (simp -implicitDefEqProofs only [go_sem,w0,w1,w2,DU]))|simp (disch:=omega) only [AC,AH,AK,AJ,AD,AL,AI,AA]|((with_reducible refine AW ?_);refine⟨_,rfl,?_,?_⟩)
   all_goals first|omega|(simp;done)|(simp;omega)|skip
   rw [←hf0]
   refine AS (α:=Nat) (l0:=?l2) (m0:=?m2) (fun x=>[(7,.d (.int .i64 (x:Int)))]) (fun x=>[(32,.row 3 1 false (AY (iv (FF l q W x 0))))]) (fun x=>x≤q) (fun x=>q - x) 0 ?h02 ?he2 ?he22 ?hI2 ?step2
   case h02=>(simp -implicitDefEqProofs only [go_sem];rfl)
   case he2=>rfl
   case he22=>rfl
   case' step2=>(rintro k hI;try dsimp only at hI)
   case' hI2=>try dsimp only
   ·exact Nat.zero_le _
   ·by_cases hk:k < q
    ·have hk':(k:Int) < (q:Int):=by omega
     have hwk:IntKind.i64.wrap ((k:Int)+1)=((k+1:Nat):Int):=by rw [AC _ (by omega)];omega
     have c5:=c3 k hk
     have c6:=c4 k
     rw [Aj] at c6
     have hkl:=hWl k hk
     have hnx:=N0 (m:=l) (k:=k) W (show 0 < q by omega)
     (try (simp -implicitDefEqProofs only [go_sem,hk',hkl]));repeat' first|(with_reducible first|exact True.intro|refine And.intro ?_ ?_|intro _)|(((with_reducible refine isCall ?_);first|refine AG (c5) rfl ?_ ?_|refine AE (c5) rfl ?_|refine AB (c5) rfl ?_ ?_|refine AF (c5) rfl rfl ?_|refine AG (c6) rfl ?_ ?_|refine AE (c6) rfl ?_|refine AB (c6) rfl ?_ ?_|refine AF (c6) rfl rfl ?_)<;>try (simp -implicitDefEqProofs only [go_sem,hk',hkl]))|(((with_reducible refine AM ?_ ?_)<;>intro _)<;>try (simp -implicitDefEqProofs only [go_sem,hk',hkl]))|simp (disch:=omega) only [AC,AH,AK,AJ,AD,AL,AI,AA]|((with_reducible refine AW ?_);refine⟨_,rfl,?_,?_⟩)
     all_goals first|omega|(simp;done)|(simp;omega)|skip
     refine AS (α:=Nat) (l0:=?l3) (m0:=?m3) (fun x=>[(9,.d (.int .i64 (x:Int)))]) (fun x=>[(32,.row 3 1 false (AY (iv (FF l q W k x))))]) (fun x=>x≤l) (fun x=>l - x) 0 ?h03 ?he3 ?he23 ?hI3 ?step3
     case h03=>(simp -implicitDefEqProofs only [go_sem];rfl)
     case he3=>rfl
     case he23=>rfl
     case' step3=>(rintro j hI2;try dsimp only at hI2)
     case' hI3=>try dsimp only
     ·exact Nat.zero_le _
     ·have hfl:=PW l q W k j
      rw [hN] at hfl
      by_cases hj:j < l
      ·have hj':(j:Int) < (l:Int):=by omega
       have hwj:IntKind.i64.wrap ((j:Int)+1)=((j+1:Nat):Int):=by rw [AC _ (by omega)];omega
       have hlt:=N6 hk hj
       rw [hN] at hlt
       have hst:=PV (W:=W) hk hj
       have hmj:IntKind.i64.wrap ((j:Int) * (q:Int))=((j * q:Nat):Int):=by rw [show (j:Int) * (q:Int)=((j * q:Nat):Int) by push_cast;rfl];exact AC _ (by omega)
       obtain⟨s,hs⟩:∃s,j * q=s:=⟨_,rfl⟩
       rw [hs] at hmj hst hlt
       have hma:IntKind.i64.wrap ((s:Int)+(k:Int))=((s+k:Nat):Int):=by rw [AC _ (by omega)];omega
       have hjl:j < (W k).length:=by omega
       (try (simp -implicitDefEqProofs only [go_sem,hj',hwj,hmj,hma,hlt,hfl,hst,hjl,hkl]));repeat' first|(with_reducible first|exact True.intro|refine And.intro ?_ ?_|intro _)|(((with_reducible refine AM ?_ ?_)<;>intro _)<;>try (simp -implicitDefEqProofs only [go_sem,hj',hwj,hmj,hma,hlt,hfl,hst,hjl,hkl]))|simp (disch:=omega) only [AC,AH,AK,AJ,AD,AL,AI,AA]|((with_reducible refine AW ?_);refine⟨_,rfl,?_,?_⟩)
       all_goals first|omega|(simp;done)|(simp;omega)|skip
       all_goals first|rfl|skip
      ·have hj':¬(j:Int) < (l:Int):=by omega
       have hje:j=l:=by omega
       rw [hje,hnx]
       (try (simp -implicitDefEqProofs only [go_sem,Int.lt_irrefl,hwk,hkl]));repeat' first|(with_reducible first|exact True.intro|refine And.intro ?_ ?_|intro _)|(((with_reducible refine AM ?_ ?_)<;>intro _)<;>try (simp -implicitDefEqProofs only [go_sem,Int.lt_irrefl,hwk,hkl]))|simp (disch:=omega) only [AC,AH,AK,AJ,AD,AL,AI,AA]|((with_reducible refine AW ?_);refine⟨_,rfl,?_,?_⟩)
       all_goals first|omega|(simp;done)|(simp;omega)|skip
       all_goals first|rfl|skip
    ·have hk':¬(k:Int) < (q:Int):=by omega
     have hke:k=q:=by omega
     have hfe:=PX (m:=l) W (show 0 < q by omega)
     rw [hke,hfe]
     (try (simp -implicitDefEqProofs only [go_sem,Int.lt_irrefl]));repeat' first|(with_reducible first|exact True.intro|refine And.intro ?_ ?_|intro _)|(((with_reducible refine AM ?_ ?_)<;>intro _)<;>try (simp -implicitDefEqProofs only [go_sem,Int.lt_irrefl]))|simp (disch:=omega) only [AC,AH,AK,AJ,AD,AL,AI,AA]|((with_reducible refine AW ?_);refine⟨_,rfl,?_,?_⟩)
     all_goals first|rfl|omega|(simp;done)|skip
end Go.Pw
