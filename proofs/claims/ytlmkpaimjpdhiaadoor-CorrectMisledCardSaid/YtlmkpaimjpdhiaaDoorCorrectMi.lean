/- A part of the proof. -/
import Derived.Test.YtlmkpaimjpdhiaaDoorPgCorrectX
set_option linter.all false
open Go Go.Pw Go.Proofs
namespace Go.Pw
set_option linter.unusedSimpArgs false
set_option linter.unusedVariables false
set_option maxRecDepth 100000
set_option maxHeartbeats 3200000
def Ej:List F→List F→Nat
 |x :: a,y :: b=>(if x=y then 0 else 1)+Ej a b
 |_,_=>0
theorem SC:∀(a b:List F),a.length=b.length→(Ek a.length a b []).length=Ej a b
 |[],[],_=>rfl
 |x :: a,y :: b,h=>by
  have ih:=SC a b (by simpa using h)
  unfold Ek at ih ⊢
  rw [List.length_cons,List.range_succ_eq_map,List.filter_cons,List.filter_map]
  have hc:((fun j=>decide ((x :: a)[j]?.getD 0≠(y :: b)[j]?.getD 0) && !([]:List Nat).contains j) ∘ Nat.succ)=fun j=>decide (a[j]?.getD 0≠b[j]?.getD 0) && !([]:List Nat).contains j:=rfl
  rw [hc]
  show _=(if x=y then 0 else 1)+Ej a b
  by_cases hxy:x=y
  ·rw [if_neg (by simp [hxy]),if_pos hxy,List.length_map,ih];omega
  ·rw [if_pos (by simp [hxy]),if_neg hxy,List.length_cons,List.length_map,ih];omega
theorem Qb {L:Nat} {a b:List F} (ha:a.length=L) (hb:b.length=L):(Ek L a b []).length=Ej a b:=by
 rw [←ha];exact SC a b (by omega)
theorem LW (v:F):∀(a b:List F) (j:Nat),a.length=b.length→j < a.length→Ej a (b.set j v)+(if a[j]?.getD 0=b[j]?.getD 0 then 0 else 1)=Ej a b+(if a[j]?.getD 0=v then 0 else 1)
 |x :: a,y :: b,0,_,_=>by
  show (if x=v then 0 else 1)+Ej a b+(if x=y then 0 else 1)=(if x=y then 0 else 1)+Ej a b+(if x=v then 0 else 1)
  omega
 |x :: a,y :: b,j+1,h,hj=>by
  have ih:=LW v a b j (by simpa using h) (by simpa using hj)
  show (if x=y then 0 else 1)+Ej a (b.set j v)+(if a[j]?.getD 0=b[j]?.getD 0 then 0 else 1)=(if x=y then 0 else 1)+Ej a b+(if a[j]?.getD 0=v then 0 else 1)
  omega
theorem PM:∀a,Ej a a=0
 |[]=>rfl
 |x :: a=>by show (if x=x then 0 else 1)+Ej a a=0;rw [PM a,if_pos rfl]
def PI (n m i:Nat):List F:=(List.range m).map fun j=>if j < i∧j≤n / 64 then Fin.ofNat 16 n else 0
theorem Ut (n m i:Nat):(PI n m i).length=m:=by simp [PI]
theorem eJ (n m:Nat):PI n m 0=List.replicate m 0:=by
 apply List.ext_getElem
 ·simp [PI]
 ·intro j h1 h2;simp [PI]
theorem eH (n m i:Nat) (h:i≤n / 64):(PI n m i).set i (Fin.ofNat 16 n)=PI n m (i+1):=by
 apply List.ext_getElem
 ·simp [PI]
 ·intro j h1 h2
  rw [List.getElem_set]
  simp only [PI,List.getElem_map,List.getElem_range]
  by_cases hij:i=j
  ·subst hij;rw [if_pos rfl,if_pos ⟨by omega,h⟩]
  ·rw [if_neg hij]
   by_cases hj:j < i∧j≤n / 64
   ·rw [if_pos hj,if_pos ⟨by omega,hj.2⟩]
   ·rw [if_neg hj,if_neg (by omega)]
theorem eI (n m i:Nat) (h:¬i≤n / 64):PI n m (i+1)=PI n m i:=by
 apply List.ext_getElem
 ·simp [PI]
 ·intro j h1 h2
  simp only [PI,List.getElem_map,List.getElem_range]
  by_cases hj:j < i∧j≤n / 64
  ·rw [if_pos hj,if_pos ⟨by omega,hj.2⟩]
  ·rw [if_neg hj,if_neg (by omega)]
def ZQ (n m:Nat):List F:=(PI n m m).set (n / 64) (Fin.ofNat 16 (1+n / 16 % 4))
theorem QV (n m:Nat):(ZQ n m).length=m:=by simp [ZQ,Ut]
def dg (L P:Nat) (wt:Nat) (n:Nat):Option (List F):=if (Ek L (CS P (ZQ n (L - P))) (List.replicate L 0) []).length=wt then some (CS P (ZQ n (L - P))) else none
def df (L P wt:Nat):Option (List F):=(List.range (64 * (L - P))).findSome? (dg L P wt)
theorem YA {L P wt:Nat} (hP:P≤L) {w:List F} (h:df L P wt=some w):w.length=L∧UG L P w∧Ej w (List.replicate L 0)=wt:=by
 obtain⟨n,hn,h2⟩:=G_ h
 unfold dg at h2
 have hl:(CS P (ZQ n (L - P))).length=L:=by rw [CD,QV];omega
 split at h2
 ·rename_i hw
  simp only [Option.some.injEq] at h2
  subst h2
  refine⟨hl,?_,?_⟩
  ·have:=JE P (ZQ n (L - P))
   rw [QV] at this
   rwa [show L - P+P=L by omega] at this
  ·rw [←Qb hl (by simp)];exact hw
 ·cases h2
theorem XP {β:Type} {f:Nat→Option β} {N:Nat} (h:∀i,i < N→f i=none):(List.range N).findSome? f=none:=by
 rw [List.findSome?_eq_none_iff];exact fun i hi=>h i (by simpa using hi)
def e_ (o:Option (List F)):D:=match o with
 |some w=>.list false (AY (iv w))
 |none=>.list true []
theorem Ro (w:List F):e_ (some w)=.list false (AY (iv w)):=rfl
theorem Rp:e_ none=.list true []:=rfl
theorem af (n:Nat):((Fin.ofNat 16 n:F).val:Int)=((n % 16:Nat):Int):=rfl
theorem Pz {l p:Nat} (n1:Bool) {d:List F} (hc:BE l p=true) (hd:d.length+p=l) :
  B5 E0 Gc [.agg [.int .i64 (l:Int),.int .i64 (p:Int)],.list n1 (AY (iv d))] (.tup [.list false (AY (iv (CS p d))),.int .i64 0]):=by
 have c:=Lx l p n1 (iv d)
 have hs:Au (iv d) ((l:Int) - (p:Int))=true:=by rw [HI,decide_eq_true_eq];omega
 have hb:=C0 hc
 unfold QT QU at c
 rw [if_pos hc,if_pos hs,if_pos hc,if_pos hs,PD,Int.toNat_natCast,Bq (show 0 < (CS p d).length by rw [CD];omega)] at c
 exact c
theorem Zt (l k:Nat):(List.replicate l (0:F))[k]?.getD 0=0:=by
 rw [List.getElem?_replicate];split<;>rfl
theorem Wq {a:F} (h:((a.val:Nat):Int)=0):a=0:=Fin.ext (by show a.val=0;omega)
theorem PA (R:List F) (j:Nat):(AY (iv R)).set j (.int .i64 1)=AY ((iv R).set j (((1:F).val:Nat):Int)):=by
 unfold AY;rw [List.map_set];rfl
attribute [local congr] Cf BG BH A0 Cg A5 A7 A6 Az Ar Am Ai A2 An A3 BP BT BR BS BQ BU BM Ap A4 Aq BK Bk Ao BN BO BL BI BJ
attribute [local irreducible] IntKind.wrap A_ Option.getD and or
theorem Ml (l p wt:Nat) (hc:BE (l:Int) (p:Int)=true) (hwt:wt≤1000):B5 E0 KJ [.agg [.int .i64 (l:Int),.int .i64 (p:Int)],.int .i64 (wt:Int)] (e_ (df l p wt)):=by
 have hb:=C0 hc
 refine AP L9 Af (by simp) fun hwf=>?_
 rw [AR];unfold IM
 have w0:IntKind.i64.wrap ((l:Int) - (p:Int))=((l - p:Nat):Int):=by rw [AC _ (by omega)];omega
 obtain⟨m,hm⟩:∃m,l - p=m:=⟨_,rfl⟩
 have hS:df l p wt=(List.range (64 * m)).findSome? (dg l p wt):=by rw [←hm];rfl
 have hN:∀n,dg l p wt n=if (Ek l (CS p (ZQ n m)) (List.replicate l 0) []).length=wt then some (CS p (ZQ n m)) else none:=fun n=>by rw [←hm];rfl
 rw [hm] at w0
 have w64:IntKind.i64.wrap (64 * (m:Int))=((64 * m:Nat):Int):=by rw [AC _ (by omega)];omega
 (try (simp -implicitDefEqProofs only [go_sem,w0]));repeat' first|(with_reducible first|exact True.intro|refine And.intro ?_ ?_|intro _)|(((with_reducible refine AM ?_ ?_)<;>intro _)<;>try (simp -implicitDefEqProofs only [go_sem,w0]))|simp (disch:=omega) only [AC,AH,AK,AJ,AD,AL,AI,AA]|((with_reducible refine AW ?_);refine⟨_,rfl,?_,?_⟩)
 all_goals first|omega|(simp;done)|(simp;omega)|skip
 refine AS (α:=Nat) (l0:=?l1) (m0:=?m1) (fun x=>[(6,.d (.int .i64 (x:Int)))]) (fun x=>[]) (fun x=>x≤64 * m∧∀k,k < x→dg l p wt k=none) (fun x=>64 * m - x) 0 ?h01 ?he1 ?he21 ?hI1 ?step1
 case h01=>(simp -implicitDefEqProofs only [go_sem];rfl)
 case he1=>rfl
 case he21=>rfl
 case' step1=>(rintro n hI;try dsimp only at hI)
 case' hI1=>try dsimp only
 ·exact⟨Nat.zero_le _,fun k hk=>absurd hk (by omega)⟩
 ·obtain⟨q1,q2⟩:=hI
  by_cases h:n < 64 * m
  ·have h':(n:Int) < ((64 * m:Nat):Int):=by omega
   have wn:IntKind.i64.wrap ((n:Int)+1)=((n+1:Nat):Int):=by rw [AC _ (by omega)];omega
   have t64:Int.tdiv (n:Int) 64=((n / 64:Nat):Int):=EJ n 64
   have u64:IntKind.i64.wrap ((n / 64:Nat):Int)=((n / 64:Nat):Int):=AC _ (by omega)
   have t16:Int.tdiv (n:Int) 16=((n / 16:Nat):Int):=EJ n 16
   have u16:IntKind.i64.wrap ((n / 16:Nat):Int)=((n / 16:Nat):Int):=AC _ (by omega)
   have r16:Int.tmod (n:Int) 16=((Fin.ofNat 16 n:F).val:Int):=Il n 16
   have r4:Int.tmod ((n / 16:Nat):Int) 4=((n / 16 % 4:Nat):Int):=Il _ 4
   have a4:IntKind.i64.wrap (1+((n / 16 % 4:Nat):Int))=((Fin.ofNat 16 (1+n / 16 % 4):F).val:Int):=by
    rw [AC _ (by omega),af];omega
   have hnm:n / 64 < m:=by omega
   have hq:=hN n
   have hDl:=QV n m
   have hDd:ZQ n m=(PI n m m).set (n / 64) (Fin.ofNat 16 (1+n / 16 % 4)):=rfl
   obtain⟨Dn,hDn⟩:∃Dn,ZQ n m=Dn:=⟨_,rfl⟩
   rw [hDn] at hq hDl hDd
   obtain⟨g,hg⟩:∃g,n / 64=g:=⟨_,rfl⟩
   rw [hg] at t64 u64 hnm hDd
   have hgt:∀i,i≤g→(PI n m i).set i (Fin.ofNat 16 n)=PI n m (i+1):=fun i hi=>eH n m i (by omega)
   have hgf:∀i,¬i≤g→PI n m (i+1)=PI n m i:=fun i hi=>eI n m i (by omega)
   obtain⟨f16,hf16⟩:∃f16:F,Fin.ofNat 16 n=f16:=⟨_,rfl⟩
   rw [hf16] at r16
   rw [hf16] at hgt
   obtain⟨f4,hf4⟩:∃f4:F,Fin.ofNat 16 (1+n / 16 % 4)=f4:=⟨_,rfl⟩
   rw [hf4] at a4 hDd
   (try (simp -implicitDefEqProofs only [go_sem,h',w64,DQ]));repeat' first|(with_reducible first|exact True.intro|refine And.intro ?_ ?_|intro _)|(((with_reducible refine AM ?_ ?_)<;>intro _)<;>try (simp -implicitDefEqProofs only [go_sem,h',w64,DQ]))|simp (disch:=omega) only [AC,AH,AK,AJ,AD,AL,AI,AA]|((with_reducible refine AW ?_);refine⟨_,rfl,?_,?_⟩)
   all_goals first|omega|(simp;done)|(simp;omega)|skip
   rw [←eJ n m]
   refine AS (α:=Nat) (l0:=?l2) (m0:=?m2) (fun x=>[(8,.d (.int .i64 (x:Int)))]) (fun x=>[(23,.row 3 1 false (AY (iv (PI n m x))))]) (fun x=>x≤m) (fun x=>m - x) 0 ?h02 ?he2 ?he22 ?hI2 ?step2
   case h02=>(simp -implicitDefEqProofs only [go_sem];rfl)
   case he2=>rfl
   case he22=>rfl
   case' step2=>(rintro i hI2;try dsimp only at hI2)
   case' hI2=>try dsimp only
   ·exact Nat.zero_le _
   ·have hsl:=Ut n m i
    by_cases hi:i < m
    ·have hi':(i:Int) < (m:Int):=by omega
     have wi:IntKind.i64.wrap ((i:Int)+1)=((i+1:Nat):Int):=by rw [AC _ (by omega)];omega
     by_cases hig:i≤g
     ·have hig':(i:Int)≤(g:Int):=by omega
      have hst:=hgt i hig
      (try (simp -implicitDefEqProofs only [go_sem,hi',hi,wi,t64,u64,r16,hig',hst,hsl]));repeat' first|(with_reducible first|exact True.intro|refine And.intro ?_ ?_|intro _)|(((with_reducible refine AM ?_ ?_)<;>intro _)<;>try (simp -implicitDefEqProofs only [go_sem,hi',hi,wi,t64,u64,r16,hig',hst,hsl]))|simp (disch:=omega) only [AC,AH,AK,AJ,AD,AL,AI,AA]|((with_reducible refine AW ?_);refine⟨_,rfl,?_,?_⟩)
      all_goals first|omega|(simp;done)|(simp;omega)|skip
      all_goals first|rfl|skip
     ·have hig':¬(i:Int)≤(g:Int):=by omega
      have hst:=hgf i hig
      rw [←hst] at hsl ⊢
      (try (simp -implicitDefEqProofs only [go_sem,hi',hi,wi,t64,u64,r16,hig',hsl]));repeat' first|(with_reducible first|exact True.intro|refine And.intro ?_ ?_|intro _)|(((with_reducible refine AM ?_ ?_)<;>intro _)<;>try (simp -implicitDefEqProofs only [go_sem,hi',hi,wi,t64,u64,r16,hig',hsl]))|simp (disch:=omega) only [AC,AH,AK,AJ,AD,AL,AI,AA]|((with_reducible refine AW ?_);refine⟨_,rfl,?_,?_⟩)
      all_goals first|omega|(simp;done)|(simp;omega)|skip
      all_goals first|rfl|skip
    ·have hi':¬(i:Int) < (m:Int):=by omega
     have hie:i=m:=by omega
     rw [hie] at hsl ⊢
     have c1:=Pz (l:=l) (p:=p) false (d:=Dn) hc (by omega)
     have hEl:(CS p Dn).length=l:=by rw [CD];omega
     obtain⟨W,hW⟩:∃W,CS p Dn=W:=⟨_,rfl⟩
     rw [hW] at c1 hEl hq
     have c2:=MF (l:=l) false false hEl (show (List.replicate l (0:F)).length=l by simp) (by omega)
     rw [←DQ] at c2
     by_cases hw:(Ek l W (List.replicate l 0) []).length=wt
     ·have hw':((Ek l W (List.replicate l 0) []).length:Int)=(wt:Int):=by omega
      rw [if_pos hw] at hq
      have hfin:df l p wt=some W:=by rw [hS];exact GG q2 hq _ h
      rw [hfin,Ro]
      (try (simp -implicitDefEqProofs only [go_sem,Int.lt_irrefl,hnm,t64,u64,t16,u16,r4,a4,hsl,←hDd,hw']));repeat' first|(with_reducible first|exact True.intro|refine And.intro ?_ ?_|intro _)|(((with_reducible refine isCall ?_);first|refine AG (c1) rfl ?_ ?_|refine AE (c1) rfl ?_|refine AB (c1) rfl ?_ ?_|refine AF (c1) rfl rfl ?_|refine AG (c2) rfl ?_ ?_|refine AE (c2) rfl ?_|refine AB (c2) rfl ?_ ?_|refine AF (c2) rfl rfl ?_)<;>try (simp -implicitDefEqProofs only [go_sem,Int.lt_irrefl,hnm,t64,u64,t16,u16,r4,a4,hsl,←hDd,hw']))|(((with_reducible refine AM ?_ ?_)<;>intro _)<;>try (simp -implicitDefEqProofs only [go_sem,Int.lt_irrefl,hnm,t64,u64,t16,u16,r4,a4,hsl,←hDd,hw']))|simp (disch:=omega) only [AC,AH,AK,AJ,AD,AL,AI,AA]|((with_reducible refine AW ?_);refine⟨_,rfl,?_,?_⟩)
      all_goals first|omega|(simp;done)|(simp;omega)|skip
      all_goals first|rfl|skip
     ·have hw':¬((Ek l W (List.replicate l 0) []).length:Int)=(wt:Int):=by omega
      rw [if_neg hw] at hq
      have hnn:∀k,k < n+1→dg l p wt k=none:=fun k hk=>by
       rcases Nat.lt_succ_iff_lt_or_eq.1 hk with hk|rfl
       ·exact q2 k hk
       ·exact hq
      (try (simp -implicitDefEqProofs only [go_sem,Int.lt_irrefl,hnm,t64,u64,t16,u16,r4,a4,hsl,←hDd,hw',wn]));repeat' first|(with_reducible first|exact True.intro|refine And.intro ?_ ?_|intro _)|(((with_reducible refine isCall ?_);first|refine AG (c1) rfl ?_ ?_|refine AE (c1) rfl ?_|refine AB (c1) rfl ?_ ?_|refine AF (c1) rfl rfl ?_|refine AG (c2) rfl ?_ ?_|refine AE (c2) rfl ?_|refine AB (c2) rfl ?_ ?_|refine AF (c2) rfl rfl ?_)<;>try (simp -implicitDefEqProofs only [go_sem,Int.lt_irrefl,hnm,t64,u64,t16,u16,r4,a4,hsl,←hDd,hw',wn]))|(((with_reducible refine AM ?_ ?_)<;>intro _)<;>try (simp -implicitDefEqProofs only [go_sem,Int.lt_irrefl,hnm,t64,u64,t16,u16,r4,a4,hsl,←hDd,hw',wn]))|simp (disch:=omega) only [AC,AH,AK,AJ,AD,AL,AI,AA]|((with_reducible refine AW ?_);refine⟨_,rfl,?_,?_⟩)
      all_goals first|omega|(simp;done)|(simp;omega)|skip
      all_goals first|exact hnn|exact hnn _ (by assumption)|skip
  ·have h':¬(n:Int) < ((64 * m:Nat):Int):=by omega
   have hfin:df l p wt=none:=by rw [hS];exact XP fun k hk=>q2 k (by omega)
   rw [hfin,Rp]
   (try (simp -implicitDefEqProofs only [go_sem,h',w64]));repeat' first|(with_reducible first|exact True.intro|refine And.intro ?_ ?_|intro _)|(((with_reducible refine AM ?_ ?_)<;>intro _)<;>try (simp -implicitDefEqProofs only [go_sem,h',w64]))|simp (disch:=omega) only [AC,AH,AK,AJ,AD,AL,AI,AA]|((with_reducible refine AW ?_);refine⟨_,rfl,?_,?_⟩)
   all_goals first|omega|(simp;done)|(simp;omega)|skip
   all_goals first|rfl|skip
theorem Lj (L P n:Int):B5 E0 FD [.agg [.int .i64 L,.int .i64 P],.int .i64 n] (.bool true):=by
 have c0:=CQ
 have c1:=DV L P
 refine AP HY Af (by simp) fun hwf=>?_
 rw [AR];unfold Eo
 cases hr:P4 L P with
 |false =>
  rw [hr] at c1
  (try (simp -implicitDefEqProofs only [go_sem]));repeat' first|(with_reducible first|exact True.intro|refine And.intro ?_ ?_|intro _)|(((with_reducible refine isCall ?_);first|refine AG (c0) rfl ?_ ?_|refine AE (c0) rfl ?_|refine AB (c0) rfl ?_ ?_|refine AF (c0) rfl rfl ?_|refine AG (c1) rfl ?_ ?_|refine AE (c1) rfl ?_|refine AB (c1) rfl ?_ ?_|refine AF (c1) rfl rfl ?_)<;>try (simp -implicitDefEqProofs only [go_sem]))|(((with_reducible refine AM ?_ ?_)<;>intro _)<;>try (simp -implicitDefEqProofs only [go_sem]))|simp (disch:=omega) only [AC,AH,AK,AJ,AD,AL,AI,AA]|((with_reducible refine AU ?_);refine⟨(_,_,_),rfl,?_,?_⟩)
  all_goals first|rfl|(simp;done)|skip
 |true =>
  rw [hr] at c1
  obtain⟨hc,r1,r2⟩:=P3 hr
  obtain⟨l,p,rfl,rfl,b1,b2,b3,b4,b5⟩:=Df hc
  by_cases hn1:n < 0
  ·(try (simp -implicitDefEqProofs only [go_sem,hn1]));repeat' first|(with_reducible first|exact True.intro|refine And.intro ?_ ?_|intro _)|(((with_reducible refine isCall ?_);first|refine AG (c0) rfl ?_ ?_|refine AE (c0) rfl ?_|refine AB (c0) rfl ?_ ?_|refine AF (c0) rfl rfl ?_|refine AG (c1) rfl ?_ ?_|refine AE (c1) rfl ?_|refine AB (c1) rfl ?_ ?_|refine AF (c1) rfl rfl ?_)<;>try (simp -implicitDefEqProofs only [go_sem,hn1]))|(((with_reducible refine AM ?_ ?_)<;>intro _)<;>try (simp -implicitDefEqProofs only [go_sem,hn1]))|simp (disch:=omega) only [AC,AH,AK,AJ,AD,AL,AI,AA]|((with_reducible refine AU ?_);refine⟨(_,_,_),rfl,?_,?_⟩)
   all_goals first|rfl|(simp;done)|skip
  by_cases hn2:(l:Int) < n
  ·(try (simp -implicitDefEqProofs only [go_sem,hn1,hn2]));repeat' first|(with_reducible first|exact True.intro|refine And.intro ?_ ?_|intro _)|(((with_reducible refine isCall ?_);first|refine AG (c0) rfl ?_ ?_|refine AE (c0) rfl ?_|refine AB (c0) rfl ?_ ?_|refine AF (c0) rfl rfl ?_|refine AG (c1) rfl ?_ ?_|refine AE (c1) rfl ?_|refine AB (c1) rfl ?_ ?_|refine AF (c1) rfl rfl ?_)<;>try (simp -implicitDefEqProofs only [go_sem,hn1,hn2]))|(((with_reducible refine AM ?_ ?_)<;>intro _)<;>try (simp -implicitDefEqProofs only [go_sem,hn1,hn2]))|simp (disch:=omega) only [AC,AH,AK,AJ,AD,AL,AI,AA]|((with_reducible refine AU ?_);refine⟨(_,_,_),rfl,?_,?_⟩)
   all_goals first|rfl|(simp;done)|skip
  obtain⟨e,rfl⟩:∃e:Nat,n=(e:Int):=⟨n.toNat,by omega⟩
  have cf:=GR l p e
  rw [Uo hc (by omega),Un hc (by omega)] at cf
  by_cases hfo:(p:Int) < (e:Int)+(p:Int) / 2
  ·rw [decide_eq_true hfo] at cf
   have hd:Int.tdiv (p:Int) 2=((p / 2:Nat):Int):=EJ p 2
   have w0:IntKind.i64.wrap ((p / 2:Nat):Int)=((p / 2:Nat):Int):=AC _ (by omega)
   have w1:IntKind.i64.wrap ((p:Int)+1)=((p+1:Nat):Int):=by rw [AC _ (by omega)];omega
   have w2:IntKind.i64.wrap ((e:Int) - ((p / 2:Nat):Int))=(e:Int) - ((p / 2:Nat):Int):=AC _ (by omega)
   obtain⟨h,hh⟩:∃h,p / 2=h:=⟨_,rfl⟩
   rw [hh] at hd w0 w2
   obtain⟨wt,hwt⟩:∃wt:Nat,max ((p+1:Nat):Int) ((e:Int) - (h:Int))=(wt:Int):=⟨(max ((p+1:Nat):Int) ((e:Int) - (h:Int))).toNat,by omega⟩
   have c2:=Ml l p wt hc (by omega)
   have hsp:=fun w=>@YA l p wt (by omega) w
   obtain⟨O,hO⟩:∃O,df l p wt=O:=⟨_,rfl⟩
   rw [hO] at c2 hsp
   cases O with
   |none =>
    rw [Rp] at c2
    have hl0:¬(0:Int)=(l:Int):=by omega
    have hl0':¬((0:Nat):Int)=(l:Int):=by omega
    (try (simp -implicitDefEqProofs only [go_sem,hn1,hn2,hd,w0,w1,w2,hwt,hl0,hl0']));repeat' first|(with_reducible first|exact True.intro|refine And.intro ?_ ?_|intro _)|(((with_reducible refine isCall ?_);first|refine AG (c0) rfl ?_ ?_|refine AE (c0) rfl ?_|refine AB (c0) rfl ?_ ?_|refine AF (c0) rfl rfl ?_|refine AG (c1) rfl ?_ ?_|refine AE (c1) rfl ?_|refine AB (c1) rfl ?_ ?_|refine AF (c1) rfl rfl ?_|refine AG (c2) rfl ?_ ?_|refine AE (c2) rfl ?_|refine AB (c2) rfl ?_ ?_|refine AF (c2) rfl rfl ?_|refine AG (cf) rfl ?_ ?_|refine AE (cf) rfl ?_|refine AB (cf) rfl ?_ ?_|refine AF (cf) rfl rfl ?_)<;>try (simp -implicitDefEqProofs only [go_sem,hn1,hn2,hd,w0,w1,w2,hwt,hl0,hl0']))|(((with_reducible refine AM ?_ ?_)<;>intro _)<;>try (simp -implicitDefEqProofs only [go_sem,hn1,hn2,hd,w0,w1,w2,hwt,hl0,hl0']))|simp (disch:=omega) only [AC,AH,AK,AJ,AD,AL,AI,AA]|((with_reducible refine AU ?_);refine⟨(_,_,_),rfl,?_,?_⟩)
    all_goals first|rfl|(simp;done)|skip
   |some W =>
    rw [Ro] at c2
    obtain⟨hWl,hWc,hWw⟩:=hsp W rfl
    have hlW:(W.length:Int)=(l:Int):=by omega
    (try (simp -implicitDefEqProofs only [go_sem,hn1,hn2,hd,w0,w1,w2,hwt,hlW,DQ]));repeat' first|(with_reducible first|exact True.intro|refine And.intro ?_ ?_|intro _)|(((with_reducible refine isCall ?_);first|refine AG (c1) rfl ?_ ?_|refine AE (c1) rfl ?_|refine AB (c1) rfl ?_ ?_|refine AF (c1) rfl rfl ?_|refine AG (c2) rfl ?_ ?_|refine AE (c2) rfl ?_|refine AB (c2) rfl ?_ ?_|refine AF (c2) rfl rfl ?_|refine AG (cf) rfl ?_ ?_|refine AE (cf) rfl ?_|refine AB (cf) rfl ?_ ?_|refine AF (cf) rfl rfl ?_)<;>try (simp -implicitDefEqProofs only [go_sem,hn1,hn2,hd,w0,w1,w2,hwt,hlW,DQ]))|(((with_reducible refine AM ?_ ?_)<;>intro _)<;>try (simp -implicitDefEqProofs only [go_sem,hn1,hn2,hd,w0,w1,w2,hwt,hlW,DQ]))|simp (disch:=omega) only [AC,AH,AK,AJ,AD,AL,AI,AA]|((with_reducible refine AU ?_);refine⟨(_,_,_),rfl,?_,?_⟩)
    all_goals first|omega|(simp;done)|(simp;omega)|skip
    refine AS (α:=Nat×(List F)×Nat) (l0:=?l3) (m0:=?m3) (fun x=>[(11,.d (.int .i64 (x.1:Int))),(10,.d (.int .i64 (x.2.2:Int)))]) (fun x=>[(66,.row 3 1 false (AY (iv x.2.1)))]) (fun x=>x.1≤l∧x.2.1.length=l∧(∀k,k < x.1→x.2.1[k]?.getD 0=W[k]?.getD 0)∧(∀k,x.1≤k→x.2.1[k]?.getD 0=0)∧Ej W x.2.1+e=wt+x.2.2∧x.2.2≤e) (fun x=>l - x.1) (0,(List.replicate l 0),e) ?h03 ?he3 ?he23 ?hI3 ?step3
    case h03=>(simp -implicitDefEqProofs only [go_sem];rfl)
    case he3=>rfl
    case he23=>rfl
    case' step3=>(rintro⟨j,R,lf⟩ hI;try dsimp only at hI)
    case' hI3=>try dsimp only
    ·refine⟨Nat.zero_le _,by simp,fun k hk=>absurd hk (by omega),fun k _=>?_,by show Ej W (List.replicate l 0)+e=wt+e;omega,Nat.le_refl _⟩
     exact Zt l k
    ·obtain⟨j1,j2,j3,j4,j5,j6⟩:=hI
     change R.length=l at j2
     change Ej W R+e=wt+lf at j5
     have j2':=j2
     by_cases hjl:j < l
     ·have hjl':(j:Int) < (l:Int):=by omega
      have wj0:IntKind.i64.wrap ((j:Int)+1)=((j+1:Nat):Int):=by rw [AC _ (by omega)];omega
      by_cases hlf:lf=0
      ·have hlf0:¬(0:Int) < (lf:Int):=by omega
       have hentry:(lf=0∧2 * Ej W R≤p)∨(Ej W R+lf≤h∧∀k:Nat,0≤k→R[k]?.getD 0=W[k]?.getD 0):=.inl ⟨hlf,by omega⟩
       (try (simp -implicitDefEqProofs only [go_sem,hjl',hlf0]));repeat' first|(with_reducible first|exact True.intro|refine And.intro ?_ ?_|intro _)|(((with_reducible refine AM ?_ ?_)<;>intro _)<;>try (simp -implicitDefEqProofs only [go_sem,hjl',hlf0]))|simp (disch:=omega) only [AC,AH,AK,AJ,AD,AL,AI,AA]|((with_reducible refine AU ?_);refine⟨(_,_,_),rfl,?_,?_⟩)
       all_goals first|omega|(simp;done)|(simp;omega)|skip
       refine AS (α:=Nat×(List F)×Nat) (l0:=?l4) (m0:=?m4) (fun x=>[(12,.d (.int .i64 (x.1:Int))),(10,.d (.int .i64 (x.2.2:Int)))]) (fun x=>[(66,.row 3 1 false (AY (iv x.2.1)))]) (fun x=>x.1≤l∧x.2.1.length=l∧((x.2.2=0∧2 * Ej W x.2.1≤p)∨(Ej W x.2.1+x.2.2≤h∧∀k:Nat,x.1≤k→x.2.1[k]?.getD 0=W[k]?.getD 0))) (fun x=>l - x.1) (0,R,lf) ?h04 ?he4 ?he24 ?hI4 ?step4
       case h04=>(simp -implicitDefEqProofs only [go_sem];rfl)
       case he4=>rfl
       case he24=>rfl
       case' step4=>(rintro⟨j2,R2,lf2⟩ hI2;try dsimp only at hI2)
       case' hI4=>try dsimp only
       ·exact⟨Nat.zero_le _,j2',hentry⟩
       ·obtain⟨k1,k2,k3⟩:=hI2
        change R2.length=l at k2
        have hfin:2 * Ej W R2≤p→Cn l p R2 []=some W:=fun hle=>Nt (by omega) k2 hWl (Ex l) hWc (by rw [Qb hWl k2];simpa using hle)
        have cD:=OK (p:=p) false hc k2
        have cS:=BV false false (iv W) (iv W)
        rw [decide_eq_true rfl] at cS
        have hWe:=Bq (show 0 < W.length by omega)
        by_cases hlt:j2 < l
        ·have hlt':(j2:Int) < (l:Int):=by omega
         have wj:IntKind.i64.wrap ((j2:Int)+1)=((j2+1:Nat):Int):=by rw [AC _ (by omega)];omega
         rcases k3 with⟨rfl,k4⟩|⟨k4,k5⟩
         ·rw [hfin k4,Ev,Eu,hWe] at cD
          have hz:¬(0:Int) < ((0:Nat):Int):=by decide
          (try (simp -implicitDefEqProofs only [go_sem,hlt',hz]));repeat' first|(with_reducible first|exact True.intro|refine And.intro ?_ ?_|intro _)|(((with_reducible refine isCall ?_);first|refine AG (c0) rfl ?_ ?_|refine AE (c0) rfl ?_|refine AB (c0) rfl ?_ ?_|refine AF (c0) rfl rfl ?_|refine AG (cD) rfl ?_ ?_|refine AE (cD) rfl ?_|refine AB (cD) rfl ?_ ?_|refine AF (cD) rfl rfl ?_|refine AG (cS) rfl ?_ ?_|refine AE (cS) rfl ?_|refine AB (cS) rfl ?_ ?_|refine AF (cS) rfl rfl ?_)<;>try (simp -implicitDefEqProofs only [go_sem,hlt',hz]))|(((with_reducible refine AM ?_ ?_)<;>intro _)<;>try (simp -implicitDefEqProofs only [go_sem,hlt',hz]))|simp (disch:=omega) only [AC,AH,AK,AJ,AD,AL,AI,AA]|((with_reducible refine AU ?_);refine⟨(_,_,_),rfl,?_,?_⟩)
          all_goals first|rfl|omega|(simp;done)|skip
         ·by_cases hz0:lf2=0
          ·subst hz0
           have hz:¬(0:Int) < ((0:Nat):Int):=by decide
           rw [hfin (by omega),Ev,Eu,hWe] at cD
           (try (simp -implicitDefEqProofs only [go_sem,hlt',hz]));repeat' first|(with_reducible first|exact True.intro|refine And.intro ?_ ?_|intro _)|(((with_reducible refine isCall ?_);first|refine AG (c0) rfl ?_ ?_|refine AE (c0) rfl ?_|refine AB (c0) rfl ?_ ?_|refine AF (c0) rfl rfl ?_|refine AG (cD) rfl ?_ ?_|refine AE (cD) rfl ?_|refine AB (cD) rfl ?_ ?_|refine AF (cD) rfl rfl ?_|refine AG (cS) rfl ?_ ?_|refine AE (cS) rfl ?_|refine AB (cS) rfl ?_ ?_|refine AF (cS) rfl rfl ?_)<;>try (simp -implicitDefEqProofs only [go_sem,hlt',hz]))|(((with_reducible refine AM ?_ ?_)<;>intro _)<;>try (simp -implicitDefEqProofs only [go_sem,hlt',hz]))|simp (disch:=omega) only [AC,AH,AK,AJ,AD,AL,AI,AA]|((with_reducible refine AU ?_);refine⟨(_,_,_),rfl,?_,?_⟩)
           all_goals first|rfl|omega|(simp;done)|skip
          ·have hz:(0:Int) < (lf2:Int):=by omega
           have hjR:j2 < R2.length:=by omega
           have hjW:j2 < W.length:=by omega
           have k6:=k5 j2 (Nat.le_refl _)
           by_cases hW0:W[j2]?.getD 0=0
           ·have hv:((0:F).val:Int)=0:=rfl
            have wl:IntKind.i64.wrap ((lf2:Int) - 1)=((lf2 - 1:Nat):Int):=by rw [AC _ (by omega)];omega
            have hset:=LW 1 W R2 j2 (by omega) hjW
            rw [if_pos k6.symm,if_neg (by rw [hW0];decide)] at hset
            have hst:(AY (iv R2)).set j2 (.int .i64 1)=AY (iv (R2.set j2 1)):=by rw [←TR];exact PA ..
            have hR3:(R2.set j2 1).length=l:=by rw [List.length_set];exact k2
            have hgo:Ej W (R2.set j2 1)+(lf2 - 1)≤h:=by omega
            have hgo2:∀k,j2+1≤k→(R2.set j2 1)[k]?.getD 0=W[k]?.getD 0:=fun k hk=>by
             rw [List.getElem?_set_ne (by omega)];exact k5 k (by omega)
            (try (simp -implicitDefEqProofs only [go_sem,hlt',hz,hjR,hjW,hW0,hv,wl,wj,hst]));repeat' first|(with_reducible first|exact True.intro|refine And.intro ?_ ?_|intro _)|(((with_reducible refine AM ?_ ?_)<;>intro _)<;>try (simp -implicitDefEqProofs only [go_sem,hlt',hz,hjR,hjW,hW0,hv,wl,wj,hst]))|simp (disch:=omega) only [AC,AH,AK,AJ,AD,AL,AI,AA]|((with_reducible refine AU ?_);refine⟨(_,_,_),rfl,?_,?_⟩)
            all_goals first|omega|(simp;done)|(simp;omega)|skip
            all_goals first|exact⟨(j2+1,R2.set j2 1,lf2 - 1),rfl,⟨by omega,hR3,.inr ⟨hgo,hgo2⟩⟩,by show l - (j2+1) < l - j2;omega⟩|exact .inr ⟨hgo,hgo2⟩|skip
           ·have hv:¬((W[j2]?.getD 0).val:Int)=0:=fun e=>hW0 (Wq e)
            (try (simp -implicitDefEqProofs only [go_sem,hlt',hz,hjR,hjW,hv,wj]));repeat' first|(with_reducible first|exact True.intro|refine And.intro ?_ ?_|intro _)|(((with_reducible refine AM ?_ ?_)<;>intro _)<;>try (simp -implicitDefEqProofs only [go_sem,hlt',hz,hjR,hjW,hv,wj]))|simp (disch:=omega) only [AC,AH,AK,AJ,AD,AL,AI,AA]|((with_reducible refine AU ?_);refine⟨(_,_,_),rfl,?_,?_⟩)
            all_goals first|omega|(simp;done)|(simp;omega)|skip
            all_goals first|exact⟨k2,.inr ⟨k4,fun k hk=>k5 k (by omega)⟩⟩|exact .inr ⟨k4,fun k hk=>k5 k (by omega)⟩|skip
        ·have hlt':¬(j2:Int) < (l:Int):=by omega
         rw [hfin (by rcases k3 with⟨_,k4⟩|⟨k4,_⟩<;>omega),Ev,Eu,hWe] at cD
         (try (simp -implicitDefEqProofs only [go_sem,hlt']));repeat' first|(with_reducible first|exact True.intro|refine And.intro ?_ ?_|intro _)|(((with_reducible refine isCall ?_);first|refine AG (c0) rfl ?_ ?_|refine AE (c0) rfl ?_|refine AB (c0) rfl ?_ ?_|refine AF (c0) rfl rfl ?_|refine AG (cD) rfl ?_ ?_|refine AE (cD) rfl ?_|refine AB (cD) rfl ?_ ?_|refine AF (cD) rfl rfl ?_|refine AG (cS) rfl ?_ ?_|refine AE (cS) rfl ?_|refine AB (cS) rfl ?_ ?_|refine AF (cS) rfl rfl ?_)<;>try (simp -implicitDefEqProofs only [go_sem,hlt']))|(((with_reducible refine AM ?_ ?_)<;>intro _)<;>try (simp -implicitDefEqProofs only [go_sem,hlt']))|simp (disch:=omega) only [AC,AH,AK,AJ,AD,AL,AI,AA]|((with_reducible refine AU ?_);refine⟨(_,_,_),rfl,?_,?_⟩)
         all_goals first|rfl|omega|(simp;done)|skip
      ·have hlf0:(0:Int) < (lf:Int):=by omega
       have hjR:j < R.length:=by omega
       have hjW:j < W.length:=by omega
       have hRj:=j4 j (Nat.le_refl _)
       by_cases hW0:W[j]?.getD 0=0
       ·have hv:((0:F).val:Int)=0:=rfl
        have hgo:∀k,k < j+1→R[k]?.getD 0=W[k]?.getD 0:=fun k hk=>by
         rcases Nat.lt_succ_iff_lt_or_eq.1 hk with hk|rfl
         ·exact j3 k hk
         ·rw [hRj,hW0]
        have hgo2:∀k,j+1≤k→R[k]?.getD 0=0:=fun k hk=>j4 k (by omega)
        (try (simp -implicitDefEqProofs only [go_sem,hjl',hlf0,hjR,hjW,hW0,hv,wj0]));repeat' first|(with_reducible first|exact True.intro|refine And.intro ?_ ?_|intro _)|(((with_reducible refine AM ?_ ?_)<;>intro _)<;>try (simp -implicitDefEqProofs only [go_sem,hjl',hlf0,hjR,hjW,hW0,hv,wj0]))|simp (disch:=omega) only [AC,AH,AK,AJ,AD,AL,AI,AA]|((with_reducible refine AU ?_);refine⟨(_,_,_),rfl,?_,?_⟩)
        all_goals first|omega|(simp;done)|(simp;omega)|skip
        all_goals first|exact⟨j2,hgo,hgo2,j5⟩|exact⟨hgo,hgo2,j5⟩|exact hgo|exact hgo2|exact hgo _ (by assumption)|exact hgo2 _ (by assumption)|skip
       ·have hv:¬((W[j]?.getD 0).val:Int)=0:=fun e=>hW0 (Wq e)
        have wl:IntKind.i64.wrap ((lf:Int) - 1)=((lf - 1:Nat):Int):=by rw [AC _ (by omega)];omega
        have hset:=LW (W[j]?.getD 0) W R j (by omega) hjW
        rw [if_neg (by rw [hRj];exact hW0),if_pos rfl] at hset
        have hR3:(R.set j (W[j]?.getD 0)).length=l:=by rw [List.length_set];exact j2
        have hgo:∀k,k < j+1→(R.set j (W[j]?.getD 0))[k]?.getD 0=W[k]?.getD 0:=fun k hk=>by
         rcases Nat.lt_succ_iff_lt_or_eq.1 hk with hk|rfl
         ·rw [List.getElem?_set_ne (by omega)];exact j3 k hk
         ·exact UO R k _ hjR
        have hgo2:∀k,j+1≤k→(R.set j (W[j]?.getD 0))[k]?.getD 0=0:=fun k hk=>by
         rw [List.getElem?_set_ne (by omega)];exact j4 k (by omega)
        have hgo3:Ej W (R.set j (W[j]?.getD 0))+e=wt+(lf - 1):=by omega
        (try (simp -implicitDefEqProofs only [go_sem,hjl',hlf0,hjR,hjW,hv,wj0,wl]));repeat' first|(with_reducible first|exact True.intro|refine And.intro ?_ ?_|intro _)|(((with_reducible refine AM ?_ ?_)<;>intro _)<;>try (simp -implicitDefEqProofs only [go_sem,hjl',hlf0,hjR,hjW,hv,wj0,wl]))|simp (disch:=omega) only [AC,AH,AK,AJ,AD,AL,AI,AA]|((with_reducible refine AU ?_);refine⟨(_,_,_),rfl,?_,?_⟩)
        all_goals first|omega|(simp;done)|(simp;omega)|skip
        all_goals first|exact⟨(j+1,R.set j (W[j]?.getD 0),lf - 1),rfl,⟨by omega,hR3,hgo,hgo2,hgo3,by omega⟩,by show l - (j+1) < l - j;omega⟩|exact hgo _ (by assumption)|exact hgo2 _ (by assumption)|skip
     ·have hjl':¬(j:Int) < (l:Int):=by omega
      have hRW:∀k:Nat,R[k]?.getD 0=W[k]?.getD 0:=fun k=>by
       by_cases hk:k < j
       ·exact j3 k hk
       ·rw [List.getElem?_eq_none (by omega),List.getElem?_eq_none (by omega)]
      have hRW2:R=W:=KZ (by omega) fun k _=>hRW k
      have hD0:Ej W R=0:=by rw [hRW2];exact PM W
      have hentry:(lf=0∧2 * Ej W R≤p)∨(Ej W R+lf≤h∧∀k:Nat,0≤k→R[k]?.getD 0=W[k]?.getD 0):=.inr ⟨by omega,fun k _=>hRW k⟩
      (try (simp -implicitDefEqProofs only [go_sem,hjl']));repeat' first|(with_reducible first|exact True.intro|refine And.intro ?_ ?_|intro _)|(((with_reducible refine AM ?_ ?_)<;>intro _)<;>try (simp -implicitDefEqProofs only [go_sem,hjl']))|simp (disch:=omega) only [AC,AH,AK,AJ,AD,AL,AI,AA]|((with_reducible refine AU ?_);refine⟨(_,_,_),rfl,?_,?_⟩)
      all_goals first|omega|(simp;done)|(simp;omega)|skip
      refine AS (α:=Nat×(List F)×Nat) (l0:=?l5) (m0:=?m5) (fun x=>[(12,.d (.int .i64 (x.1:Int))),(10,.d (.int .i64 (x.2.2:Int)))]) (fun x=>[(66,.row 3 1 false (AY (iv x.2.1)))]) (fun x=>x.1≤l∧x.2.1.length=l∧((x.2.2=0∧2 * Ej W x.2.1≤p)∨(Ej W x.2.1+x.2.2≤h∧∀k:Nat,x.1≤k→x.2.1[k]?.getD 0=W[k]?.getD 0))) (fun x=>l - x.1) (0,R,lf) ?h05 ?he5 ?he25 ?hI5 ?step5
      case h05=>(simp -implicitDefEqProofs only [go_sem];rfl)
      case he5=>rfl
      case he25=>rfl
      case' step5=>(rintro⟨j2,R2,lf2⟩ hI3;try dsimp only at hI3)
      case' hI5=>try dsimp only
      ·exact⟨Nat.zero_le _,j2',hentry⟩
      ·obtain⟨k1,k2,k3⟩:=hI3
       change R2.length=l at k2
       have hfin:2 * Ej W R2≤p→Cn l p R2 []=some W:=fun hle=>Nt (by omega) k2 hWl (Ex l) hWc (by rw [Qb hWl k2];simpa using hle)
       have cD:=OK (p:=p) false hc k2
       have cS:=BV false false (iv W) (iv W)
       rw [decide_eq_true rfl] at cS
       have hWe:=Bq (show 0 < W.length by omega)
       by_cases hlt:j2 < l
       ·have hlt':(j2:Int) < (l:Int):=by omega
        have wj:IntKind.i64.wrap ((j2:Int)+1)=((j2+1:Nat):Int):=by rw [AC _ (by omega)];omega
        rcases k3 with⟨rfl,k4⟩|⟨k4,k5⟩
        ·rw [hfin k4,Ev,Eu,hWe] at cD
         have hz:¬(0:Int) < ((0:Nat):Int):=by decide
         (try (simp -implicitDefEqProofs only [go_sem,hlt',hz]));repeat' first|(with_reducible first|exact True.intro|refine And.intro ?_ ?_|intro _)|(((with_reducible refine isCall ?_);first|refine AG (c0) rfl ?_ ?_|refine AE (c0) rfl ?_|refine AB (c0) rfl ?_ ?_|refine AF (c0) rfl rfl ?_|refine AG (cD) rfl ?_ ?_|refine AE (cD) rfl ?_|refine AB (cD) rfl ?_ ?_|refine AF (cD) rfl rfl ?_|refine AG (cS) rfl ?_ ?_|refine AE (cS) rfl ?_|refine AB (cS) rfl ?_ ?_|refine AF (cS) rfl rfl ?_)<;>try (simp -implicitDefEqProofs only [go_sem,hlt',hz]))|(((with_reducible refine AM ?_ ?_)<;>intro _)<;>try (simp -implicitDefEqProofs only [go_sem,hlt',hz]))|simp (disch:=omega) only [AC,AH,AK,AJ,AD,AL,AI,AA]|((with_reducible refine AU ?_);refine⟨(_,_,_),rfl,?_,?_⟩)
         all_goals first|rfl|omega|(simp;done)|skip
        ·by_cases hz0:lf2=0
         ·subst hz0
          have hz:¬(0:Int) < ((0:Nat):Int):=by decide
          rw [hfin (by omega),Ev,Eu,hWe] at cD
          (try (simp -implicitDefEqProofs only [go_sem,hlt',hz]));repeat' first|(with_reducible first|exact True.intro|refine And.intro ?_ ?_|intro _)|(((with_reducible refine isCall ?_);first|refine AG (c0) rfl ?_ ?_|refine AE (c0) rfl ?_|refine AB (c0) rfl ?_ ?_|refine AF (c0) rfl rfl ?_|refine AG (cD) rfl ?_ ?_|refine AE (cD) rfl ?_|refine AB (cD) rfl ?_ ?_|refine AF (cD) rfl rfl ?_|refine AG (cS) rfl ?_ ?_|refine AE (cS) rfl ?_|refine AB (cS) rfl ?_ ?_|refine AF (cS) rfl rfl ?_)<;>try (simp -implicitDefEqProofs only [go_sem,hlt',hz]))|(((with_reducible refine AM ?_ ?_)<;>intro _)<;>try (simp -implicitDefEqProofs only [go_sem,hlt',hz]))|simp (disch:=omega) only [AC,AH,AK,AJ,AD,AL,AI,AA]|((with_reducible refine AU ?_);refine⟨(_,_,_),rfl,?_,?_⟩)
          all_goals first|rfl|omega|(simp;done)|skip
         ·have hz:(0:Int) < (lf2:Int):=by omega
          have hjR:j2 < R2.length:=by omega
          have hjW:j2 < W.length:=by omega
          have k6:=k5 j2 (Nat.le_refl _)
          by_cases hW0:W[j2]?.getD 0=0
          ·have hv:((0:F).val:Int)=0:=rfl
           have wl:IntKind.i64.wrap ((lf2:Int) - 1)=((lf2 - 1:Nat):Int):=by rw [AC _ (by omega)];omega
           have hset:=LW 1 W R2 j2 (by omega) hjW
           rw [if_pos k6.symm,if_neg (by rw [hW0];decide)] at hset
           have hst:(AY (iv R2)).set j2 (.int .i64 1)=AY (iv (R2.set j2 1)):=by rw [←TR];exact PA ..
           have hR3:(R2.set j2 1).length=l:=by rw [List.length_set];exact k2
           have hgo:Ej W (R2.set j2 1)+(lf2 - 1)≤h:=by omega
           have hgo2:∀k,j2+1≤k→(R2.set j2 1)[k]?.getD 0=W[k]?.getD 0:=fun k hk=>by
            rw [List.getElem?_set_ne (by omega)];exact k5 k (by omega)
           (try (simp -implicitDefEqProofs only [go_sem,hlt',hz,hjR,hjW,hW0,hv,wl,wj,hst]));repeat' first|(with_reducible first|exact True.intro|refine And.intro ?_ ?_|intro _)|(((with_reducible refine AM ?_ ?_)<;>intro _)<;>try (simp -implicitDefEqProofs only [go_sem,hlt',hz,hjR,hjW,hW0,hv,wl,wj,hst]))|simp (disch:=omega) only [AC,AH,AK,AJ,AD,AL,AI,AA]|((with_reducible refine AU ?_);refine⟨(_,_,_),rfl,?_,?_⟩)
           all_goals first|omega|(simp;done)|(simp;omega)|skip
           all_goals first|exact⟨(j2+1,R2.set j2 1,lf2 - 1),rfl,⟨by omega,hR3,.inr ⟨hgo,hgo2⟩⟩,by show l - (j2+1) < l - j2;omega⟩|exact .inr ⟨hgo,hgo2⟩|skip
          ·have hv:¬((W[j2]?.getD 0).val:Int)=0:=fun e=>hW0 (Wq e)
           (try (simp -implicitDefEqProofs only [go_sem,hlt',hz,hjR,hjW,hv,wj]));repeat' first|(with_reducible first|exact True.intro|refine And.intro ?_ ?_|intro _)|(((with_reducible refine AM ?_ ?_)<;>intro _)<;>try (simp -implicitDefEqProofs only [go_sem,hlt',hz,hjR,hjW,hv,wj]))|simp (disch:=omega) only [AC,AH,AK,AJ,AD,AL,AI,AA]|((with_reducible refine AU ?_);refine⟨(_,_,_),rfl,?_,?_⟩)
           all_goals first|omega|(simp;done)|(simp;omega)|skip
           all_goals first|exact⟨k2,.inr ⟨k4,fun k hk=>k5 k (by omega)⟩⟩|exact .inr ⟨k4,fun k hk=>k5 k (by omega)⟩|skip
       ·have hlt':¬(j2:Int) < (l:Int):=by omega
        rw [hfin (by rcases k3 with⟨_,k4⟩|⟨k4,_⟩<;>omega),Ev,Eu,hWe] at cD
        (try (simp -implicitDefEqProofs only [go_sem,hlt']));repeat' first|(with_reducible first|exact True.intro|refine And.intro ?_ ?_|intro _)|(((with_reducible refine isCall ?_);first|refine AG (c0) rfl ?_ ?_|refine AE (c0) rfl ?_|refine AB (c0) rfl ?_ ?_|refine AF (c0) rfl rfl ?_|refine AG (cD) rfl ?_ ?_|refine AE (cD) rfl ?_|refine AB (cD) rfl ?_ ?_|refine AF (cD) rfl rfl ?_|refine AG (cS) rfl ?_ ?_|refine AE (cS) rfl ?_|refine AB (cS) rfl ?_ ?_|refine AF (cS) rfl rfl ?_)<;>try (simp -implicitDefEqProofs only [go_sem,hlt']))|(((with_reducible refine AM ?_ ?_)<;>intro _)<;>try (simp -implicitDefEqProofs only [go_sem,hlt']))|simp (disch:=omega) only [AC,AH,AK,AJ,AD,AL,AI,AA]|((with_reducible refine AU ?_);refine⟨(_,_,_),rfl,?_,?_⟩)
        all_goals first|rfl|omega|(simp;done)|skip
  ·rw [decide_eq_false hfo] at cf
   (try (simp -implicitDefEqProofs only [go_sem,hn1,hn2]));repeat' first|(with_reducible first|exact True.intro|refine And.intro ?_ ?_|intro _)|(((with_reducible refine isCall ?_);first|refine AG (c0) rfl ?_ ?_|refine AE (c0) rfl ?_|refine AB (c0) rfl ?_ ?_|refine AF (c0) rfl rfl ?_|refine AG (c1) rfl ?_ ?_|refine AE (c1) rfl ?_|refine AB (c1) rfl ?_ ?_|refine AF (c1) rfl rfl ?_|refine AG (cf) rfl ?_ ?_|refine AE (cf) rfl ?_|refine AB (cf) rfl ?_ ?_|refine AF (cf) rfl rfl ?_)<;>try (simp -implicitDefEqProofs only [go_sem,hn1,hn2]))|(((with_reducible refine AM ?_ ?_)<;>intro _)<;>try (simp -implicitDefEqProofs only [go_sem,hn1,hn2]))|simp (disch:=omega) only [AC,AH,AK,AJ,AD,AL,AI,AA]|((with_reducible refine AU ?_);refine⟨(_,_,_),rfl,?_,?_⟩)
   all_goals first|rfl|(simp;done)|skip
end Go.Pw
