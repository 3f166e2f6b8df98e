/- A part of the proof. -/
import Derived.Test.YtlmkpaimjpdhiaaDoorPgCorrectX
import Derived.Test.YtlmkpaimjpdhiaaDoorCorrectPh2
set_option linter.all false
section
open Go Go.Pw Go.Proofs
namespace Go.Pw
set_option linter.unusedSimpArgs false
set_option linter.unusedVariables false
set_option maxRecDepth 100000
set_option maxHeartbeats 3200000
def Zb (l:List (List F)):List D:=l.map fun r=>.list false (us r)
theorem Zm (l:List (List F)):(Zb l).length=l.length:=by simp [Zb]
theorem XD (l:List (List F)) (r:List F):Zb l++[.list false (us r)]=Zb (l++[r]):=by simp [Zb]
theorem Vo {ls:List (List F)} {i:Nat} {A:D→Prop}:Ag (Zb ls)[i]? A=(i < ls.length∧A (.list false (us (ls[i]?.getD [])))):=by
 unfold Zb
 rw [List.getElem?_map]
 by_cases h:i < ls.length
 ·simp [h,Ag]
 ·have:ls[i]?=none:=List.getElem?_eq_none (by omega)
  simp [this,h,Ag]
attribute [go_sem] Zm XD Vo
theorem PJ (m q k j:Nat) (b:List F) (h:j < m):(Bd m q k b).take j++[b[j * q+k]?.getD 0]=(Bd m q k b).take (j+1):=by
 rw [←MD j h,Ak _ 0 j (by rw [Bi];exact h)]
theorem bq {m q k j n:Nat} (hk:k < q) (hn:n=m * q) (h:j < m):k+j * q < n:=by have:=N6 hk h;omega
theorem br {m q k n:Nat} (hn:n=m * q):¬k+m * q < n:=by omega
theorem Mk {m q:Nat} (hm:m≤15) (hq:q≤8):m * q≤120:=Nat.mul_le_mul hm hq
def So (q:Nat) (W:Nat→List F):List (List F):=(List.range q).map W
theorem NE (q:Nat) (W:Nat→List F):(So q W).length=q:=by simp [So]
theorem Pv {q:Nat} {W:Nat→List F} {k:Nat} (h:k < q):(So q W)[k]?.getD []=W k:=by simp [So,h]
theorem RF {q:Nat} {W:Nat→List F} {k:Nat} (h:k < q):(So q W).take k++[W k]=(So q W).take (k+1):=by
 have:=Ak (So q W) [] k (by rw [NE];exact h)
 rwa [Pv h] at this
theorem ZG {m q i k:Nat} {W:Nat→List F} (hi:i < m) (hk:k < q):(FN m q W).take (i * q+k)++[(W k)[i]?.getD 0]=(FN m q W).take (i * q+(k+1)):=by
 have h:=N6 hk hi
 rw [←Nat.add_assoc,←Ak _ 0 (i * q+k) (by rw [E4];exact h),OL _ h,Qp hk,Qo hk]
theorem Wo (b:Bool):(b && decide ((0:Nat)=0))=b:=by simp
theorem ON (b:Bool) {k:Nat} (h:k≠0):(b && decide (k=0))=false:=by simp [h]
def dv (L P Q:Int) (xs:List Int):Int:=if CH L P Q=true then if Au xs (Q * (L - P))=true then 0 else 51 else 50
def bl (L P Q:Int) (xs:List Int):List Int:=if CH L P Q=true then if Au xs (Q * (L - P))=true then iv (S4 L.toNat P.toNat Q.toNat (fs xs)) else [] else []
noncomputable def dz (L P Q:Int) (xs ms:List Int):Int:=if CH L P Q=true then if Au xs (Q * L)=true then if CY ms xs.length=true then oE (Yd L.toNat P.toNat Q.toNat (fs xs) (nt ms)) else 1 else 51 else 50
noncomputable def bt (L P Q:Int) (xs ms:List Int):List Int:=if CH L P Q=true then if Au xs (Q * L)=true then if CY ms xs.length=true then iv (oL (Yd L.toNat P.toNat Q.toNat (fs xs) (nt ms))) else [] else [] else []
theorem NF {L P Q:Int} (h:CH L P Q=true):∃l p q:Nat,L=(l:Int)∧P=(p:Int)∧Q=(q:Int)∧2≤l∧l≤15∧1≤p∧p≤8∧p < l∧1≤q∧q≤8∧BE (l:Int) (p:Int)=true:=by
 obtain⟨hc,h1,h2⟩:=Iv h
 obtain⟨l,p,rfl,rfl,b1,b2,b3,b4,b5⟩:=Dg hc
 exact⟨l,p,Q.toNat,rfl,rfl,by omega,b1,b2,b3,b4,b5,by omega,by omega,hc⟩
theorem NO {n m q:Nat} (h:(n:Int)=(q:Int) * (m:Int)):n=m * q:=by
 rw [Nat.mul_comm];exact_mod_cast h
theorem Rx (q k i:Nat) (ms:List Nat) (h:i < ms.length):L0 q k (ms.take (i+1))=if (ms[i]?.getD 0) % q=k then L0 q k (ms.take i)++[(ms[i]?.getD 0) / q] else L0 q k (ms.take i):=by
 rw [←Ak ms 0 i h,X9]
attribute [local congr] Cf BG BH A0 Cg A5 A7 A6 Az Ar Am Ai A2 An A3 BP BT BR BS BQ BU BM Ap A4 Aq BK Bk Ao BN BO BL BI BJ
attribute [local irreducible] IntKind.wrap A_ Option.getD and or
theorem Hk (L P q m k:Nat) (n:Bool) (b:List F) (hm:m≤15) (hm1:1≤m) (hq:q≤8) (hk:k < q) (hb:b.length=m * q) :
  B5 E0 Fj [.agg [.int .i64 (L:Int),.int .i64 (P:Int),.int .i64 (q:Int)],.list n (AY (iv b)),.int .i64 (k:Int)] (.list false (us (Bd m q k b))):=by
 have hmq:=Mk hm hq
 have hpl:=Bi m q k b
 refine AQ H' Af (by simp) fun hwf=>?_
 rw [AR];unfold FB
 (try (simp -implicitDefEqProofs only [go_sem]));repeat' first|(with_reducible first|exact True.intro|refine And.intro ?_ ?_|intro _)|(((with_reducible refine AM ?_ ?_)<;>intro _)<;>try (simp -implicitDefEqProofs only [go_sem]))|simp (disch:=omega) only [AC,AH,AK,AJ,AD,AL,AI,AA]|((with_reducible refine AU ?_);refine⟨(_,_,_),rfl,?_,?_⟩)
 all_goals first|omega|(simp;done)|(simp;omega)|skip
 refine AS (α:=Nat×Nat×Bool) (l0:=?l1) (m0:=?m1) (fun x=>[(8,.d (.int .i64 (x.2.1:Int)))]) (fun x=>[(25,.row 89 1 x.2.2 (us ((Bd m q k b).take x.1)))]) (fun x=>x.1≤m∧x.2.1=k+x.1 * q∧x.2.2=decide (x.1=0)) (fun x=>m - x.1) (0,k,true) ?h01 ?he1 ?he21 ?hI1 ?step1
 case h01=>(simp -implicitDefEqProofs only [go_sem];rfl)
 case he1=>rfl
 case he21=>rfl
 case' step1=>(rintro⟨j,s,e⟩ hI;try dsimp only at hI)
 case' hI1=>try dsimp only
 ·exact⟨Nat.zero_le _,by simp,rfl⟩
 ·obtain⟨h1,hs,h2⟩:=hI
  change e=decide (j=0) at h2
  subst h2
  have hjq:=Nat.mul_le_mul_right q h1
  by_cases h:j < m
  ·have h0:=bq hk hb h
   rw [←hs] at h0
   have h':(s:Int) < (b.length:Int):=by omega
   have hs2:s+q=k+(j+1) * q:=by rw [Nat.add_mul,Nat.one_mul];omega
   have hwj:IntKind.i64.wrap ((s:Int)+(q:Int))=((s+q:Nat):Int):=by rw [AC _ (by omega)];omega
   have hst:=PJ m q k j b h
   rw [Nat.add_comm (j * q) k,←hs] at hst
   (try (simp -implicitDefEqProofs only [go_sem,h0,h',hwj,hst,UX]));repeat' first|(with_reducible first|exact True.intro|refine And.intro ?_ ?_|intro _)|(((with_reducible refine AM ?_ ?_)<;>intro _)<;>try (simp -implicitDefEqProofs only [go_sem,h0,h',hwj,hst,UX]))|simp (disch:=omega) only [AC,AH,AK,AJ,AD,AL,AI,AA]|((with_reducible refine AU ?_);refine⟨(_,_,_),rfl,?_,?_⟩)
   all_goals first|omega|(simp;done)|(simp;omega)|skip
   all_goals first|exact⟨hs2,rfl⟩|exact hs2|rfl|skip
  ·have hje:j=m:=by omega
   subst hje
   have h0:=br (k:=k) hb
   have h':¬(s:Int) < (b.length:Int):=by omega
   have htk:(Bd j q k b).take j=Bd j q k b:=List.take_of_length_le (by omega)
   have hj0:decide (j=0)=false:=decide_eq_false (by omega)
   rw [htk,hj0]
   (try (simp -implicitDefEqProofs only [go_sem,h']));repeat' first|(with_reducible first|exact True.intro|refine And.intro ?_ ?_|intro _)|(((with_reducible refine AM ?_ ?_)<;>intro _)<;>try (simp -implicitDefEqProofs only [go_sem,h']))|simp (disch:=omega) only [AC,AH,AK,AJ,AD,AL,AI,AA]|((with_reducible refine AU ?_);refine⟨(_,_,_),rfl,?_,?_⟩)
   all_goals first|omega|(simp;done)|(simp;omega)|skip
   all_goals first|rfl|skip
theorem Hl (x:D) (q m:Nat) (W:Nat→List F) (hm:m≤15) (hm1:1≤m) (hq:q≤8) (hq1:1≤q) (hW:∀k,k < q→(W k).length=m) (hx:∃a b c,x=.agg [.int .i64 a,.int .i64 b,.int .i64 c]) :
  B5 E0 Fk [x,.list false (Zb (So q W))] (.list false (AY (iv (FN m q W)))):=by
 obtain⟨a,b,c,rfl⟩:=hx
 have hmq:=Mk hm hq
 have hbl:=E4 m q W
 have hwl:=NE q W
 have h0:0 < (So q W).length:=by omega
 have hw0:(So q W)[0]?.getD []=W 0:=Pv (by omega)
 have hl0:=hW 0 (by omega)
 refine AQ IA Af (by simp) fun hwf=>?_
 rw [AR];unfold FC
 (try (simp -implicitDefEqProofs only [go_sem,h0,hw0,hl0]));repeat' first|(with_reducible first|exact True.intro|refine And.intro ?_ ?_|intro _)|(((with_reducible refine AM ?_ ?_)<;>intro _)<;>try (simp -implicitDefEqProofs only [go_sem,h0,hw0,hl0]))|simp (disch:=omega) only [AC,AH,AK,AJ,AD,AL,AI,AA]|((with_reducible refine AU ?_);refine⟨(_,_,_),rfl,?_,?_⟩)
 all_goals first|omega|(simp;done)|(simp;omega)|skip
 refine AS (α:=Nat×Nat×Bool) (l0:=?l2) (m0:=?m2) (fun x=>[(13,.d (.int .i64 (x.1:Int)))]) (fun x=>[(29,.row 3 1 x.2.2 (AY (iv ((FN m q W).take x.2.1))))]) (fun x=>x.1≤m∧x.2.1=x.1 * q∧x.2.2=decide (x.1=0)) (fun x=>m - x.1) (0,0,true) ?h02 ?he2 ?he22 ?hI2 ?step2
 case h02=>(simp -implicitDefEqProofs only [go_sem];rfl)
 case he2=>rfl
 case he22=>rfl
 case' step2=>(rintro⟨i,n,e⟩ hI;try dsimp only at hI)
 case' hI2=>try dsimp only
 ·exact⟨Nat.zero_le _,by simp,rfl⟩
 ·obtain⟨i1,hn,i2⟩:=hI
  change e=decide (i=0) at i2
  subst i2
  have hiq:=Nat.mul_le_mul_right q i1
  by_cases h:i < m
  ·have h':(i:Int) < (m:Int):=by omega
   have hwi:IntKind.i64.wrap ((i:Int)+1)=((i+1:Nat):Int):=by rw [AC _ (by omega)];omega
   have hbs:=fun k hk=>@ZG m q i k W h hk
   have hend:i * q+q=(i+1) * q:=by rw [Nat.add_mul];omega
   (try (simp -implicitDefEqProofs only [go_sem,h',hwl]));repeat' first|(with_reducible first|exact True.intro|refine And.intro ?_ ?_|intro _)|(((with_reducible refine AM ?_ ?_)<;>intro _)<;>try (simp -implicitDefEqProofs only [go_sem,h',hwl]))|simp (disch:=omega) only [AC,AH,AK,AJ,AD,AL,AI,AA]|((with_reducible refine AU ?_);refine⟨(_,_,_),rfl,?_,?_⟩)
   all_goals first|omega|(simp;done)|(simp;omega)|skip
   refine AS (α:=Nat×Nat×Bool) (l0:=?l3) (m0:=?m3) (fun x=>[(18,.d (.int .i64 (x.1:Int)))]) (fun x=>[(29,.row 3 1 x.2.2 (AY (iv ((FN m q W).take x.2.1))))]) (fun x=>x.1≤q∧x.2.1=i * q+x.1∧x.2.2=(decide (i=0) && decide (x.1=0))) (fun x=>q - x.1) (0,n,(decide (i=0))) ?h03 ?he3 ?he23 ?hI3 ?step3
   case h03=>(simp -implicitDefEqProofs only [go_sem];rfl)
   case he3=>rfl
   case he23=>rfl
   case' step3=>(rintro⟨k,n2,e2⟩ hI2;try dsimp only at hI2)
   case' hI3=>try dsimp only
   ·exact⟨Nat.zero_le _,hn,(Wo _).symm⟩
   ·obtain⟨k1,hn2,k2⟩:=hI2
    change e2=(decide (i=0) && decide (k=0)) at k2
    by_cases hk:k < q
    ·have hk':(k:Int) < (q:Int):=by omega
     have hwk:IntKind.i64.wrap ((k:Int)+1)=((k+1:Nat):Int):=by rw [AC _ (by omega)];omega
     have hg:=Pv (W:=W) hk
     have hkl:=hW k hk
     have hst:=hbs k hk
     have hn3:n2+1=i * q+(k+1):=by omega
     rw [←hn2,←hn3] at hst
     have hfe:false=(decide (i=0) && decide (k+1=0)):=(ON _ (by omega)).symm
     have hnl:n2≤120:=by have:=N6 hk h;omega
     (try (simp -implicitDefEqProofs only [go_sem,hk',hwk,hwl,hk,hg,hkl,hst,h,Py]));repeat' first|(with_reducible first|exact True.intro|refine And.intro ?_ ?_|intro _)|(((with_reducible refine AM ?_ ?_)<;>intro _)<;>try (simp -implicitDefEqProofs only [go_sem,hk',hwk,hwl,hk,hg,hkl,hst,h,Py]))|simp (disch:=omega) only [AC,AH,AK,AJ,AD,AL,AI,AA]|((with_reducible refine AU ?_);refine⟨(_,_,_),rfl,?_,?_⟩)
     all_goals first|omega|(simp;done)|(simp;omega)|skip
     all_goals first|exact⟨hn3,hfe⟩|exact hn3|exact hfe|rfl|(simp;done)|skip
    ·have hk':¬(k:Int) < (q:Int):=by omega
     have hke:k=q:=by omega
     have hn3:n2=(i+1) * q:=by omega
     have hfe:e2=decide (i+1=0):=by rw [k2,ON _ (by omega),decide_eq_false (by omega)]
     (try (simp -implicitDefEqProofs only [go_sem,hk',hwl,hwi]));repeat' first|(with_reducible first|exact True.intro|refine And.intro ?_ ?_|intro _)|(((with_reducible refine AM ?_ ?_)<;>intro _)<;>try (simp -implicitDefEqProofs only [go_sem,hk',hwl,hwi]))|simp (disch:=omega) only [AC,AH,AK,AJ,AD,AL,AI,AA]|((with_reducible refine AU ?_);refine⟨(_,_,_),rfl,?_,?_⟩)
     all_goals first|omega|(simp;done)|(simp;omega)|skip
     all_goals first|exact⟨hn3,hfe⟩|exact hn3|exact hfe|rfl|(simp;done)|skip
  ·have h':¬(i:Int) < (m:Int):=by omega
   have hie:i=m:=by omega
   subst hie
   have htk:(FN i q W).take n=FN i q W:=List.take_of_length_le (by omega)
   have hi0:decide (i=0)=false:=decide_eq_false (by omega)
   rw [htk,hi0]
   (try (simp -implicitDefEqProofs only [go_sem,h']));repeat' first|(with_reducible first|exact True.intro|refine And.intro ?_ ?_|intro _)|(((with_reducible refine AM ?_ ?_)<;>intro _)<;>try (simp -implicitDefEqProofs only [go_sem,h']))|simp (disch:=omega) only [AC,AH,AK,AJ,AD,AL,AI,AA]|((with_reducible refine AU ?_);refine⟨(_,_,_),rfl,?_,?_⟩)
   all_goals first|omega|(simp;done)|(simp;omega)|skip
   all_goals first|rfl|skip
theorem GU (L P Q:Int) (n:Bool) (xs:List Int):B5 E0 FO [.agg [.int .i64 L,.int .i64 P,.int .i64 Q],.list n (AY xs)] (.tup [.list (bl L P Q xs).isEmpty (AY (bl L P Q xs)),.int .i64 (dv L P Q xs)]):=by
 refine AQ Kt Af (by simp) fun hwf=>?_
 rw [AR];unfold Gx bl dv
 cases hw:CH L P Q with
 |false =>
  have c1:=DH L P Q n xs CW (if BE L P=true then L - P else 0) Pk (by
   split
   ·rename_i hc;have:=C0 hc;omega
   ·omega) fun hc=>by rw [if_pos hc];have:=C0 hc;exact FM L P (by omega)
  unfold bm at c1
  rw [hw] at c1
  simp only [Bool.false_eq_true,if_false] at c1 ⊢
  rw [Nq] at c1
  (try (simp -implicitDefEqProofs only [go_sem]));repeat' first|(with_reducible first|exact True.intro|refine And.intro ?_ ?_|intro _)|(((with_reducible refine isCall ?_);first|refine AG (c1) rfl ?_ ?_|refine AE (c1) rfl ?_|refine AB (c1) rfl ?_ ?_|refine AF (c1) rfl rfl ?_)<;>try (simp -implicitDefEqProofs only [go_sem]))|(((with_reducible refine AM ?_ ?_)<;>intro _)<;>try (simp -implicitDefEqProofs only [go_sem]))|simp (disch:=omega) only [AC,AH,AK,AJ,AD,AL,AI,AA]|((with_reducible refine Aa ?_);refine⟨(_,_),rfl,?_,?_⟩)
  all_goals first|rfl|(simp;done)|skip
 |true =>
  obtain⟨l,p,q,rfl,rfl,rfl,b1,b2,b3,b4,b5,b6,b7,hc⟩:=NF hw
  have c1:=DH l p q n xs CW ((l:Int) - (p:Int)) Pk (by omega) fun hc=>FM l p (by omega)
  unfold bm at c1
  rw [hw] at c1
  simp only [if_true] at c1 ⊢
  cases hs:Au xs ((q:Int) * ((l:Int) - (p:Int))) with
  |false =>
   rw [hs] at c1
   simp only [Bool.false_eq_true,if_false] at c1 ⊢
   rw [TL] at c1
   (try (simp -implicitDefEqProofs only [go_sem]));repeat' first|(with_reducible first|exact True.intro|refine And.intro ?_ ?_|intro _)|(((with_reducible refine isCall ?_);first|refine AG (c1) rfl ?_ ?_|refine AE (c1) rfl ?_|refine AB (c1) rfl ?_ ?_|refine AF (c1) rfl rfl ?_)<;>try (simp -implicitDefEqProofs only [go_sem]))|(((with_reducible refine AM ?_ ?_)<;>intro _)<;>try (simp -implicitDefEqProofs only [go_sem]))|simp (disch:=omega) only [AC,AH,AK,AJ,AD,AL,AI,AA]|((with_reducible refine Aa ?_);refine⟨(_,_),rfl,?_,?_⟩)
   all_goals first|rfl|(simp;done)|skip
  |true =>
   rw [hs] at c1
   simp only [if_true] at c1 ⊢
   rw [Uo] at c1
   obtain⟨hl,hf⟩:=C_ hs
   obtain⟨d,hd⟩:∃d,fs xs=d:=⟨_,rfl⟩
   rw [hd] at hf ⊢
   subst hf
   rw [DF,show ((l:Int) - (p:Int))=((l - p:Nat):Int) by omega] at hl
   have hdl:=NO hl
   simp only [Int.toNat_natCast]
   have c2:=fun k hk=>Hk l p q (l - p) k n d (by omega) (by omega) b7 hk hdl
   have hW0:S4 l p q d=FN l q fun k=>CS p (Bd (l - p) q k d):=rfl
   have c3:=fun k=>GT l p false (Bd (l - p) q k d) b2 b3 (by rw [Bi];omega) (by rw [Bi];omega) rfl
   have hWl:∀k,k < q→(CS p (Bd (l - p) q k d)).length=l:=fun k _=>by rw [CD,Bi];omega
   obtain⟨W,hW⟩:∃W:Nat→List F,(fun k=>CS p (Bd (l - p) q k d))=W:=⟨_,rfl⟩
   have hWk:∀k,CS p (Bd (l - p) q k d)=W k:=fun k=>by rw [←hW]
   simp only [hWk] at c3 hWl
   rw [hW] at hW0
   rw [hW0]
   have c4:=Hl (.agg [.int .i64 (l:Int),.int .i64 (p:Int),.int .i64 (q:Int)]) q l W b2 (by omega) b7 b6 hWl ⟨_,_,_,rfl⟩
   have hB:0 < (FN l q W).length:=by rw [E4];exact Nat.mul_pos (by omega) (by omega)
   rw [Bq hB]
   have hst:=fun k hk=>@RF q W k hk
   have hwl:=NE q W
   (try (simp -implicitDefEqProofs only [go_sem]));repeat' first|(with_reducible first|exact True.intro|refine And.intro ?_ ?_|intro _)|(((with_reducible refine isCall ?_);first|refine AG (c1) rfl ?_ ?_|refine AE (c1) rfl ?_|refine AB (c1) rfl ?_ ?_|refine AF (c1) rfl rfl ?_)<;>try (simp -implicitDefEqProofs only [go_sem]))|(((with_reducible refine AM ?_ ?_)<;>intro _)<;>try (simp -implicitDefEqProofs only [go_sem]))|simp (disch:=omega) only [AC,AH,AK,AJ,AD,AL,AI,AA]|((with_reducible refine Aa ?_);refine⟨(_,_),rfl,?_,?_⟩)
   all_goals first|omega|(simp;done)|(simp;omega)|skip
   refine AS (α:=Nat×Bool) (l0:=?l4) (m0:=?m4) (fun x=>[(21,.d (.int .i64 (x.1:Int)))]) (fun x=>[(33,.row 67 1 x.2 (Zb ((So q W).take x.1)))]) (fun x=>x.1≤q∧x.2=decide (x.1=0)) (fun x=>q - x.1) (0,true) ?h04 ?he4 ?he24 ?hI4 ?step4
   case h04=>(simp -implicitDefEqProofs only [go_sem];rfl)
   case he4=>rfl
   case he24=>rfl
   case' step4=>(rintro⟨k,e⟩ hI;try dsimp only at hI)
   case' hI4=>try dsimp only
   ·exact⟨Nat.zero_le _,rfl⟩
   ·obtain⟨k1,k2⟩:=hI
    change e=decide (k=0) at k2
    subst k2
    by_cases hk:k < q
    ·have hk':(k:Int) < (q:Int):=by omega
     have hwk:IntKind.i64.wrap ((k:Int)+1)=((k+1:Nat):Int):=by rw [AC _ (by omega)];omega
     have c5:=c2 k hk
     have c6:=c3 k
     have hst2:=hst k hk
     rw [Aj] at c6
     (try (simp -implicitDefEqProofs only [go_sem,hk',hwk,hst2]));repeat' first|(with_reducible first|exact True.intro|refine And.intro ?_ ?_|intro _)|(((with_reducible refine isCall ?_);first|refine AG (c5) rfl ?_ ?_|refine AE (c5) rfl ?_|refine AB (c5) rfl ?_ ?_|refine AF (c5) rfl rfl ?_|refine AG (c6) rfl ?_ ?_|refine AE (c6) rfl ?_|refine AB (c6) rfl ?_ ?_|refine AF (c6) rfl rfl ?_)<;>try (simp -implicitDefEqProofs only [go_sem,hk',hwk,hst2]))|(((with_reducible refine AM ?_ ?_)<;>intro _)<;>try (simp -implicitDefEqProofs only [go_sem,hk',hwk,hst2]))|simp (disch:=omega) only [AC,AH,AK,AJ,AD,AL,AI,AA]|((with_reducible refine Aa ?_);refine⟨(_,_),rfl,?_,?_⟩)
     all_goals first|omega|(simp;done)|(simp;omega)|skip
     all_goals first|rfl|skip
    ·have hk':¬(k:Int) < (q:Int):=by omega
     have hke:k=q:=by omega
     have hk0:decide (k=0)=false:=decide_eq_false (by omega)
     have htk:(So q W).take k=So q W:=List.take_of_length_le (by omega)
     rw [hk0,htk]
     (try (simp -implicitDefEqProofs only [go_sem,hk']));repeat' first|(with_reducible first|exact True.intro|refine And.intro ?_ ?_|intro _)|(((with_reducible refine isCall ?_);first|refine AG (c4) rfl ?_ ?_|refine AE (c4) rfl ?_|refine AB (c4) rfl ?_ ?_|refine AF (c4) rfl rfl ?_)<;>try (simp -implicitDefEqProofs only [go_sem,hk']))|(((with_reducible refine AM ?_ ?_)<;>intro _)<;>try (simp -implicitDefEqProofs only [go_sem,hk']))|simp (disch:=omega) only [AC,AH,AK,AJ,AD,AL,AI,AA]|((with_reducible refine Aa ?_);refine⟨(_,_),rfl,?_,?_⟩)
     all_goals first|rfl|omega|(simp;done)|skip
end Go.Pw
end
section
open Go Go.Pw Go.Proofs
namespace Go.Pw
set_option linter.unusedSimpArgs false
set_option linter.unusedVariables false
set_option maxRecDepth 100000
set_option maxHeartbeats 3200000
def FE (m q:Nat) (W:Nat→List F) (k j:Nat):List F:=(List.range (m * q)).map fun i=>if i % q < k∨(i % q=k∧i / q < j) then (W (i % q))[i / q]?.getD 0 else 0
theorem PW (m q:Nat) (W:Nat→List F) (k j:Nat):(FE m q W k j).length=m * q:=by simp [FE]
theorem U4 (m q:Nat) (W:Nat→List F):FE m q W 0 0=List.replicate (m * q) 0:=by
 apply List.ext_getElem
 ·simp [FE]
 ·intro i h1 h2;simp [FE]
theorem PV {m q k j:Nat} {W:Nat→List F} (hk:k < q) (hj:j < m):(FE m q W k j).set (j * q+k) ((W k)[j]?.getD 0)=FE m q W k (j+1):=by
 apply List.ext_getElem
 ·simp [FE]
 ·intro i h1 h2
  rw [List.getElem_set]
  simp only [FE,List.getElem_map,List.getElem_range]
  by_cases hij:j * q+k=i
  ·subst hij
   rw [if_pos rfl,Qp hk,Qo hk,if_pos (.inr ⟨rfl,by omega⟩)]
  ·rw [if_neg hij]
   have he:=Pa q i
   by_cases hc:i % q < k∨(i % q=k∧i / q < j)
   ·rw [if_pos hc,if_pos (by omega)]
   ·rw [if_neg hc,if_neg fun h=>?_]
    rcases h with h|⟨h3,h4⟩
    ·exact hc (.inl h)
    ·have h5:i / q=j:=by
      rcases Nat.lt_or_ge (i / q) j with h6|h6
      ·exact absurd (.inr ⟨h3,h6⟩) hc
      ·omega
     rw [h5,h3] at he
     exact hij he
theorem N0 {m q k:Nat} (W:Nat→List F) (hq:0 < q):FE m q W k m=FE m q W (k+1) 0:=by
 unfold FE
 apply List.map_congr_left
 intro i hi
 have h1:i / q < m:=Nat.div_lt_of_lt_mul (by rw [Nat.mul_comm];simpa using hi)
 by_cases hc:i % q < k∨(i % q=k∧i / q < m)
 ·rw [if_pos hc,if_pos (.inl (by rcases hc with h|⟨h,_⟩<;>omega))]
 ·rw [if_neg hc,if_neg fun h=>?_]
  rcases h with h|⟨_,h⟩
  ·rcases Nat.lt_succ_iff_lt_or_eq.1 h with h2|h2
   ·exact hc (.inl h2)
   ·exact hc (.inr ⟨h2,h1⟩)
  ·exact absurd h (Nat.not_lt_zero _)
theorem PX {m q:Nat} (W:Nat→List F) (hq:0 < q):FE m q W q 0=FN m q W:=by
 unfold FE FN
 apply List.map_congr_left
 intro i hi
 rw [if_pos (.inl (Nat.mod_lt _ hq))]
attribute [local congr] Cf BG BH A0 Cg A5 A7 A6 Az Ar Am Ai A2 An A3 BP BT BR BS BQ BU BM Ap A4 Aq BK Bk Ao BN BO BL BI BJ
attribute [local irreducible] IntKind.wrap A_ Option.getD and or
theorem I5 (q m k:Nat) (n:Bool) (b:List F) (hm:m≤15) (hm1:1≤m) (hq:q≤8) (hk:k < q) (hb:b.length=m * q) :
  B5 E0 Lu [.list n (AY (iv b)),.int .i64 (q:Int),.int .i64 (k:Int)] (.list false (AY (iv (Bd m q k b)))):=by
 have hmq:=Mk hm hq
 have hpl:=Bi m q k b
 refine AQ N8 Af (by simp) fun hwf=>?_
 rw [AR];unfold KH
 (try (simp -implicitDefEqProofs only [go_sem]));repeat' first|(with_reducible first|exact True.intro|refine And.intro ?_ ?_|intro _)|(((with_reducible refine AM ?_ ?_)<;>intro _)<;>try (simp -implicitDefEqProofs only [go_sem]))|simp (disch:=omega) only [AC,AH,AK,AJ,AD,AL,AI,AA]|((with_reducible refine AU ?_);refine⟨(_,_,_),rfl,?_,?_⟩)
 all_goals first|omega|(simp;done)|(simp;omega)|skip
 refine AS (α:=Nat×Nat×Bool) (l0:=?l1) (m0:=?m1) (fun x=>[(8,.d (.int .i64 (x.2.1:Int)))]) (fun x=>[(23,.row 3 1 x.2.2 (AY (iv ((Bd m q k b).take x.1))))]) (fun x=>x.1≤m∧x.2.1=k+x.1 * q∧x.2.2=decide (x.1=0)) (fun x=>m - x.1) (0,k,true) ?h01 ?he1 ?he21 ?hI1 ?step1
 case h01=>(simp -implicitDefEqProofs only [go_sem];rfl)
 case he1=>rfl
 case he21=>rfl
 case' step1=>(rintro⟨j,s,e⟩ hI;try dsimp only at hI)
 case' hI1=>try dsimp only
 ·exact⟨Nat.zero_le _,by simp,rfl⟩
 ·obtain⟨h1,hs,h2⟩:=hI
  change e=decide (j=0) at h2
  subst h2
  have hjq:=Nat.mul_le_mul_right q h1
  by_cases h:j < m
  ·have h0:=bq hk hb h
   rw [←hs] at h0
   have h':(s:Int) < (b.length:Int):=by omega
   have hs2:s+q=k+(j+1) * q:=by rw [Nat.add_mul,Nat.one_mul];omega
   have hwj:IntKind.i64.wrap ((s:Int)+(q:Int))=((s+q:Nat):Int):=by rw [AC _ (by omega)];omega
   have hst:=PJ m q k j b h
   rw [Nat.add_comm (j * q) k,←hs] at hst
   (try (simp -implicitDefEqProofs only [go_sem,h0,h',hwj,hst]));repeat' first|(with_reducible first|exact True.intro|refine And.intro ?_ ?_|intro _)|(((with_reducible refine AM ?_ ?_)<;>intro _)<;>try (simp -implicitDefEqProofs only [go_sem,h0,h',hwj,hst]))|simp (disch:=omega) only [AC,AH,AK,AJ,AD,AL,AI,AA]|((with_reducible refine AU ?_);refine⟨(_,_,_),rfl,?_,?_⟩)
   all_goals first|omega|(simp;done)|(simp;omega)|skip
   all_goals first|exact⟨hs2,rfl⟩|exact hs2|rfl|skip
  ·have hje:j=m:=by omega
   subst hje
   have h0:=br (k:=k) hb
   have h':¬(s:Int) < (b.length:Int):=by omega
   have htk:(Bd j q k b).take j=Bd j q k b:=List.take_of_length_le (by omega)
   have hj0:decide (j=0)=false:=decide_eq_false (by omega)
   rw [htk,hj0]
   (try (simp -implicitDefEqProofs only [go_sem,h']));repeat' first|(with_reducible first|exact True.intro|refine And.intro ?_ ?_|intro _)|(((with_reducible refine AM ?_ ?_)<;>intro _)<;>try (simp -implicitDefEqProofs only [go_sem,h']))|simp (disch:=omega) only [AC,AH,AK,AJ,AD,AL,AI,AA]|((with_reducible refine AU ?_);refine⟨(_,_,_),rfl,?_,?_⟩)
   all_goals first|omega|(simp;done)|(simp;omega)|skip
   all_goals first|rfl|skip
theorem Dz (L P Q:Int):B5 E0 Gj [.agg [.int .i64 L,.int .i64 P,.int .i64 Q]] (.int .i64 (if CH L P Q=true then 0 else 50)):=by
 have c1:=DU L P
 have c2:=DA Q 1 8
 refine AQ JT Af (by simp) fun hwf=>?_
 rw [AR];unfold Fu CH
 cases hc:BE L P with
 |false =>
  rw [hc] at c1
  simp only [Bool.false_eq_true,if_false,Bool.false_and] at c1 ⊢
  (try (simp -implicitDefEqProofs only [go_sem]));repeat' first|(with_reducible first|exact True.intro|refine And.intro ?_ ?_|intro _)|(((with_reducible refine isCall ?_);first|refine AG (c1) rfl ?_ ?_|refine AE (c1) rfl ?_|refine AB (c1) rfl ?_ ?_|refine AF (c1) rfl rfl ?_)<;>try (simp -implicitDefEqProofs only [go_sem]))|(((with_reducible refine AM ?_ ?_)<;>intro _)<;>try (simp -implicitDefEqProofs only [go_sem]))|simp (disch:=omega) only [AC,AH,AK,AJ,AD,AL,AI,AA]
  all_goals first|rfl|(simp;done)|skip
 |true =>
  rw [hc] at c1
  simp only [if_true,Bool.true_and] at c1 ⊢
  by_cases h:1≤Q∧Q≤8
  ·rw [decide_eq_true h] at c2 ⊢
   (try (simp -implicitDefEqProofs only [go_sem]));repeat' first|(with_reducible first|exact True.intro|refine And.intro ?_ ?_|intro _)|(((with_reducible refine isCall ?_);first|refine AG (c1) rfl ?_ ?_|refine AE (c1) rfl ?_|refine AB (c1) rfl ?_ ?_|refine AF (c1) rfl rfl ?_|refine AG (c2) rfl ?_ ?_|refine AE (c2) rfl ?_|refine AB (c2) rfl ?_ ?_|refine AF (c2) rfl rfl ?_)<;>try (simp -implicitDefEqProofs only [go_sem]))|(((with_reducible refine AM ?_ ?_)<;>intro _)<;>try (simp -implicitDefEqProofs only [go_sem]))|simp (disch:=omega) only [AC,AH,AK,AJ,AD,AL,AI,AA]
   all_goals first|rfl|(simp;done)|skip
  ·rw [decide_eq_false h] at c2 ⊢
   (try (simp -implicitDefEqProofs only [go_sem]));repeat' first|(with_reducible first|exact True.intro|refine And.intro ?_ ?_|intro _)|(((with_reducible refine isCall ?_);first|refine AG (c1) rfl ?_ ?_|refine AE (c1) rfl ?_|refine AB (c1) rfl ?_ ?_|refine AF (c1) rfl rfl ?_|refine AG (c2) rfl ?_ ?_|refine AE (c2) rfl ?_|refine AB (c2) rfl ?_ ?_|refine AF (c2) rfl rfl ?_)<;>try (simp -implicitDefEqProofs only [go_sem]))|(((with_reducible refine AM ?_ ?_)<;>intro _)<;>try (simp -implicitDefEqProofs only [go_sem]))|simp (disch:=omega) only [AC,AH,AK,AJ,AD,AL,AI,AA]
   all_goals first|rfl|(simp;done)|skip
theorem Mx (L P Q:Int):B5 E0 KT [.agg [.int .i64 L,.int .i64 P,.int .i64 Q]] (.tup [.int .i64 (if CH L P Q=true then Q * (P / 2) else 0),.int .i64 (if CH L P Q=true then Q * P else 0),.int .i64 (if CH L P Q=true then 0 else 50)]):=by
 have c1:=Dz L P Q
 refine AQ M8 Af (by simp) fun hwf=>?_
 rw [AR];unfold JA
 cases hw:CH L P Q with
 |false =>
  rw [hw] at c1
  simp only [Bool.false_eq_true,if_false] at c1 ⊢
  (try (simp -implicitDefEqProofs only [go_sem]));repeat' first|(with_reducible first|exact True.intro|refine And.intro ?_ ?_|intro _)|(((with_reducible refine isCall ?_);first|refine AG (c1) rfl ?_ ?_|refine AE (c1) rfl ?_|refine AB (c1) rfl ?_ ?_|refine AF (c1) rfl rfl ?_)<;>try (simp -implicitDefEqProofs only [go_sem]))|(((with_reducible refine AM ?_ ?_)<;>intro _)<;>try (simp -implicitDefEqProofs only [go_sem]))|simp (disch:=omega) only [AC,AH,AK,AJ,AD,AL,AI,AA]
  all_goals first|rfl|(simp;done)|skip
 |true =>
  obtain⟨hc,hD⟩:=Iv hw
  have hb:=C0 hc
  rw [hw] at c1
  simp only [if_true] at c1 ⊢
  have hd:P.tdiv 2=P / 2:=Int.tdiv_eq_ediv_of_nonneg (by omega)
  have w1:IntKind.i64.wrap (P / 2)=P / 2:=AC _ (by omega)
  have b1:0≤Q * (P / 2)∧Q * (P / 2)≤8 * 8:=⟨Int.mul_nonneg (by omega) (by omega),Int.mul_le_mul hD.2 (by omega) (by omega) (by omega)⟩
  have b2:0≤Q * P∧Q * P≤8 * 8:=⟨Int.mul_nonneg (by omega) (by omega),Int.mul_le_mul hD.2 (by omega) (by omega) (by omega)⟩
  have w2:IntKind.i64.wrap (Q * (P / 2))=Q * (P / 2):=AC _ (by omega)
  have w3:IntKind.i64.wrap (Q * P)=Q * P:=AC _ (by omega)
  (try (simp -implicitDefEqProofs only [go_sem,hd,w1,w2,w3]));repeat' first|(with_reducible first|exact True.intro|refine And.intro ?_ ?_|intro _)|(((with_reducible refine isCall ?_);first|refine AG (c1) rfl ?_ ?_|refine AE (c1) rfl ?_|refine AB (c1) rfl ?_ ?_|refine AF (c1) rfl rfl ?_)<;>try (simp -implicitDefEqProofs only [go_sem,hd,w1,w2,w3]))|(((with_reducible refine AM ?_ ?_)<;>intro _)<;>try (simp -implicitDefEqProofs only [go_sem,hd,w1,w2,w3]))|simp (disch:=omega) only [AC,AH,AK,AJ,AD,AL,AI,AA]
  all_goals first|rfl|(simp;done)|skip
theorem L8 (L P Q:Int) (n:Bool) (xs:List Int):B5 E0 Jc [.agg [.int .i64 L,.int .i64 P,.int .i64 Q],.list n (AY xs)] (.tup [.list (bl L P Q xs).isEmpty (AY (bl L P Q xs)),.int .i64 (dv L P Q xs)]):=by
 have c1:=Dz L P Q
 refine AQ MM Af (by simp) fun hwf=>?_
 rw [AR];unfold IW bl dv
 cases hw:CH L P Q with
 |false =>
  rw [hw] at c1
  simp only [Bool.false_eq_true,if_false] at c1 ⊢
  (try (simp -implicitDefEqProofs only [go_sem]));repeat' first|(with_reducible first|exact True.intro|refine And.intro ?_ ?_|intro _)|(((with_reducible refine isCall ?_);first|refine AG (c1) rfl ?_ ?_|refine AE (c1) rfl ?_|refine AB (c1) rfl ?_ ?_|refine AF (c1) rfl rfl ?_)<;>try (simp -implicitDefEqProofs only [go_sem]))|(((with_reducible refine AM ?_ ?_)<;>intro _)<;>try (simp -implicitDefEqProofs only [go_sem]))|simp (disch:=omega) only [AC,AH,AK,AJ,AD,AL,AI,AA]|((with_reducible refine AW ?_);refine⟨_,rfl,?_,?_⟩)
  all_goals first|rfl|(simp;done)|skip
 |true =>
  rw [hw] at c1
  simp only [if_true] at c1 ⊢
  obtain⟨l,p,q,rfl,rfl,rfl,b1,b2,b3,b4,b5,b6,b7,hc⟩:=NF hw
  have w0:IntKind.i64.wrap ((l:Int) - (p:Int))=(l:Int) - (p:Int):=AC _ (by omega)
  have hmul:(q:Int) * ((l:Int) - (p:Int))=((q * (l - p):Nat):Int):=by rw [show ((l:Int) - (p:Int))=((l - p:Nat):Int) by omega];push_cast;rfl
  have hql:q * l≤8 * 15:=Nat.mul_le_mul b7 b2
  have hqlp:q * (l - p)≤8 * 15:=Nat.mul_le_mul b7 (by omega)
  have w1:IntKind.i64.wrap ((q:Int) * ((l:Int) - (p:Int)))=(q:Int) * ((l:Int) - (p:Int)):=by rw [hmul];exact AC _ (by omega)
  have w2:IntKind.i64.wrap ((q:Int) * (l:Int))=((l * q:Nat):Int):=by rw [show (q:Int) * (l:Int)=((q * l:Nat):Int) by push_cast;rfl,Nat.mul_comm l q];exact AC _ (by omega)
  have c2:=Al n xs ((q:Int) * ((l:Int) - (p:Int)))
  cases hs:Au xs ((q:Int) * ((l:Int) - (p:Int))) with
  |false =>
   rw [hs] at c2
   simp only [Bool.false_eq_true,if_false]
   (try (simp -implicitDefEqProofs only [go_sem,w0,w1]));repeat' first|(with_reducible first|exact True.intro|refine And.intro ?_ ?_|intro _)|(((with_reducible refine isCall ?_);first|refine AG (c1) rfl ?_ ?_|refine AE (c1) rfl ?_|refine AB (c1) rfl ?_ ?_|refine AF (c1) rfl rfl ?_|refine AG (c2) rfl ?_ ?_|refine AE (c2) rfl ?_|refine AB (c2) rfl ?_ ?_|refine AF (c2) rfl rfl ?_)<;>try (simp -implicitDefEqProofs only [go_sem,w0,w1]))|(((with_reducible refine AM ?_ ?_)<;>intro _)<;>try (simp -implicitDefEqProofs only [go_sem,w0,w1]))|simp (disch:=omega) only [AC,AH,AK,AJ,AD,AL,AI,AA]|((with_reducible refine AW ?_);refine⟨_,rfl,?_,?_⟩)
   all_goals first|rfl|(simp;done)|skip
  |true =>
   rw [hs] at c2
   simp only [if_true]
   obtain⟨hl,hf⟩:=C_ hs
   obtain⟨d,hd⟩:∃d,fs xs=d:=⟨_,rfl⟩
   rw [hd] at hf ⊢
   subst hf
   rw [DF,show ((l:Int) - (p:Int))=((l - p:Nat):Int) by omega] at hl
   have hdl:=NO hl
   simp only [Int.toNat_natCast]
   have c3:=fun k hk=>I5 q (l - p) k n d (by omega) (by omega) b7 hk hdl
   have hW0:S4 l p q d=FN l q fun k=>CS p (Bd (l - p) q k d):=rfl
   have c4:=fun k=>HT l p false (Bd (l - p) q k d) b2 b3 (by rw [Bi];omega) (by rw [Bi];omega)
   have hWl:∀k,k < q→(CS p (Bd (l - p) q k d)).length=l:=fun k _=>by rw [CD,Bi];omega
   obtain⟨W,hW⟩:∃W:Nat→List F,(fun k=>CS p (Bd (l - p) q k d))=W:=⟨_,rfl⟩
   have hWk:∀k,CS p (Bd (l - p) q k d)=W k:=fun k=>by rw [←hW]
   simp only [hWk] at c4 hWl
   rw [hW] at hW0
   rw [hW0]
   have hlq:l * q≤120:=Mk b2 b7
   have hlq1:0 < l * q:=Nat.mul_pos (by omega) (by omega)
   have hB:0 < (FN l q W).length:=by rw [E4];exact hlq1
   rw [Bq hB]
   obtain⟨N,hN⟩:∃N,l * q=N:=⟨_,rfl⟩
   rw [hN] at w2 hlq hlq1
   have hf0:=U4 l q W
   rw [hN] at hf0
   (try (simp -implicitDefEqProofs only [go_sem,w0,w1,w2,DR]));repeat' first|(with_reducible first|exact True.intro|refine And.intro ?_ ?_|intro _)|(((with_reducible refine isCall ?_);first|refine AG (c1) rfl ?_ ?_|refine AE (c1) rfl ?_|refine AB (c1) rfl ?_ ?_|refine AF (c1) rfl rfl ?_|refine AG (c2) rfl ?_ ?_|refine AE (c2) rfl ?_|refine AB (c2) rfl ?_ ?_|refine AF (c2) rfl rfl ?_)<;>try (simp -implicitDefEqProofs only [go_sem,w0,w1,w2,DR]))|(((with_reducible refine AM ?_ ?_)<;>intro _)<;>try (simp -implicitDefEqProofs only [go_sem,w0,w1,w2,DR]))|simp (disch:=omega) only [AC,AH,AK,AJ,AD,AL,AI,AA]|((with_reducible refine AW ?_);refine⟨_,rfl,?_,?_⟩)
   all_goals first|omega|(simp;done)|(simp;omega)|skip
   rw [←hf0]
   refine AS (α:=Nat) (l0:=?l2) (m0:=?m2) (fun x=>[(7,.d (.int .i64 (x:Int)))]) (fun x=>[(32,.row 3 1 false (AY (iv (FE l q W x 0))))]) (fun x=>x≤q) (fun x=>q - x) 0 ?h02 ?he2 ?he22 ?hI2 ?step2
   case h02=>(simp -implicitDefEqProofs only [go_sem];rfl)
   case he2=>rfl
   case he22=>rfl
   case' step2=>(rintro k hI;try dsimp only at hI)
   case' hI2=>try dsimp only
   ·exact Nat.zero_le _
   ·by_cases hk:k < q
    ·have hk':(k:Int) < (q:Int):=by omega
     have hwk:IntKind.i64.wrap ((k:Int)+1)=((k+1:Nat):Int):=by rw [AC _ (by omega)];omega
     have c5:=c3 k hk
     have c6:=c4 k
     rw [Aj] at c6
     have hkl:=hWl k hk
     have hnx:=N0 (m:=l) (k:=k) W (show 0 < q by omega)
     (try (simp -implicitDefEqProofs only [go_sem,hk',hkl]));repeat' first|(with_reducible first|exact True.intro|refine And.intro ?_ ?_|intro _)|(((with_reducible refine isCall ?_);first|refine AG (c5) rfl ?_ ?_|refine AE (c5) rfl ?_|refine AB (c5) rfl ?_ ?_|refine AF (c5) rfl rfl ?_|refine AG (c6) rfl ?_ ?_|refine AE (c6) rfl ?_|refine AB (c6) rfl ?_ ?_|refine AF (c6) rfl rfl ?_)<;>try (simp -implicitDefEqProofs only [go_sem,hk',hkl]))|(((with_reducible refine AM ?_ ?_)<;>intro _)<;>try (simp -implicitDefEqProofs only [go_sem,hk',hkl]))|simp (disch:=omega) only [AC,AH,AK,AJ,AD,AL,AI,AA]|((with_reducible refine AW ?_);refine⟨_,rfl,?_,?_⟩)
     all_goals first|omega|(simp;done)|(simp;omega)|skip
     refine AS (α:=Nat) (l0:=?l3) (m0:=?m3) (fun x=>[(9,.d (.int .i64 (x:Int)))]) (fun x=>[(32,.row 3 1 false (AY (iv (FE l q W k x))))]) (fun x=>x≤l) (fun x=>l - x) 0 ?h03 ?he3 ?he23 ?hI3 ?step3
     case h03=>(simp -implicitDefEqProofs only [go_sem];rfl)
     case he3=>rfl
     case he23=>rfl
     case' step3=>(rintro j hI2;try dsimp only at hI2)
     case' hI3=>try dsimp only
     ·exact Nat.zero_le _
     ·have hfl:=PW l q W k j
      rw [hN] at hfl
      by_cases hj:j < l
      ·have hj':(j:Int) < (l:Int):=by omega
       have hwj:IntKind.i64.wrap ((j:Int)+1)=((j+1:Nat):Int):=by rw [AC _ (by omega)];omega
       have hlt:=N6 hk hj
       rw [hN] at hlt
       have hst:=PV (W:=W) hk hj
       have hmj:IntKind.i64.wrap ((j:Int) * (q:Int))=((j * q:Nat):Int):=by rw [show (j:Int) * (q:Int)=((j * q:Nat):Int) by push_cast;rfl];exact AC _ (by omega)
       obtain⟨s,hs⟩:∃s,j * q=s:=⟨_,rfl⟩
       rw [hs] at hmj hst hlt
       have hma:IntKind.i64.wrap ((s:Int)+(k:Int))=((s+k:Nat):Int):=by rw [AC _ (by omega)];omega
       have hjl:j < (W k).length:=by omega
       (try (simp -implicitDefEqProofs only [go_sem,hj',hwj,hmj,hma,hlt,hfl,hst,hjl,hkl]));repeat' first|(with_reducible first|exact True.intro|refine And.intro ?_ ?_|intro _)|(((with_reducible refine AM ?_ ?_)<;>intro _)<;>try (simp -implicitDefEqProofs only [go_sem,hj',hwj,hmj,hma,hlt,hfl,hst,hjl,hkl]))|simp (disch:=omega) only [AC,AH,AK,AJ,AD,AL,AI,AA]|((with_reducible refine AW ?_);refine⟨_,rfl,?_,?_⟩)
       all_goals first|omega|(simp;done)|(simp;omega)|skip
       all_goals first|rfl|skip
      ·have hj':¬(j:Int) < (l:Int):=by omega
       have hje:j=l:=by omega
       rw [hje,hnx]
       (try (simp -implicitDefEqProofs only [go_sem,Int.lt_irrefl,hwk,hkl]));repeat' first|(with_reducible first|exact True.intro|refine And.intro ?_ ?_|intro _)|(((with_reducible refine AM ?_ ?_)<;>intro _)<;>try (simp -implicitDefEqProofs only [go_sem,Int.lt_irrefl,hwk,hkl]))|simp (disch:=omega) only [AC,AH,AK,AJ,AD,AL,AI,AA]|((with_reducible refine AW ?_);refine⟨_,rfl,?_,?_⟩)
       all_goals first|omega|(simp;done)|(simp;omega)|skip
       all_goals first|rfl|skip
    ·have hk':¬(k:Int) < (q:Int):=by omega
     have hke:k=q:=by omega
     have hfe:=PX (m:=l) W (show 0 < q by omega)
     rw [hke,hfe]
     (try (simp -implicitDefEqProofs only [go_sem,Int.lt_irrefl]));repeat' first|(with_reducible first|exact True.intro|refine And.intro ?_ ?_|intro _)|(((with_reducible refine AM ?_ ?_)<;>intro _)<;>try (simp -implicitDefEqProofs only [go_sem,Int.lt_irrefl]))|simp (disch:=omega) only [AC,AH,AK,AJ,AD,AL,AI,AA]|((with_reducible refine AW ?_);refine⟨_,rfl,?_,?_⟩)
     all_goals first|rfl|omega|(simp;done)|skip
end Go.Pw
end
