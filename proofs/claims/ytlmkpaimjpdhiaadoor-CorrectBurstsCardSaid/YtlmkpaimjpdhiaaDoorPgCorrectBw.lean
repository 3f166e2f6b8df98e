/- A part of the proof. -/
import Derived.Test.YtlmkpaimjpdhiaaDoorPgCorrectX
import Derived.Test.YtlmkpaimjpdhiaaDoorCorrectPh2
set_option linter.all false
section
open Go Go.Pw Go.Proofs
namespace Go.Pw
set_option linter.unusedSimpArgs false
set_option linter.unusedVariables false
set_option maxRecDepth 100000
set_option maxHeartbeats 3200000
def Zb (l:List (List F)):List D:=l.map fun r=>.list false (us r)
theorem Zm (l:List (List F)):(Zb l).length=l.length:=by simp [Zb]
theorem XD (l:List (List F)) (r:List F):Zb l++[.list false (us r)]=Zb (l++[r]):=by simp [Zb]
theorem Vo {ls:List (List F)} {i:Nat} {A:D→Prop}:Ag (Zb ls)[i]? A=(i < ls.length∧A (.list false (us (ls[i]?.getD [])))):=by
 unfold Zb
 rw [List.getElem?_map]
 by_cases h:i < ls.length
 ·simp [h,Ag]
 ·have:ls[i]?=none:=List.getElem?_eq_none (by omega)
  simp [this,h,Ag]
attribute [go_sem] Zm XD Vo
theorem PJ (m q k j:Nat) (b:List F) (h:j < m):(Bf m q k b).take j++[b[j * q+k]?.getD 0]=(Bf m q k b).take (j+1):=by
 rw [←MD j h,Ak _ 0 j (by rw [Bk];exact h)]
theorem bq {m q k j n:Nat} (hk:k < q) (hn:n=m * q) (h:j < m):k+j * q < n:=by have:=N6 hk h;omega
theorem br {m q k n:Nat} (hn:n=m * q):¬k+m * q < n:=by omega
theorem Mk {m q:Nat} (hm:m≤15) (hq:q≤8):m * q≤120:=Nat.mul_le_mul hm hq
def So (q:Nat) (W:Nat→List F):List (List F):=(List.range q).map W
theorem NE (q:Nat) (W:Nat→List F):(So q W).length=q:=by simp [So]
theorem Pv {q:Nat} {W:Nat→List F} {k:Nat} (h:k < q):(So q W)[k]?.getD []=W k:=by simp [So,h]
theorem RF {q:Nat} {W:Nat→List F} {k:Nat} (h:k < q):(So q W).take k++[W k]=(So q W).take (k+1):=by
 have:=Ak (So q W) [] k (by rw [NE];exact h)
 rwa [Pv h] at this
theorem ZG {m q i k:Nat} {W:Nat→List F} (hi:i < m) (hk:k < q):(FN m q W).take (i * q+k)++[(W k)[i]?.getD 0]=(FN m q W).take (i * q+(k+1)):=by
 have h:=N6 hk hi
 rw [←Nat.add_assoc,←Ak _ 0 (i * q+k) (by rw [E5];exact h),OL _ h,Qp hk,Qo hk]
theorem Wo (b:Bool):(b && decide ((0:Nat)=0))=b:=by simp
theorem ON (b:Bool) {k:Nat} (h:k≠0):(b && decide (k=0))=false:=by simp [h]
def dv (L P Q:Int) (xs:List Int):Int:=if CJ L P Q=true then if Au xs (Q * (L - P))=true then 0 else 51 else 50
def bl (L P Q:Int) (xs:List Int):List Int:=if CJ L P Q=true then if Au xs (Q * (L - P))=true then iv (S4 L.toNat P.toNat Q.toNat (fs xs)) else [] else []
noncomputable def dz (L P Q:Int) (xs ms:List Int):Int:=if CJ L P Q=true then if Au xs (Q * L)=true then if Ca ms xs.length=true then oE (Yd L.toNat P.toNat Q.toNat (fs xs) (nt ms)) else 1 else 51 else 50
noncomputable def bt (L P Q:Int) (xs ms:List Int):List Int:=if CJ L P Q=true then if Au xs (Q * L)=true then if Ca ms xs.length=true then iv (oL (Yd L.toNat P.toNat Q.toNat (fs xs) (nt ms))) else [] else [] else []
theorem NF {L P Q:Int} (h:CJ L P Q=true):∃l p q:Nat,L=(l:Int)∧P=(p:Int)∧Q=(q:Int)∧2≤l∧l≤15∧1≤p∧p≤8∧p < l∧1≤q∧q≤8∧BG (l:Int) (p:Int)=true:=by
 obtain⟨hc,h1,h2⟩:=Iv h
 obtain⟨l,p,rfl,rfl,b1,b2,b3,b4,b5⟩:=Dj hc
 exact⟨l,p,Q.toNat,rfl,rfl,by omega,b1,b2,b3,b4,b5,by omega,by omega,hc⟩
theorem NO {n m q:Nat} (h:(n:Int)=(q:Int) * (m:Int)):n=m * q:=by
 rw [Nat.mul_comm];exact_mod_cast h
theorem Rx (q k i:Nat) (ms:List Nat) (h:i < ms.length):L0 q k (ms.take (i+1))=if (ms[i]?.getD 0) % q=k then L0 q k (ms.take i)++[(ms[i]?.getD 0) / q] else L0 q k (ms.take i):=by
 rw [←Ak ms 0 i h,X9]
attribute [local congr] Ch BI BJ A0 Ci A5 A7 A6 Az Ar Am Ai A2 An A3 BR BV BT BU BS BW BO Ap A4 Aq BM Bm Ao BP BQ BN BK BL
attribute [local irreducible] IntKind.wrap A_ Option.getD and or
theorem Hj (L P q m k:Nat) (n:Bool) (b:List F) (hm:m≤15) (hm1:1≤m) (hq:q≤8) (hk:k < q) (hb:b.length=m * q) :
  B7 E0 Fj [.agg [.int .i64 (L:Int),.int .i64 (P:Int),.int .i64 (q:Int)],.list n (AY (iv b)),.int .i64 (k:Int)] (.list false (us (Bf m q k b))):=by
 have hmq:=Mk hm hq
 have hpl:=Bk m q k b
 refine AQ H_ Af (by simp) fun hwf=>?_
 rw [AR];unfold FC
 (try (simp -implicitDefEqProofs only [go_sem]));repeat' first|(with_reducible first|exact True.intro|refine And.intro ?_ ?_|intro _)|(((with_reducible refine AM ?_ ?_)<;>intro _)<;>try (simp -implicitDefEqProofs only [go_sem]))|simp (disch:=omega) only [AC,AH,AK,AJ,AD,AL,AI,AA]|((with_reducible refine AU ?_);refine⟨(_,_,_),rfl,?_,?_⟩)
 all_goals first|omega|(simp;done)|(simp;omega)|skip
 refine AS (α:=Nat×Nat×Bool) (l0:=?l1) (m0:=?m1) (fun x=>[(8,.d (.int .i64 (x.2.1:Int)))]) (fun x=>[(25,.row 89 1 x.2.2 (us ((Bf m q k b).take x.1)))]) (fun x=>x.1≤m∧x.2.1=k+x.1 * q∧x.2.2=decide (x.1=0)) (fun x=>m - x.1) (0,k,true) ?h01 ?he1 ?he21 ?hI1 ?step1
 case h01=>(simp -implicitDefEqProofs only [go_sem];rfl)
 case he1=>rfl
 case he21=>rfl
 case' step1=>(rintro⟨j,s,e⟩ hI;try dsimp only at hI)
 case' hI1=>try dsimp only
 ·exact⟨Nat.zero_le _,by simp,rfl⟩
 ·obtain⟨h1,hs,h2⟩:=hI
  change e=decide (j=0) at h2
  subst h2
  have hjq:=Nat.mul_le_mul_right q h1
  by_cases h:j < m
  ·have h0:=bq hk hb h
   rw [←hs] at h0
   have h':(s:Int) < (b.length:Int):=by omega
   have hs2:s+q=k+(j+1) * q:=by rw [Nat.add_mul,Nat.one_mul];omega
   have hwj:IntKind.i64.wrap ((s:Int)+(q:Int))=((s+q:Nat):Int):=by rw [AC _ (by omega)];omega
   have hst:=PJ m q k j b h
   rw [Nat.add_comm (j * q) k,←hs] at hst
   (try (simp -implicitDefEqProofs only [go_sem,h0,h',hwj,hst,UX]));repeat' first|(with_reducible first|exact True.intro|refine And.intro ?_ ?_|intro _)|(((with_reducible refine AM ?_ ?_)<;>intro _)<;>try (simp -implicitDefEqProofs only [go_sem,h0,h',hwj,hst,UX]))|simp (disch:=omega) only [AC,AH,AK,AJ,AD,AL,AI,AA]|((with_reducible refine AU ?_);refine⟨(_,_,_),rfl,?_,?_⟩)
   all_goals first|omega|(simp;done)|(simp;omega)|skip
   all_goals first|exact⟨hs2,rfl⟩|exact hs2|rfl|skip
  ·have hje:j=m:=by omega
   subst hje
   have h0:=br (k:=k) hb
   have h':¬(s:Int) < (b.length:Int):=by omega
   have htk:(Bf j q k b).take j=Bf j q k b:=List.take_of_length_le (by omega)
   have hj0:decide (j=0)=false:=decide_eq_false (by omega)
   rw [htk,hj0]
   (try (simp -implicitDefEqProofs only [go_sem,h']));repeat' first|(with_reducible first|exact True.intro|refine And.intro ?_ ?_|intro _)|(((with_reducible refine AM ?_ ?_)<;>intro _)<;>try (simp -implicitDefEqProofs only [go_sem,h']))|simp (disch:=omega) only [AC,AH,AK,AJ,AD,AL,AI,AA]|((with_reducible refine AU ?_);refine⟨(_,_,_),rfl,?_,?_⟩)
   all_goals first|omega|(simp;done)|(simp;omega)|skip
   all_goals first|rfl|skip
theorem Hk (x:D) (q m:Nat) (W:Nat→List F) (hm:m≤15) (hm1:1≤m) (hq:q≤8) (hq1:1≤q) (hW:∀k,k < q→(W k).length=m) (hx:∃a b c,x=.agg [.int .i64 a,.int .i64 b,.int .i64 c]) :
  B7 E0 Fk [x,.list false (Zb (So q W))] (.list false (AY (iv (FN m q W)))):=by
 obtain⟨a,b,c,rfl⟩:=hx
 have hmq:=Mk hm hq
 have hbl:=E5 m q W
 have hwl:=NE q W
 have h0:0 < (So q W).length:=by omega
 have hw0:(So q W)[0]?.getD []=W 0:=Pv (by omega)
 have hl0:=hW 0 (by omega)
 refine AQ H' Af (by simp) fun hwf=>?_
 rw [AR];unfold FD
 (try (simp -implicitDefEqProofs only [go_sem,h0,hw0,hl0]));repeat' first|(with_reducible first|exact True.intro|refine And.intro ?_ ?_|intro _)|(((with_reducible refine AM ?_ ?_)<;>intro _)<;>try (simp -implicitDefEqProofs only [go_sem,h0,hw0,hl0]))|simp (disch:=omega) only [AC,AH,AK,AJ,AD,AL,AI,AA]|((with_reducible refine AU ?_);refine⟨(_,_,_),rfl,?_,?_⟩)
 all_goals first|omega|(simp;done)|(simp;omega)|skip
 refine AS (α:=Nat×Nat×Bool) (l0:=?l2) (m0:=?m2) (fun x=>[(13,.d (.int .i64 (x.1:Int)))]) (fun x=>[(29,.row 3 1 x.2.2 (AY (iv ((FN m q W).take x.2.1))))]) (fun x=>x.1≤m∧x.2.1=x.1 * q∧x.2.2=decide (x.1=0)) (fun x=>m - x.1) (0,0,true) ?h02 ?he2 ?he22 ?hI2 ?step2
 case h02=>(simp -implicitDefEqProofs only [go_sem];rfl)
 case he2=>rfl
 case he22=>rfl
 case' step2=>(rintro⟨i,n,e⟩ hI;try dsimp only at hI)
 case' hI2=>try dsimp only
 ·exact⟨Nat.zero_le _,by simp,rfl⟩
 ·obtain⟨i1,hn,i2⟩:=hI
  change e=decide (i=0) at i2
  subst i2
  have hiq:=Nat.mul_le_mul_right q i1
  by_cases h:i < m
  ·have h':(i:Int) < (m:Int):=by omega
   have hwi:IntKind.i64.wrap ((i:Int)+1)=((i+1:Nat):Int):=by rw [AC _ (by omega)];omega
   have hbs:=fun k hk=>@ZG m q i k W h hk
   have hend:i * q+q=(i+1) * q:=by rw [Nat.add_mul];omega
   (try (simp -implicitDefEqProofs only [go_sem,h',hwl]));repeat' first|(with_reducible first|exact True.intro|refine And.intro ?_ ?_|intro _)|(((with_reducible refine AM ?_ ?_)<;>intro _)<;>try (simp -implicitDefEqProofs only [go_sem,h',hwl]))|simp (disch:=omega) only [AC,AH,AK,AJ,AD,AL,AI,AA]|((with_reducible refine AU ?_);refine⟨(_,_,_),rfl,?_,?_⟩)
   all_goals first|omega|(simp;done)|(simp;omega)|skip
   refine AS (α:=Nat×Nat×Bool) (l0:=?l3) (m0:=?m3) (fun x=>[(18,.d (.int .i64 (x.1:Int)))]) (fun x=>[(29,.row 3 1 x.2.2 (AY (iv ((FN m q W).take x.2.1))))]) (fun x=>x.1≤q∧x.2.1=i * q+x.1∧x.2.2=(decide (i=0) && decide (x.1=0))) (fun x=>q - x.1) (0,n,(decide (i=0))) ?h03 ?he3 ?he23 ?hI3 ?step3
   case h03=>(simp -implicitDefEqProofs only [go_sem];rfl)
   case he3=>rfl
   case he23=>rfl
   case' step3=>(rintro⟨k,n2,e2⟩ hI2;try dsimp only at hI2)
   case' hI3=>try dsimp only
   ·exact⟨Nat.zero_le _,hn,(Wo _).symm⟩
   ·obtain⟨k1,hn2,k2⟩:=hI2
    change e2=(decide (i=0) && decide (k=0)) at k2
    by_cases hk:k < q
    ·have hk':(k:Int) < (q:Int):=by omega
     have hwk:IntKind.i64.wrap ((k:Int)+1)=((k+1:Nat):Int):=by rw [AC _ (by omega)];omega
     have hg:=Pv (W:=W) hk
     have hkl:=hW k hk
     have hst:=hbs k hk
     have hn3:n2+1=i * q+(k+1):=by omega
     rw [←hn2,←hn3] at hst
     have hfe:false=(decide (i=0) && decide (k+1=0)):=(ON _ (by omega)).symm
     have hnl:n2≤120:=by have:=N6 hk h;omega
     (try (simp -implicitDefEqProofs only [go_sem,hk',hwk,hwl,hk,hg,hkl,hst,h,Py]));repeat' first|(with_reducible first|exact True.intro|refine And.intro ?_ ?_|intro _)|(((with_reducible refine AM ?_ ?_)<;>intro _)<;>try (simp -implicitDefEqProofs only [go_sem,hk',hwk,hwl,hk,hg,hkl,hst,h,Py]))|simp (disch:=omega) only [AC,AH,AK,AJ,AD,AL,AI,AA]|((with_reducible refine AU ?_);refine⟨(_,_,_),rfl,?_,?_⟩)
     all_goals first|omega|(simp;done)|(simp;omega)|skip
     all_goals first|exact⟨hn3,hfe⟩|exact hn3|exact hfe|rfl|(simp;done)|skip
    ·have hk':¬(k:Int) < (q:Int):=by omega
     have hke:k=q:=by omega
     have hn3:n2=(i+1) * q:=by omega
     have hfe:e2=decide (i+1=0):=by rw [k2,ON _ (by omega),decide_eq_false (by omega)]
     (try (simp -implicitDefEqProofs only [go_sem,hk',hwl,hwi]));repeat' first|(with_reducible first|exact True.intro|refine And.intro ?_ ?_|intro _)|(((with_reducible refine AM ?_ ?_)<;>intro _)<;>try (simp -implicitDefEqProofs only [go_sem,hk',hwl,hwi]))|simp (disch:=omega) only [AC,AH,AK,AJ,AD,AL,AI,AA]|((with_reducible refine AU ?_);refine⟨(_,_,_),rfl,?_,?_⟩)
     all_goals first|omega|(simp;done)|(simp;omega)|skip
     all_goals first|exact⟨hn3,hfe⟩|exact hn3|exact hfe|rfl|(simp;done)|skip
  ·have h':¬(i:Int) < (m:Int):=by omega
   have hie:i=m:=by omega
   subst hie
   have htk:(FN i q W).take n=FN i q W:=List.take_of_length_le (by omega)
   have hi0:decide (i=0)=false:=decide_eq_false (by omega)
   rw [htk,hi0]
   (try (simp -implicitDefEqProofs only [go_sem,h']));repeat' first|(with_reducible first|exact True.intro|refine And.intro ?_ ?_|intro _)|(((with_reducible refine AM ?_ ?_)<;>intro _)<;>try (simp -implicitDefEqProofs only [go_sem,h']))|simp (disch:=omega) only [AC,AH,AK,AJ,AD,AL,AI,AA]|((with_reducible refine AU ?_);refine⟨(_,_,_),rfl,?_,?_⟩)
   all_goals first|omega|(simp;done)|(simp;omega)|skip
   all_goals first|rfl|skip
theorem GU (L P Q:Int) (n:Bool) (xs:List Int):B7 E0 FO [.agg [.int .i64 L,.int .i64 P,.int .i64 Q],.list n (AY xs)] (.tup [.list (bl L P Q xs).isEmpty (AY (bl L P Q xs)),.int .i64 (dv L P Q xs)]):=by
 refine AQ Kt Af (by simp) fun hwf=>?_
 rw [AR];unfold Gx bl dv
 cases hw:CJ L P Q with
 |false =>
  have c1:=DK L P Q n xs CY (if BG L P=true then L - P else 0) Pk (by
   split
   ·rename_i hc;have:=C3 hc;omega
   ·omega) fun hc=>by rw [if_pos hc];have:=C3 hc;exact FM L P (by omega)
  unfold bm at c1
  rw [hw] at c1
  simp only [Bool.false_eq_true,if_false] at c1 ⊢
  rw [Nq] at c1
  (try (simp -implicitDefEqProofs only [go_sem]));repeat' first|(with_reducible first|exact True.intro|refine And.intro ?_ ?_|intro _)|(((with_reducible refine isCall ?_);first|refine AG (c1) rfl ?_ ?_|refine AE (c1) rfl ?_|refine AB (c1) rfl ?_ ?_|refine AF (c1) rfl rfl ?_)<;>try (simp -implicitDefEqProofs only [go_sem]))|(((with_reducible refine AM ?_ ?_)<;>intro _)<;>try (simp -implicitDefEqProofs only [go_sem]))|simp (disch:=omega) only [AC,AH,AK,AJ,AD,AL,AI,AA]|((with_reducible refine Aa ?_);refine⟨(_,_),rfl,?_,?_⟩)
  all_goals first|rfl|(simp;done)|skip
 |true =>
  obtain⟨l,p,q,rfl,rfl,rfl,b1,b2,b3,b4,b5,b6,b7,hc⟩:=NF hw
  have c1:=DK l p q n xs CY ((l:Int) - (p:Int)) Pk (by omega) fun hc=>FM l p (by omega)
  unfold bm at c1
  rw [hw] at c1
  simp only [if_true] at c1 ⊢
  cases hs:Au xs ((q:Int) * ((l:Int) - (p:Int))) with
  |false =>
   rw [hs] at c1
   simp only [Bool.false_eq_true,if_false] at c1 ⊢
   rw [TL] at c1
   (try (simp -implicitDefEqProofs only [go_sem]));repeat' first|(with_reducible first|exact True.intro|refine And.intro ?_ ?_|intro _)|(((with_reducible refine isCall ?_);first|refine AG (c1) rfl ?_ ?_|refine AE (c1) rfl ?_|refine AB (c1) rfl ?_ ?_|refine AF (c1) rfl rfl ?_)<;>try (simp -implicitDefEqProofs only [go_sem]))|(((with_reducible refine AM ?_ ?_)<;>intro _)<;>try (simp -implicitDefEqProofs only [go_sem]))|simp (disch:=omega) only [AC,AH,AK,AJ,AD,AL,AI,AA]|((with_reducible refine Aa ?_);refine⟨(_,_),rfl,?_,?_⟩)
   all_goals first|rfl|(simp;done)|skip
  |true =>
   rw [hs] at c1
   simp only [if_true] at c1 ⊢
   rw [Uo] at c1
   obtain⟨hl,hf⟩:=DC hs
   obtain⟨d,hd⟩:∃d,fs xs=d:=⟨_,rfl⟩
   rw [hd] at hf ⊢
   subst hf
   rw [DI,show ((l:Int) - (p:Int))=((l - p:Nat):Int) by omega] at hl
   have hdl:=NO hl
   simp only [Int.toNat_natCast]
   have c2:=fun k hk=>Hj l p q (l - p) k n d (by omega) (by omega) b7 hk hdl
   have hW0:S4 l p q d=FN l q fun k=>CU p (Bf (l - p) q k d):=rfl
   have c3:=fun k=>GT l p false (Bf (l - p) q k d) b2 b3 (by rw [Bk];omega) (by rw [Bk];omega) rfl
   have hWl:∀k,k < q→(CU p (Bf (l - p) q k d)).length=l:=fun k _=>by rw [CF,Bk];omega
   obtain⟨W,hW⟩:∃W:Nat→List F,(fun k=>CU p (Bf (l - p) q k d))=W:=⟨_,rfl⟩
   have hWk:∀k,CU p (Bf (l - p) q k d)=W k:=fun k=>by rw [←hW]
   simp only [hWk] at c3 hWl
   rw [hW] at hW0
   rw [hW0]
   have c4:=Hk (.agg [.int .i64 (l:Int),.int .i64 (p:Int),.int .i64 (q:Int)]) q l W b2 (by omega) b7 b6 hWl ⟨_,_,_,rfl⟩
   have hB:0 < (FN l q W).length:=by rw [E5];exact Nat.mul_pos (by omega) (by omega)
   rw [Bs hB]
   have hst:=fun k hk=>@RF q W k hk
   have hwl:=NE q W
   (try (simp -implicitDefEqProofs only [go_sem]));repeat' first|(with_reducible first|exact True.intro|refine And.intro ?_ ?_|intro _)|(((with_reducible refine isCall ?_);first|refine AG (c1) rfl ?_ ?_|refine AE (c1) rfl ?_|refine AB (c1) rfl ?_ ?_|refine AF (c1) rfl rfl ?_)<;>try (simp -implicitDefEqProofs only [go_sem]))|(((with_reducible refine AM ?_ ?_)<;>intro _)<;>try (simp -implicitDefEqProofs only [go_sem]))|simp (disch:=omega) only [AC,AH,AK,AJ,AD,AL,AI,AA]|((with_reducible refine Aa ?_);refine⟨(_,_),rfl,?_,?_⟩)
   all_goals first|omega|(simp;done)|(simp;omega)|skip
   refine AS (α:=Nat×Bool) (l0:=?l4) (m0:=?m4) (fun x=>[(21,.d (.int .i64 (x.1:Int)))]) (fun x=>[(33,.row 67 1 x.2 (Zb ((So q W).take x.1)))]) (fun x=>x.1≤q∧x.2=decide (x.1=0)) (fun x=>q - x.1) (0,true) ?h04 ?he4 ?he24 ?hI4 ?step4
   case h04=>(simp -implicitDefEqProofs only [go_sem];rfl)
   case he4=>rfl
   case he24=>rfl
   case' step4=>(rintro⟨k,e⟩ hI;try dsimp only at hI)
   case' hI4=>try dsimp only
   ·exact⟨Nat.zero_le _,rfl⟩
   ·obtain⟨k1,k2⟩:=hI
    change e=decide (k=0) at k2
    subst k2
    by_cases hk:k < q
    ·have hk':(k:Int) < (q:Int):=by omega
     have hwk:IntKind.i64.wrap ((k:Int)+1)=((k+1:Nat):Int):=by rw [AC _ (by omega)];omega
     have c5:=c2 k hk
     have c6:=c3 k
     have hst2:=hst k hk
     rw [Aj] at c6
     (try (simp -implicitDefEqProofs only [go_sem,hk',hwk,hst2]));repeat' first|(with_reducible first|exact True.intro|refine And.intro ?_ ?_|intro _)|(((with_reducible refine isCall ?_);first|refine AG (c5) rfl ?_ ?_|refine AE (c5) rfl ?_|refine AB (c5) rfl ?_ ?_|refine AF (c5) rfl rfl ?_|refine AG (c6) rfl ?_ ?_|refine AE (c6) rfl ?_|refine AB (c6) rfl ?_ ?_|refine AF (c6) rfl rfl ?_)<;>try (simp -implicitDefEqProofs only [go_sem,hk',hwk,hst2]))|(((with_reducible refine AM ?_ ?_)<;>intro _)<;>try (simp -implicitDefEqProofs only [go_sem,hk',hwk,hst2]))|simp (disch:=omega) only [AC,AH,AK,AJ,AD,AL,AI,AA]|((with_reducible refine Aa ?_);refine⟨(_,_),rfl,?_,?_⟩)
     all_goals first|omega|(simp;done)|(simp;omega)|skip
     all_goals first|rfl|skip
    ·have hk':¬(k:Int) < (q:Int):=by omega
     have hke:k=q:=by omega
     have hk0:decide (k=0)=false:=decide_eq_false (by omega)
     have htk:(So q W).take k=So q W:=List.take_of_length_le (by omega)
     rw [hk0,htk]
     (try (simp -implicitDefEqProofs only [go_sem,hk']));repeat' first|(with_reducible first|exact True.intro|refine And.intro ?_ ?_|intro _)|(((with_reducible refine isCall ?_);first|refine AG (c4) rfl ?_ ?_|refine AE (c4) rfl ?_|refine AB (c4) rfl ?_ ?_|refine AF (c4) rfl rfl ?_)<;>try (simp -implicitDefEqProofs only [go_sem,hk']))|(((with_reducible refine AM ?_ ?_)<;>intro _)<;>try (simp -implicitDefEqProofs only [go_sem,hk']))|simp (disch:=omega) only [AC,AH,AK,AJ,AD,AL,AI,AA]|((with_reducible refine Aa ?_);refine⟨(_,_),rfl,?_,?_⟩)
     all_goals first|rfl|omega|(simp;done)|skip
end Go.Pw
end
section
open Go Go.Pw Go.Proofs
namespace Go.Pw
set_option linter.unusedSimpArgs false
set_option linter.unusedVariables false
set_option maxRecDepth 100000
set_option maxHeartbeats 3200000
theorem Rd {α:Type} (l:List α) (x:α):false=(l++[x]).isEmpty:=by cases l<;>rfl
attribute [local congr] Ch BI BJ A0 Ci A5 A7 A6 Az Ar Am Ai A2 An A3 BR BV BT BU BS BW BO Ap A4 Aq BM Bm Ao BP BQ BN BK BL
attribute [local irreducible] IntKind.wrap A_ Option.getD and or
theorem GW (L P Q:Int) (n n2:Bool) (xs ms:List Int) (hxl:xs.length≤1000):B7 E0 EC [.agg [.int .i64 L,.int .i64 P,.int .i64 Q],.list n (AY xs),.list n2 (AY ms)] (.tup [.list (bt L P Q xs ms).isEmpty (AY (bt L P Q xs ms)),.int .i64 (dz L P Q xs ms)]):=by
 refine AQ J8 Af (by simp) fun hwf=>?_
 rw [AR];unfold GH bt dz
 cases hw:CJ L P Q with
 |false =>
  have c1:=DK L P Q n xs Cm (if BG L P=true then L else 0) SV (by
   split
   ·rename_i hc;have:=C3 hc;omega
   ·omega) fun hc=>by rw [if_pos hc];exact Ia L P
  unfold bm at c1
  rw [hw] at c1
  simp only [Bool.false_eq_true,if_false] at c1 ⊢
  rw [Nq] at c1
  (try (simp -implicitDefEqProofs only [go_sem]));repeat' first|(with_reducible first|exact True.intro|refine And.intro ?_ ?_|intro _)|(((with_reducible refine isCall ?_);first|refine AG (c1) rfl ?_ ?_|refine AE (c1) rfl ?_|refine AB (c1) rfl ?_ ?_|refine AF (c1) rfl rfl ?_)<;>try (simp -implicitDefEqProofs only [go_sem]))|(((with_reducible refine AM ?_ ?_)<;>intro _)<;>try (simp -implicitDefEqProofs only [go_sem]))|simp (disch:=omega) only [AC,AH,AK,AJ,AD,AL,AI,AA]|((with_reducible refine AU ?_);refine⟨(_,_,_),rfl,?_,?_⟩)|((with_reducible refine Aa ?_);refine⟨(_,_),rfl,?_,?_⟩)
  all_goals first|rfl|(simp;done)|skip
 |true =>
  obtain⟨l,p,q,rfl,rfl,rfl,b1,b2,b3,b4,b5,b6,b7,hc⟩:=NF hw
  have c1:=DK l p q n xs Cm (l:Int) SV (by omega) fun hc=>Ia l p
  unfold bm at c1
  rw [hw] at c1
  simp only [if_true] at c1 ⊢
  cases hs:Au xs ((q:Int) * (l:Int)) with
  |false =>
   rw [hs] at c1
   simp only [Bool.false_eq_true,if_false] at c1 ⊢
   rw [TL] at c1
   (try (simp -implicitDefEqProofs only [go_sem]));repeat' first|(with_reducible first|exact True.intro|refine And.intro ?_ ?_|intro _)|(((with_reducible refine isCall ?_);first|refine AG (c1) rfl ?_ ?_|refine AE (c1) rfl ?_|refine AB (c1) rfl ?_ ?_|refine AF (c1) rfl rfl ?_)<;>try (simp -implicitDefEqProofs only [go_sem]))|(((with_reducible refine AM ?_ ?_)<;>intro _)<;>try (simp -implicitDefEqProofs only [go_sem]))|simp (disch:=omega) only [AC,AH,AK,AJ,AD,AL,AI,AA]|((with_reducible refine AU ?_);refine⟨(_,_,_),rfl,?_,?_⟩)|((with_reducible refine Aa ?_);refine⟨(_,_),rfl,?_,?_⟩)
   all_goals first|rfl|(simp;done)|skip
  |true =>
   rw [hs] at c1
   simp only [if_true] at c1 ⊢
   rw [Uo] at c1
   have cp:=GR n2 ms xs.length
   cases hm:Ca ms xs.length with
   |false =>
    rw [hm] at cp
    simp only [Bool.false_eq_true,if_false]
    (try (simp -implicitDefEqProofs only [go_sem]));repeat' first|(with_reducible first|exact True.intro|refine And.intro ?_ ?_|intro _)|(((with_reducible refine isCall ?_);first|refine AG (c1) rfl ?_ ?_|refine AE (c1) rfl ?_|refine AB (c1) rfl ?_ ?_|refine AF (c1) rfl rfl ?_|refine AG (cp) rfl ?_ ?_|refine AE (cp) rfl ?_|refine AB (cp) rfl ?_ ?_|refine AF (cp) rfl rfl ?_)<;>try (simp -implicitDefEqProofs only [go_sem]))|(((with_reducible refine AM ?_ ?_)<;>intro _)<;>try (simp -implicitDefEqProofs only [go_sem]))|simp (disch:=omega) only [AC,AH,AK,AJ,AD,AL,AI,AA]|((with_reducible refine AU ?_);refine⟨(_,_,_),rfl,?_,?_⟩)|((with_reducible refine Aa ?_);refine⟨(_,_),rfl,?_,?_⟩)
    all_goals first|rfl|(simp;done)|skip
   |true =>
    rw [hm] at cp
    simp only [if_true]
    obtain⟨hl,hf⟩:=DC hs
    obtain⟨d,hd⟩:∃d,fs xs=d:=⟨_,rfl⟩
    rw [hd] at hf ⊢
    subst hf
    have hmk:=TW hm
    have hmf:=X5 hm
    obtain⟨mk,hMK⟩:∃mk,nt ms=mk:=⟨_,rfl⟩
    rw [hMK] at hmk hmf ⊢
    subst hmf
    rw [DI] at hl hmk hxl cp
    have hdl:=NO hl
    rw [hdl] at hmk
    have hmq:=Mk b2 b7
    have hml:=Nv hmk
    simp only [Int.toNat_natCast]
    have c2:=fun k hk=>Hj l p q l k n d (by omega) (by omega) b7 hk hdl
    have hpm:=fun k=>@NN l q k (by omega) mk hmk
    have c3:=fun k b=>EX l p false b (Bf l q k d) (L0 q k mk) b2 (by omega) b3 (by omega) (Bk ..) (hpm k) (by have:=Nv (hpm k);omega) rfl
    have hO:∀k,Cq l p (Bf l q k d) (L0 q k mk)=Tv l p q d mk k:=fun k=>rfl
    simp only [hO] at c3
    have c4:=FM l p (by omega)
    have w1:(l:Int) - (p:Int)=((l - p:Nat):Int):=by omega
    rw [w1] at c4
    have hst:=fun k hk=>@RF q (WB l p q d mk) k hk
    have hwl:=NE q (WB l p q d mk)
    (try (simp -implicitDefEqProofs only [go_sem]));repeat' first|(with_reducible first|exact True.intro|refine And.intro ?_ ?_|intro _)|(((with_reducible refine isCall ?_);first|refine AG (c1) rfl ?_ ?_|refine AE (c1) rfl ?_|refine AB (c1) rfl ?_ ?_|refine AF (c1) rfl rfl ?_|refine AG (cp) rfl ?_ ?_|refine AE (cp) rfl ?_|refine AB (cp) rfl ?_ ?_|refine AF (cp) rfl rfl ?_)<;>try (simp -implicitDefEqProofs only [go_sem]))|(((with_reducible refine AM ?_ ?_)<;>intro _)<;>try (simp -implicitDefEqProofs only [go_sem]))|simp (disch:=omega) only [AC,AH,AK,AJ,AD,AL,AI,AA]|((with_reducible refine AU ?_);refine⟨(_,_,_),rfl,?_,?_⟩)|((with_reducible refine Aa ?_);refine⟨(_,_),rfl,?_,?_⟩)
    all_goals first|omega|(simp;done)|(simp;omega)|skip
    refine AS (α:=Nat×Bool) (l0:=?l1) (m0:=?m1) (fun x=>[(33,.d (.int .i64 (x.1:Int)))]) (fun x=>[(76,.row 67 1 x.2 (Zb ((So q (WB l p q d mk)).take x.1)))]) (fun x=>x.1≤q∧x.2=decide (x.1=0)∧∀i,i < x.1→(Tv l p q d mk i).isSome=true) (fun x=>q - x.1) (0,true) ?h01 ?he1 ?he21 ?hI1 ?step1
    case h01=>(simp -implicitDefEqProofs only [go_sem];rfl)
    case he1=>rfl
    case he21=>rfl
    case' step1=>(rintro⟨k,e⟩ hI;try dsimp only at hI)
    case' hI1=>try dsimp only
    ·exact⟨Nat.zero_le _,rfl,fun i hi=>absurd hi (by omega)⟩
    ·obtain⟨k1,k2,k3⟩:=hI
     change e=decide (k=0) at k2
     subst k2
     by_cases hk:k < q
     ·have hk':(k:Int) < (q:Int):=by omega
      have hwk:IntKind.i64.wrap ((k:Int)+1)=((k+1:Nat):Int):=by rw [AC _ (by omega)];omega
      have hq0:¬(q:Int)=0:=by omega
      (try (simp -implicitDefEqProofs only [go_sem,hk']));repeat' first|(with_reducible first|exact True.intro|refine And.intro ?_ ?_|intro _)|(((with_reducible refine AM ?_ ?_)<;>intro _)<;>try (simp -implicitDefEqProofs only [go_sem,hk']))|simp (disch:=omega) only [AC,AH,AK,AJ,AD,AL,AI,AA]|((with_reducible refine AU ?_);refine⟨(_,_,_),rfl,?_,?_⟩)|((with_reducible refine Aa ?_);refine⟨(_,_),rfl,?_,?_⟩)
      all_goals first|omega|(simp;done)|(simp;omega)|skip
      refine AS (α:=Nat×Bool×(List Nat)) (l0:=?l2) (m0:=?m2) (fun x=>[(38,.d (.int .i64 (x.1:Int)))]) (fun x=>[(54,.row 3 1 x.2.1 (AY (ni x.2.2)))]) (fun x=>x.1≤mk.length∧x.2.1=x.2.2.isEmpty∧x.2.2=L0 q k (mk.take x.1)) (fun x=>mk.length - x.1) (0,true,[]) ?h02 ?he2 ?he22 ?hI2 ?step2
      case h02=>(simp -implicitDefEqProofs only [go_sem];rfl)
      case he2=>rfl
      case he22=>rfl
      case' step2=>(rintro⟨i,e,mm⟩ hI2;try dsimp only at hI2)
      case' hI2=>try dsimp only
      ·exact⟨Nat.zero_le _,rfl,rfl⟩
      ·obtain⟨i1,i2,i3⟩:=hI2
       change e=mm.isEmpty at i2
       have hmml:mm.length≤1000:=by
        have h1:mm.length≤(mk.take i).length:=by
         rw [i3];unfold L0;rw [List.length_map];exact List.length_filter_le ..
        rw [List.length_take] at h1;omega
       by_cases hi:i < mk.length
       ·have hi':(i:Int) < (mk.length:Int):=by omega
        have hwi:IntKind.i64.wrap ((i:Int)+1)=((i+1:Nat):Int):=by rw [AC _ (by omega)];omega
        have hx:=Rx q k i mk hi
        have hxl2:=hmk.lt (mk[i]?.getD 0) (get_mem hi)
        obtain⟨x,hxx⟩:∃x,mk[i]?.getD 0=x:=⟨_,rfl⟩
        rw [hxx] at hx hxl2
        have t1:Int.tmod (x:Int) (q:Int)=((x % q:Nat):Int):=Iw x q
        have t2:Int.tdiv (x:Int) (q:Int)=((x / q:Nat):Int):=EL x q
        have hdv:=Nat.div_le_self x q
        by_cases hxk:x % q=k
        ·have hxk':((x % q:Nat):Int)=(k:Int):=by omega
         rw [if_pos hxk,←i3] at hx
         have hse:=Rd mm (x / q)
         obtain⟨y,hy⟩:∃y,x / q=y:=⟨_,rfl⟩
         rw [hy] at t2 hx hdv hse
         have w2:IntKind.i64.wrap (y:Int)=(y:Int):=AC _ (by omega)
         (try (simp -implicitDefEqProofs only [go_sem,hi',hi,hwi,hxx,t1,t2,w2,hxk',hq0]));repeat' first|(with_reducible first|exact True.intro|refine And.intro ?_ ?_|intro _)|(((with_reducible refine AM ?_ ?_)<;>intro _)<;>try (simp -implicitDefEqProofs only [go_sem,hi',hi,hwi,hxx,t1,t2,w2,hxk',hq0]))|simp (disch:=omega) only [AC,AH,AK,AJ,AD,AL,AI,AA]|((with_reducible refine AU ?_);refine⟨(_,_,_),rfl,?_,?_⟩)|((with_reducible refine Aa ?_);refine⟨(_,_),rfl,?_,?_⟩)
         all_goals first|omega|(simp;done)|(simp;omega)|skip
         all_goals first|exact⟨hse,hx.symm⟩|exact hx.symm|exact hse|skip
        ·have hxk':¬((x % q:Nat):Int)=(k:Int):=by omega
         rw [if_neg hxk,←i3] at hx
         (try (simp -implicitDefEqProofs only [go_sem,hi',hi,hwi,hxx,t1,t2,hxk',hq0]));repeat' first|(with_reducible first|exact True.intro|refine And.intro ?_ ?_|intro _)|(((with_reducible refine AM ?_ ?_)<;>intro _)<;>try (simp -implicitDefEqProofs only [go_sem,hi',hi,hwi,hxx,t1,t2,hxk',hq0]))|simp (disch:=omega) only [AC,AH,AK,AJ,AD,AL,AI,AA]|((with_reducible refine AU ?_);refine⟨(_,_,_),rfl,?_,?_⟩)|((with_reducible refine Aa ?_);refine⟨(_,_),rfl,?_,?_⟩)
         all_goals first|omega|(simp;done)|(simp;omega)|skip
         all_goals first|exact⟨i2,hx.symm⟩|exact hx.symm|exact i2|skip
       ·have hi':¬(i:Int) < (mk.length:Int):=by omega
        have htk:mk.take i=mk:=List.take_of_length_le (by omega)
        rw [htk] at i3
        subst i3
        have c5:=c2 k hk
        have c6:=c3 k e
        rw [Aj] at c6
        have hsome:=fun r=>@LV l p q d mk k r
        have hno:=@Yc l p q d mk k hk
        have hdec:=fun r h=>@E3 l p (Bf l q k d) r (L0 q k mk) (Bk ..) (hpm k) h
        simp only [hO] at hdec
        have hst2:=hst k hk
        obtain⟨O,hOO⟩:∃O,Tv l p q d mk k=O:=⟨_,rfl⟩
        rw [hOO] at c6 hsome hno hdec
        cases O with
        |none =>
         rw [Jw] at c6
         rw [hno rfl,QQ,QP]
         (try (simp -implicitDefEqProofs only [go_sem,hi']));repeat' first|(with_reducible first|exact True.intro|refine And.intro ?_ ?_|intro _)|(((with_reducible refine isCall ?_);first|refine AG (c5) rfl ?_ ?_|refine AE (c5) rfl ?_|refine AB (c5) rfl ?_ ?_|refine AF (c5) rfl rfl ?_|refine AG (c6) rfl ?_ ?_|refine AE (c6) rfl ?_|refine AB (c6) rfl ?_ ?_|refine AF (c6) rfl rfl ?_)<;>try (simp -implicitDefEqProofs only [go_sem,hi']))|(((with_reducible refine AM ?_ ?_)<;>intro _)<;>try (simp -implicitDefEqProofs only [go_sem,hi']))|simp (disch:=omega) only [AC,AH,AK,AJ,AD,AL,AI,AA]|((with_reducible refine AU ?_);refine⟨(_,_,_),rfl,?_,?_⟩)|((with_reducible refine Aa ?_);refine⟨(_,_),rfl,?_,?_⟩)
         all_goals first|rfl|omega|(simp;done)|skip
        |some r =>
         rw [Jv] at c6
         have hrl:=(hdec r rfl).2.1
         have hWr:=hsome r rfl
         rw [hWr] at hst2
         have hk3:∀i,i < k+1→(Tv l p q d mk i).isSome=true:=fun i hi=>by
          rcases Nat.lt_succ_iff_lt_or_eq.1 hi with hi|rfl
          ·exact k3 i hi
          ·rw [hOO];rfl
         have hle:l - p≤r.length:=by omega
         (try (simp -implicitDefEqProofs only [go_sem,hi',hwk,hst2,hle]));repeat' first|(with_reducible first|exact True.intro|refine And.intro ?_ ?_|intro _)|(((with_reducible refine isCall ?_);first|refine AG (c5) rfl ?_ ?_|refine AE (c5) rfl ?_|refine AB (c5) rfl ?_ ?_|refine AF (c5) rfl rfl ?_|refine AG (c6) rfl ?_ ?_|refine AE (c6) rfl ?_|refine AB (c6) rfl ?_ ?_|refine AF (c6) rfl rfl ?_|refine AG (c4) rfl ?_ ?_|refine AE (c4) rfl ?_|refine AB (c4) rfl ?_ ?_|refine AF (c4) rfl rfl ?_)<;>try (simp -implicitDefEqProofs only [go_sem,hi',hwk,hst2,hle]))|(((with_reducible refine AM ?_ ?_)<;>intro _)<;>try (simp -implicitDefEqProofs only [go_sem,hi',hwk,hst2,hle]))|simp (disch:=omega) only [AC,AH,AK,AJ,AD,AL,AI,AA]|((with_reducible refine AU ?_);refine⟨(_,_,_),rfl,?_,?_⟩)|((with_reducible refine Aa ?_);refine⟨(_,_),rfl,?_,?_⟩)
         all_goals first|omega|(simp;done)|(simp;omega)|skip
         all_goals first|exact hk3|exact hk3 _ (by assumption)|skip
     ·have hk':¬(k:Int) < (q:Int):=by omega
      have hke:k=q:=by omega
      have hk0:decide (k=0)=false:=decide_eq_false (by omega)
      have htk:(So q (WB l p q d mk)).take k=So q (WB l p q d mk):=List.take_of_length_le (by omega)
      have hgs:=@Tu l p q d mk fun i hi=>k3 i (by omega)
      rw [hk0,htk,hgs,Ew,Ev]
      have hWl:∀i,i < q→(WB l p q d mk i).length=l - p:=fun i hi=>by
       have h1:=k3 i (by omega)
       obtain⟨O,hOO⟩:∃O,Tv l p q d mk i=O:=⟨_,rfl⟩
       rw [hOO] at h1
       cases O with
       |none=>cases h1
       |some r =>
        rw [LV hOO,List.length_take,(E3 (Bk ..) (hpm i) hOO).2.1];omega
      have c7:=Hk (.agg [.int .i64 (l:Int),.int .i64 (p:Int),.int .i64 (q:Int)]) q (l - p) (WB l p q d mk) (by omega) (by omega) b7 b6 hWl ⟨_,_,_,rfl⟩
      have hB:0 < (FN (l - p) q (WB l p q d mk)).length:=by rw [E5];exact Nat.mul_pos (by omega) (by omega)
      rw [Bs hB]
      (try (simp -implicitDefEqProofs only [go_sem,hk']));repeat' first|(with_reducible first|exact True.intro|refine And.intro ?_ ?_|intro _)|(((with_reducible refine isCall ?_);first|refine AG (c7) rfl ?_ ?_|refine AE (c7) rfl ?_|refine AB (c7) rfl ?_ ?_|refine AF (c7) rfl rfl ?_)<;>try (simp -implicitDefEqProofs only [go_sem,hk']))|(((with_reducible refine AM ?_ ?_)<;>intro _)<;>try (simp -implicitDefEqProofs only [go_sem,hk']))|simp (disch:=omega) only [AC,AH,AK,AJ,AD,AL,AI,AA]|((with_reducible refine AU ?_);refine⟨(_,_,_),rfl,?_,?_⟩)|((with_reducible refine Aa ?_);refine⟨(_,_),rfl,?_,?_⟩)
      all_goals first|rfl|omega|(simp;done)|skip
end Go.Pw
end
