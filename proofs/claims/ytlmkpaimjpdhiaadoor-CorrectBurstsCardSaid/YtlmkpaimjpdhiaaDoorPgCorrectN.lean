/- A part of the proof. -/
import Derived.Test.YtlmkpaimjpdhiaaDoorPgCorrectL
import Derived.Test.YtlmkpaimjpdhiaaDoorCorrectEnc
import Derived.Test.YtlmkpaimjpdhiaaDoorPgCorrectD
set_option linter.all false
section
open Go Go.Pw Go.Proofs
namespace Go.Pw
set_option linter.unusedSimpArgs false
set_option linter.unusedVariables false
set_option maxRecDepth 100000
set_option maxHeartbeats 3200000
theorem OW (l g:List F) (o k:Nat) (b:F) (h:k < g.length):(CV l o b (g.take k)).set (o+k) (fa ((CV l o b (g.take k))[o+k]?.getD 0) (fm b (g[k]?.getD 0)))=CV l o b (g.take (k+1)):=by
 rw [←Ak g 0 k h,OX]
 rw [show (g.take k).length=k by simp;omega]
theorem Sj (l g:List F) (k:Nat) (b:F) (h:k < g.length):(CV l 1 b (g.take k)).set (k+1) (fa ((CV l 1 b (g.take k))[k+1]?.getD 0) (fm (g[k]?.getD 0) b))=CV l 1 b (g.take (k+1)):=by
 rw [←OW l g 1 k b h,Cn b,Nat.add_comm 1 k]
attribute [local congr] Ch BI BJ A0 Ci A5 A7 A6 Az Ar Am Ai A2 An A3 BR BV BT BU BS BW BO Ap A4 Aq BM Bm Ao BP BQ BN BK BL
attribute [local irreducible] IntKind.wrap A_ Option.getD and or
theorem GT (L P:Nat) (n1:Bool) (d:List F) (hL:L≤15) (hP:1≤P) (hd:d.length+P=L) (hd1:1≤d.length) (hn1:n1=false) :
  B7 E0 FH [MR L P,.list n1 (us d)] (.list false (us (CU P d))):=by
 subst hn1
 have c0:=HP false d (by omega) (by omega) rfl
 refine AQ Hh Af (by simp) fun hwf=>?_
 rw [AR];unfold Et
 rw [Aj]
 (try (simp -implicitDefEqProofs only [go_sem]));repeat' first|(with_reducible first|exact True.intro|refine And.intro ?_ ?_|intro _)|(((with_reducible refine AM ?_ ?_)<;>intro _)<;>try (simp -implicitDefEqProofs only [go_sem]))|simp (disch:=omega) only [AC,AH,AK,AJ,AD,AL,AI,AA]|((with_reducible refine AW ?_);refine⟨_,rfl,?_,?_⟩)
 all_goals first|omega|(simp;done)|(simp;omega)|skip
 rw [show ([D.int .u8 1]:List D)=us (Hf 0) from rfl]
 refine AS (α:=Nat) (l0:=?l1) (m0:=?m1) (fun x=>[(19,.d (.int .i64 (x:Int))),(5,.d (.list false (us (Hf x))))]) (fun x=>[]) (fun x=>x≤P) (fun x=>P - x) 0 ?h01 ?he1 ?he21 ?hI1 ?step1
 case h01=>(simp -implicitDefEqProofs only [go_sem];rfl)
 case he1=>rfl
 case he21=>rfl
 case' step1=>(rintro i hI;try dsimp only at hI)
 case' hI1=>try dsimp only
 ·exact Nat.zero_le _
 ·have hgl:=JR i
  by_cases h:i < P
  ·have h':(i:Int) < (P:Int):=by omega
   have hwi:IntKind.i64.wrap ((i:Int)+1)=((i+1:Nat):Int):=by rw [AC _ (by omega)];omega
   have hG:Hf (i+1)=CV (Hf i++[0]) 1 (gp i) (Hf i):=rfl
   obtain⟨G,hGe⟩:∃G,Hf i=G:=⟨_,rfl⟩
   rw [hGe] at hgl hG ⊢
   have c1:=HP false G (by omega) (by omega) rfl
   have c2:=Du i (by omega)
   (try (simp -implicitDefEqProofs only [go_sem,h',K5]));repeat' first|(with_reducible first|exact True.intro|refine And.intro ?_ ?_|intro _)|(((with_reducible refine isCall ?_);first|(refine E4 ([]) ([((7,1),(23,1))]) (c1) (by repeat' first|exact True.intro|exact rfl|refine And.intro ?_ ?_) (by simp [Handed,DN.get,AX.ren,AV.ren,AV.ren.renL,AN.get,Bg,B3,Dx,AN.reach,AV.sites,AV.sites.sitesL,AN.osites]) (by simp [B9,Ek,CD,DN.get,Dx,D5,B2]) (by rfl) (by simp only [Dv,DN.get,AX.ren,AV.ren,AV.ren.renL,and_self,and_true,true_and,if_true,reduceIte];rfl) ?_))<;>try (simp -implicitDefEqProofs only [go_sem,h',K5]))|(((with_reducible refine AM ?_ ?_)<;>intro _)<;>try (simp -implicitDefEqProofs only [go_sem,h',K5]))|simp (disch:=omega) only [AC,AH,AK,AJ,AD,AL,AI,AA]|((with_reducible refine AW ?_);refine⟨_,rfl,?_,?_⟩)
   all_goals first|omega|(simp;done)|(simp;omega)|skip
   refine AS (α:=Nat) (l0:=?l2) (m0:=?m2) (fun x=>[(28,.d (.int .i64 (x:Int)))]) (fun x=>[(23,.row 89 1 false (us (CV (G++[0]) 1 (gp i) (G.take x))))]) (fun x=>x≤G.length) (fun x=>G.length - x) 0 ?h02 ?he2 ?he22 ?hI2 ?step2
   case h02=>(simp -implicitDefEqProofs only [go_sem];rfl)
   case he2=>rfl
   case he22=>rfl
   case' step2=>(rintro k hI2;try dsimp only at hI2)
   case' hI2=>try dsimp only
   ·exact Nat.zero_le _
   ·have hA:=Ho (G.take k) (G++[0]) 1 (gp i)
    rw [List.length_append,List.length_singleton] at hA
    by_cases hk:k < G.length
    ·have hk':(k:Int) < (G.length:Int):=by omega
     have hwk:IntKind.i64.wrap ((k:Int)+1)=((k+1:Nat):Int):=by rw [AC _ (by omega)];omega
     have c3:=C1 (G[k]?.getD 0) (gp i)
     have hst:=Sj (G++[0]) G k (gp i) hk
     (try (simp -implicitDefEqProofs only [go_sem,hk',hwk,hA,hst]));repeat' first|(with_reducible first|exact True.intro|refine And.intro ?_ ?_|intro _)|(((with_reducible refine isCall ?_);first|refine AG (c2) rfl ?_ ?_|refine AE (c2) rfl ?_|refine AB (c2) rfl ?_ ?_|refine AF (c2) rfl rfl ?_|refine AG (c3) rfl ?_ ?_|refine AE (c3) rfl ?_|refine AB (c3) rfl ?_ ?_|refine AF (c3) rfl rfl ?_)<;>try (simp -implicitDefEqProofs only [go_sem,hk',hwk,hA,hst]))|(((with_reducible refine AM ?_ ?_)<;>intro _)<;>try (simp -implicitDefEqProofs only [go_sem,hk',hwk,hA,hst]))|simp (disch:=omega) only [AC,AH,AK,AJ,AD,AL,AI,AA]|((with_reducible refine AW ?_);refine⟨_,rfl,?_,?_⟩)
     all_goals first|omega|(simp;done)|(simp;omega)|skip
     all_goals first|rfl|(simp at *;done)|(simp at *;omega)|skip
    ·have hk':¬(k:Int) < (G.length:Int):=by omega
     have hke:G.take k=G:=List.take_of_length_le (by omega)
     rw [hke,←hG]
     (try (simp -implicitDefEqProofs only [go_sem,hk',hwi]));repeat' first|(with_reducible first|exact True.intro|refine And.intro ?_ ?_|intro _)|(((with_reducible refine AM ?_ ?_)<;>intro _)<;>try (simp -implicitDefEqProofs only [go_sem,hk',hwi]))|simp (disch:=omega) only [AC,AH,AK,AJ,AD,AL,AI,AA]|((with_reducible refine AW ?_);refine⟨_,rfl,?_,?_⟩)
     all_goals first|omega|(simp;done)|(simp;omega)|skip
     all_goals first|rfl|omega|skip
  ·have h':¬(i:Int) < (P:Int):=by omega
   have hie:i=P:=by omega
   subst hie
   obtain⟨G,hGe⟩:∃G,Hf i=G:=⟨_,rfl⟩
   rw [hGe] at hgl ⊢
   (try (simp -implicitDefEqProofs only [go_sem,h',NG,P0]));repeat' first|(with_reducible first|exact True.intro|refine And.intro ?_ ?_|intro _)|(((with_reducible refine isCall ?_);first|(refine E4 ([]) ([((7,1),(48,1))]) (c0) (by repeat' first|exact True.intro|exact rfl|refine And.intro ?_ ?_) (by simp [Handed,DN.get,AX.ren,AV.ren,AV.ren.renL,AN.get,Bg,B3,Dx,AN.reach,AV.sites,AV.sites.sitesL,AN.osites]) (by simp [B9,Ek,CD,DN.get,Dx,D5,B2]) (by rfl) (by simp only [Dv,DN.get,AX.ren,AV.ren,AV.ren.renL,and_self,and_true,true_and,if_true,reduceIte];rfl) ?_))<;>try (simp -implicitDefEqProofs only [go_sem,h',NG,P0]))|(((with_reducible refine AM ?_ ?_)<;>intro _)<;>try (simp -implicitDefEqProofs only [go_sem,h',NG,P0]))|simp (disch:=omega) only [AC,AH,AK,AJ,AD,AL,AI,AA]|((with_reducible refine AW ?_);refine⟨_,rfl,?_,?_⟩)
   all_goals first|omega|(simp;done)|(simp;omega)|skip
   rw [show us (d++List.replicate i 0)=us (FX G d i 0) from rfl]
   refine AS (α:=Nat) (l0:=?l3) (m0:=?m3) (fun x=>[(55,.d (.int .i64 (x:Int)))]) (fun x=>[(48,.row 89 1 false (us (FX G d i x)))]) (fun x=>x≤d.length) (fun x=>d.length - x) 0 ?h03 ?he3 ?he23 ?hI3 ?step3
   case h03=>(simp -implicitDefEqProofs only [go_sem];rfl)
   case he3=>rfl
   case he23=>rfl
   case' step3=>(rintro m hI3;try dsimp only at hI3)
   case' hI3=>try dsimp only
   ·exact Nat.zero_le _
   ·have hrl:=F4 G d i m
    have hrs:FX G d i (m+1)=CV (FX G d i m) m ((FX G d i m)[m]?.getD 0) G:=rfl
    obtain⟨R,hR⟩:∃R,FX G d i m=R:=⟨_,rfl⟩
    rw [hR] at hrl hrs ⊢
    by_cases hm:m < d.length
    ·have hm':(m:Int) < (d.length:Int):=by omega
     have hwm:IntKind.i64.wrap ((m:Int)+1)=((m+1:Nat):Int):=by rw [AC _ (by omega)];omega
     have hmR:m < R.length:=by omega
     obtain⟨B,hB⟩:∃B,R[m]?.getD 0=B:=⟨_,rfl⟩
     rw [hB] at hrs
     (try (simp -implicitDefEqProofs only [go_sem,hm',hmR,hB]));repeat' first|(with_reducible first|exact True.intro|refine And.intro ?_ ?_|intro _)|(((with_reducible refine AM ?_ ?_)<;>intro _)<;>try (simp -implicitDefEqProofs only [go_sem,hm',hmR,hB]))|simp (disch:=omega) only [AC,AH,AK,AJ,AD,AL,AI,AA]|((with_reducible refine AW ?_);refine⟨_,rfl,?_,?_⟩)
     all_goals first|omega|(simp;done)|(simp;omega)|skip
     rw [show us R=us (CV R m B (G.take 0)) from rfl]
     refine AS (α:=Nat) (l0:=?l4) (m0:=?m4) (fun x=>[(64,.d (.int .i64 (x:Int)))]) (fun x=>[(48,.row 89 1 false (us (CV R m B (G.take x))))]) (fun x=>x≤G.length) (fun x=>G.length - x) 0 ?h04 ?he4 ?he24 ?hI4 ?step4
     case h04=>(simp -implicitDefEqProofs only [go_sem];rfl)
     case he4=>rfl
     case he24=>rfl
     case' step4=>(rintro k hI4;try dsimp only at hI4)
     case' hI4=>try dsimp only
     ·exact Nat.zero_le _
     ·have hA:=Ho (G.take k) R m B
      by_cases hk:k < G.length
      ·have hk':(k:Int) < (G.length:Int):=by omega
       have hwk:IntKind.i64.wrap ((k:Int)+1)=((k+1:Nat):Int):=by rw [AC _ (by omega)];omega
       have hwmk:IntKind.i64.wrap ((m:Int)+(k:Int))=((m+k:Nat):Int):=by rw [AC _ (by omega)];omega
       have hmk:m+k < R.length:=by omega
       have c3:=C1 B (G[k]?.getD 0)
       have hst:=OW R G m k B hk
       (try (simp -implicitDefEqProofs only [go_sem,hk',hwk,hwmk,hA,hmk,hst]));repeat' first|(with_reducible first|exact True.intro|refine And.intro ?_ ?_|intro _)|(((with_reducible refine isCall ?_);first|refine AG (c3) rfl ?_ ?_|refine AE (c3) rfl ?_|refine AB (c3) rfl ?_ ?_|refine AF (c3) rfl rfl ?_)<;>try (simp -implicitDefEqProofs only [go_sem,hk',hwk,hwmk,hA,hmk,hst]))|(((with_reducible refine AM ?_ ?_)<;>intro _)<;>try (simp -implicitDefEqProofs only [go_sem,hk',hwk,hwmk,hA,hmk,hst]))|simp (disch:=omega) only [AC,AH,AK,AJ,AD,AL,AI,AA]|((with_reducible refine AW ?_);refine⟨_,rfl,?_,?_⟩)
       all_goals first|omega|(simp;done)|(simp;omega)|skip
       all_goals first|rfl|(simp at *;done)|(simp at *;omega)|skip
      ·have hk':¬(k:Int) < (G.length:Int):=by omega
       have hke:G.take k=G:=List.take_of_length_le (by omega)
       rw [hke,←hrs]
       (try (simp -implicitDefEqProofs only [go_sem,hk',hwm]));repeat' first|(with_reducible first|exact True.intro|refine And.intro ?_ ?_|intro _)|(((with_reducible refine AM ?_ ?_)<;>intro _)<;>try (simp -implicitDefEqProofs only [go_sem,hk',hwm]))|simp (disch:=omega) only [AC,AH,AK,AJ,AD,AL,AI,AA]|((with_reducible refine AW ?_);refine⟨_,rfl,?_,?_⟩)
       all_goals first|omega|(simp;done)|(simp;omega)|skip
       all_goals first|rfl|omega|skip
    ·have hm':¬(m:Int) < (d.length:Int):=by omega
     have hme:m=d.length:=by omega
     have c4:=Oc false false d (R.drop d.length) (by omega) (by simp;omega)
     have hres:d++R.drop d.length=CU i d:=by rw [←hR,hme,←hGe];rfl
     have hemp:(CU i d).isEmpty=false:=by
      have h5:=CF i d
      cases hE:CU i d with
      |nil=>rw [hE] at h5;simp at h5;omega
      |cons=>rfl
     have hdr:List.take (d.length+i - d.length) (R.drop d.length)=R.drop d.length:=List.take_of_length_le (by simp;omega)
     rw [hres,hemp] at c4
     (try (simp -implicitDefEqProofs only [go_sem,hm',hrl,hdr]));repeat' first|(with_reducible first|exact True.intro|refine And.intro ?_ ?_|intro _)|(((with_reducible refine isCall ?_);first|refine AG (c4) rfl ?_ ?_|refine AE (c4) rfl ?_|refine AB (c4) rfl ?_ ?_|refine AF (c4) rfl rfl ?_)<;>try (simp -implicitDefEqProofs only [go_sem,hm',hrl,hdr]))|(((with_reducible refine AM ?_ ?_)<;>intro _)<;>try (simp -implicitDefEqProofs only [go_sem,hm',hrl,hdr]))|simp (disch:=omega) only [AC,AH,AK,AJ,AD,AL,AI,AA]|((with_reducible refine AW ?_);refine⟨_,rfl,?_,?_⟩)
     all_goals first|omega|(simp;done)|(simp;omega)|skip
     all_goals first|rfl|(simp at *;done)|(simp at *;omega)|skip
end Go.Pw
end
section
open Go Go.Pw Go.Proofs
namespace Go.Pw
set_option linter.unusedSimpArgs false
set_option linter.unusedVariables false
set_option maxRecDepth 100000
set_option maxHeartbeats 3200000
theorem C3 {L P:Int} (h:BG L P=true):2≤L∧L≤15∧1≤P∧P≤8∧P < L:=by simpa [BG] using h
theorem Dj {L P:Int} (h:BG L P=true):∃l p:Nat,L=(l:Int)∧P=(p:Int)∧2≤l∧l≤15∧1≤p∧p≤8∧p < l:=by
 have:=C3 h
 exact⟨L.toNat,P.toNat,by omega,by omega,by omega,by omega,by omega,by omega,by omega⟩
def av (L P n:Int):Int:=if BG L P=true then if 0≤n∧n≤L then 0 else 1 else 50
def aw (L P n:Int):Bool:=BG L P && (decide (0≤n∧n≤L) && decide (P < n+P / 2))
def Fi (L:Nat):Nat→Nat×Nat
 |0=>(0,1)
 |e+1=>((Fi L e).1+(Fi L e).2,(Fi L e).2 * (L - e) * 15 / (e+1))
theorem bf:∀L:Fin 16,∀e:Fin 6,(Fi L.val e.val).1≤2000000000000∧(Fi L.val e.val).2≤2000000000000∧(Fi L.val e.val).2 * (L.val - e.val) / (e.val+1) * 15=(Fi L.val e.val).2 * (L.val - e.val) * 15 / (e.val+1):=by decide +kernel
theorem ZT {L e:Nat} (hL:L≤15) (he:e≤5):(Fi L e).1≤2000000000000∧(Fi L e).2≤2000000000000∧(Fi L e).2 * (L - e) / (e+1) * 15=(Fi L e).2 * (L - e) * 15 / (e+1) :=
 bf ⟨L,by omega⟩ ⟨e,by omega⟩
def ed (L P:Nat):Nat:=(Fi L (P / 2+1)).1
def fk (L P:Nat):Nat:=Nat.gcd (ed L P) (2 ^ (4 * P))
def fS (L P:Int):Int:=if BG L P=true then ((ed L.toNat P.toNat / fk L.toNat P.toNat:Nat):Int) else 0
def fR (L P:Int):Int:=if BG L P=true then ((2 ^ (4 * P.toNat) / fk L.toNat P.toNat:Nat):Int) else 0
theorem bN:∀L:Fin 16,∀P:Fin 9,0 < ed L.val P.val:=by decide +kernel
theorem EL (a b:Nat):Int.tdiv (a:Int) (b:Int)=((a / b:Nat):Int):=by
 rw [Int.tdiv_eq_ediv_of_nonneg (by omega)];rfl
theorem Iw (a b:Nat):Int.tmod (a:Int) (b:Int)=((a % b:Nat):Int):=by
 rw [Int.tmod_eq_emod_of_nonneg (by omega)];rfl
theorem Yb (x y:Nat):Nat.gcd y (x % y)=Nat.gcd x y:=by rw [Nat.gcd_comm x y,Nat.gcd_rec y x,Nat.gcd_comm]
attribute [local congr] Ch BI BJ A0 Ci A5 A7 A6 Az Ar Am Ai A2 An A3 BR BV BT BU BS BW BO Ap A4 Aq BM Bm Ao BP BQ BN BK BL
attribute [local irreducible] IntKind.wrap A_ Option.getD and or
theorem GX (L P n:Int):B7 E0 Hu [.agg [.int .i64 L,.int .i64 P],.int .i64 n] (.tup [.bool (aw L P n),.int .i64 (av L P n)]):=by
 have c1:=CN L P
 refine AQ Ku Af (by simp) fun hwf=>?_
 simp only [F8,FR,FQ,En,HD,HC,KD,HB,Cg,C4,C5,FT,Dh,List.length_map,Da,true_and,and_true] at hwf
 rw [AR];unfold Gy aw av
 cases hc:BG L P with
 |false =>
  rw [hc] at c1
  simp only [Bool.false_eq_true,if_false] at c1
  (try (simp -implicitDefEqProofs only [go_sem,hc]));repeat' first|(with_reducible first|exact True.intro|refine And.intro ?_ ?_|intro _)|(((with_reducible refine isCall ?_);first|refine AG (c1) rfl ?_ ?_|refine AE (c1) rfl ?_|refine AB (c1) rfl ?_ ?_|refine AF (c1) rfl rfl ?_)<;>try (simp -implicitDefEqProofs only [go_sem,hc]))|(((with_reducible refine AM ?_ ?_)<;>intro _)<;>try (simp -implicitDefEqProofs only [go_sem,hc]))|simp (disch:=omega) only [AC,AH,AK,AJ,AD,AL,AI,AA]
  all_goals first|rfl|(simp;done)|skip
 |true =>
  have hb:=C3 hc
  have hd:P.tdiv 2=P / 2:=Int.tdiv_eq_ediv_of_nonneg (by omega)
  have hw:IntKind.i64.wrap (P / 2)=P / 2:=AC _ (by omega)
  rw [hc] at c1
  simp only [if_true] at c1
  by_cases hn:0≤n∧n≤L
  ·have hn1:¬n < 0:=by omega
   have hn2:¬L < n:=by omega
   have hw2:IntKind.i64.wrap (n+P / 2)=n+P / 2:=AC _ (by omega)
   (try (simp -implicitDefEqProofs only [go_sem,hc,hd,hw,hw2,hn1,hn2]));repeat' first|(with_reducible first|exact True.intro|refine And.intro ?_ ?_|intro _)|(((with_reducible refine isCall ?_);first|refine AG (c1) rfl ?_ ?_|refine AE (c1) rfl ?_|refine AB (c1) rfl ?_ ?_|refine AF (c1) rfl rfl ?_)<;>try (simp -implicitDefEqProofs only [go_sem,hc,hd,hw,hw2,hn1,hn2]))|(((with_reducible refine AM ?_ ?_)<;>intro _)<;>try (simp -implicitDefEqProofs only [go_sem,hc,hd,hw,hw2,hn1,hn2]))|simp (disch:=omega) only [AC,AH,AK,AJ,AD,AL,AI,AA]
   all_goals first|omega|(simp [*];done)|skip
  ·by_cases hn1:n < 0
   ·have hn3:¬0≤n:=by omega
    (try (simp -implicitDefEqProofs only [go_sem,hc,hn1]));repeat' first|(with_reducible first|exact True.intro|refine And.intro ?_ ?_|intro _)|(((with_reducible refine isCall ?_);first|refine AG (c1) rfl ?_ ?_|refine AE (c1) rfl ?_|refine AB (c1) rfl ?_ ?_|refine AF (c1) rfl rfl ?_)<;>try (simp -implicitDefEqProofs only [go_sem,hc,hn1]))|(((with_reducible refine AM ?_ ?_)<;>intro _)<;>try (simp -implicitDefEqProofs only [go_sem,hc,hn1]))|simp (disch:=omega) only [AC,AH,AK,AJ,AD,AL,AI,AA]
    all_goals first|rfl|(simp [hn3];done)|(simp [hn3];omega)|skip
   ·have hn2:L < n:=by omega
    have hn3:¬n≤L:=by omega
    (try (simp -implicitDefEqProofs only [go_sem,hc,hn1,hn2]));repeat' first|(with_reducible first|exact True.intro|refine And.intro ?_ ?_|intro _)|(((with_reducible refine isCall ?_);first|refine AG (c1) rfl ?_ ?_|refine AE (c1) rfl ?_|refine AB (c1) rfl ?_ ?_|refine AF (c1) rfl rfl ?_)<;>try (simp -implicitDefEqProofs only [go_sem,hc,hn1,hn2]))|(((with_reducible refine AM ?_ ?_)<;>intro _)<;>try (simp -implicitDefEqProofs only [go_sem,hc,hn1,hn2]))|simp (disch:=omega) only [AC,AH,AK,AJ,AD,AL,AI,AA]
    all_goals first|rfl|(simp [hn3];done)|(simp [hn3];omega)|skip
theorem J_ (a b:Nat) (ha:0 < a) (ha2:a≤2 ^ 62) (hb:b≤2 ^ 62):B7 E0 G_ [.int .i64 a,.int .i64 b] (.tup [.int .i64 ((a / Nat.gcd a b:Nat):Int),.int .i64 ((b / Nat.gcd a b:Nat):Int)]):=by
 refine AQ J6 Af (by simp) fun hwf=>?_
 rw [AR];unfold GF
 obtain⟨g,hg⟩:∃g,Nat.gcd a b=g:=⟨_,rfl⟩
 rw [hg]
 (try (simp -implicitDefEqProofs only [go_sem]));repeat' first|(with_reducible first|exact True.intro|refine And.intro ?_ ?_|intro _)|(((with_reducible refine AM ?_ ?_)<;>intro _)<;>try (simp -implicitDefEqProofs only [go_sem]))|simp (disch:=omega) only [AC,AH,AK,AJ,AD,AL,AI,AA]|((with_reducible refine Aa ?_);refine⟨(_,_),rfl,?_,?_⟩)
 refine AS (α:=Nat×Nat) (l0:=?l1) (m0:=?m1) (fun x=>[(6,.d (.int .i64 (x.1:Int))),(7,.d (.int .i64 (x.2:Int)))]) (fun x=>[]) (fun x=>Nat.gcd x.1 x.2=g∧x.1≤2 ^ 62∧x.2≤2 ^ 62) (fun x=>x.2) (a,b) ?h01 ?he1 ?he21 ?hI1 ?step1
 case h01=>(simp -implicitDefEqProofs only [go_sem];rfl)
 case he1=>rfl
 case he21=>rfl
 case' step1=>(rintro⟨p,q⟩ hI;try dsimp only at hI)
 case' hI1=>try dsimp only
 ·exact⟨hg,ha2,hb⟩
 ·obtain⟨h1,h2,h3⟩:=hI
  have ht:=Iw p q
  by_cases h:q=0
  ·subst h
   have hp:p=g:=by rw [←h1,Nat.gcd_zero_right]
   subst hp
   have hp0:0 < p:=by rw [←hg];exact Nat.gcd_pos_of_pos_left b ha
   have t1:=EL a p
   have t2:=EL b p
   have l1:=Nat.div_le_self a p
   have l2:=Nat.div_le_self b p
   obtain⟨A1,hA1⟩:∃A1,a / p=A1:=⟨_,rfl⟩
   obtain⟨B1,hB1⟩:∃B1,b / p=B1:=⟨_,rfl⟩
   rw [hA1] at t1 l1 ⊢
   rw [hB1] at t2 l2 ⊢
   have hpz:¬(p:Int)=0:=by omega
   have w1:IntKind.i64.wrap (A1:Int)=(A1:Int):=AC _ (by omega)
   have w2:IntKind.i64.wrap (B1:Int)=(B1:Int):=AC _ (by omega)
   (try (simp -implicitDefEqProofs only [go_sem,t1,t2,hpz,w1,w2]));repeat' first|(with_reducible first|exact True.intro|refine And.intro ?_ ?_|intro _)|(((with_reducible refine AM ?_ ?_)<;>intro _)<;>try (simp -implicitDefEqProofs only [go_sem,t1,t2,hpz,w1,w2]))|simp (disch:=omega) only [AC,AH,AK,AJ,AD,AL,AI,AA]|((with_reducible refine Aa ?_);refine⟨(_,_),rfl,?_,?_⟩)
   all_goals first|rfl|omega|skip
  ·have hqz:¬(q:Int)=0:=by omega
   have hm:=Nat.mod_lt p (show 0 < q by omega)
   have hs:=Yb p q
   have w1:IntKind.i64.wrap ((p % q:Nat):Int)=((p % q:Nat):Int):=AC _ (by omega)
   (try (simp -implicitDefEqProofs only [go_sem,ht,hqz,w1]));repeat' first|(with_reducible first|exact True.intro|refine And.intro ?_ ?_|intro _)|(((with_reducible refine AM ?_ ?_)<;>intro _)<;>try (simp -implicitDefEqProofs only [go_sem,ht,hqz,w1]))|simp (disch:=omega) only [AC,AH,AK,AJ,AD,AL,AI,AA]|((with_reducible refine Aa ?_);refine⟨(_,_),rfl,?_,?_⟩)
   all_goals first|(rw [hs];exact h1)|omega|rfl|skip
theorem Kz (L P:Int):B7 E0 Hv [.agg [.int .i64 L,.int .i64 P]] (.tup [.int .i64 (fS L P),.int .i64 (fR L P),.int .i64 (if BG L P then 0 else 50)]):=by
 have c1:=CN L P
 refine AQ Kx Af (by simp) fun hwf=>?_
 rw [AR];unfold G2 fS fR
 cases hc:BG L P with
 |false =>
  rw [hc] at c1
  simp only [Bool.false_eq_true,if_false] at c1
  (try (simp -implicitDefEqProofs only [go_sem,hc]));repeat' first|(with_reducible first|exact True.intro|refine And.intro ?_ ?_|intro _)|(((with_reducible refine isCall ?_);first|refine AG (c1) rfl ?_ ?_|refine AE (c1) rfl ?_|refine AB (c1) rfl ?_ ?_|refine AF (c1) rfl rfl ?_)<;>try (simp -implicitDefEqProofs only [go_sem,hc]))|(((with_reducible refine AM ?_ ?_)<;>intro _)<;>try (simp -implicitDefEqProofs only [go_sem,hc]))|simp (disch:=omega) only [AC,AH,AK,AJ,AD,AL,AI,AA]|((with_reducible refine AW ?_);refine⟨_,rfl,?_,?_⟩)
  all_goals first|rfl|(simp;done)|skip
 |true =>
  obtain⟨l,p,rfl,rfl,b1,b2,b3,b4,b5⟩:=Dj hc
  rw [hc] at c1
  simp only [if_true] at c1
  have hd:Int.tdiv (p:Int) 2=((p / 2:Nat):Int):=EL p 2
  have hw:IntKind.i64.wrap ((p / 2:Nat):Int)=((p / 2:Nat):Int):=AC _ (by omega)
  have hw2:IntKind.i64.wrap (((p / 2:Nat):Int)+1)=((p / 2+1:Nat):Int):=by rw [AC _ (by omega)];omega
  obtain⟨N,hN⟩:∃N,p / 2+1=N:=⟨_,rfl⟩
  have hN5:N≤5:=by omega
  rw [hN] at hw2
  simp only [Int.toNat_natCast,if_true]
  have hcA:(Fi l N).1=ed l p:=by rw [←hN];rfl
  (try (simp -implicitDefEqProofs only [go_sem,hd,hw,hw2]));repeat' first|(with_reducible first|exact True.intro|refine And.intro ?_ ?_|intro _)|(((with_reducible refine isCall ?_);first|refine AG (c1) rfl ?_ ?_|refine AE (c1) rfl ?_|refine AB (c1) rfl ?_ ?_|refine AF (c1) rfl rfl ?_)<;>try (simp -implicitDefEqProofs only [go_sem,hd,hw,hw2]))|(((with_reducible refine AM ?_ ?_)<;>intro _)<;>try (simp -implicitDefEqProofs only [go_sem,hd,hw,hw2]))|simp (disch:=omega) only [AC,AH,AK,AJ,AD,AL,AI,AA]|((with_reducible refine AW ?_);refine⟨_,rfl,?_,?_⟩)
  all_goals first|omega|(simp;done)|(simp;omega)|skip
  refine AS (α:=Nat) (l0:=?l2) (m0:=?m2) (fun x=>[(17,.d (.int .i64 (x:Int))),(2,.d (.int .i64 ((Fi l x).1:Int))),(6,.d (.int .i64 ((Fi l x).2:Int)))]) (fun x=>[]) (fun x=>x≤N) (fun x=>N - x) 0 ?h02 ?he2 ?he22 ?hI2 ?step2
  case h02=>(simp -implicitDefEqProofs only [go_sem];rfl)
  case he2=>rfl
  case he22=>rfl
  case' step2=>(rintro e hI;try dsimp only at hI)
  case' hI2=>try dsimp only
  ·exact Nat.zero_le _
  ·obtain⟨d1,d2,d3⟩:=ZT b2 (show e≤5 by omega)
   by_cases h:e < N
   ·have h':(e:Int) < (N:Int):=by omega
    obtain⟨f1,f2,f3⟩:=ZT b2 (show e+1≤5 by omega)
    have hs1:(Fi l (e+1)).1=(Fi l e).1+(Fi l e).2:=rfl
    have hs2:(Fi l (e+1)).2=(Fi l e).2 * (l - e) * 15 / (e+1):=rfl
    obtain⟨A,hA⟩:∃A,(Fi l e).1=A:=⟨_,rfl⟩
    obtain⟨M,hM⟩:∃M,(Fi l e).2=M:=⟨_,rfl⟩
    rw [hA] at hs1 d1 ⊢
    rw [hM] at hs1 hs2 d2 ⊢
    have m1:M * (l - e)≤2000000000000 * 15:=Nat.mul_le_mul d2 (by omega)
    have wi:IntKind.i64.wrap ((e:Int)+1)=((e+1:Nat):Int):=by rw [AC _ (by omega)];omega
    have w1:IntKind.i64.wrap ((A:Int)+(M:Int))=(((Fi l (e+1)).1:Nat):Int):=by rw [AC _ (by omega)];omega
    have w2:IntKind.i64.wrap ((l:Int) - (e:Int))=((l - e:Nat):Int):=by rw [AC _ (by omega)];omega
    have w3:IntKind.i64.wrap ((M:Int) * ((l - e:Nat):Int))=((M * (l - e):Nat):Int):=by
     rw [show (M:Int) * ((l - e:Nat):Int)=((M * (l - e):Nat):Int) by push_cast;rfl]
     exact AC _ (by omega)
    have w4:IntKind.i64.wrap (((M * (l - e):Nat):Int) * 15)=((M * (l - e) * 15:Nat):Int):=by rw [AC _ (by omega)];push_cast;rfl
    have w5:Int.tdiv ((M * (l - e) * 15:Nat):Int) ((e+1:Nat):Int)=(((Fi l (e+1)).2:Nat):Int):=by rw [EL,hs2]
    have w6:IntKind.i64.wrap (((Fi l (e+1)).2:Nat):Int)=(((Fi l (e+1)).2:Nat):Int):=AC _ (by omega)
    have hez:¬((e+1:Nat):Int)=0:=by omega
    have w7:IntKind.i64.wrap ((e:Int)+1)=((e+1:Nat):Int):=wi
    clear hs1 hs2
    (try (simp -implicitDefEqProofs only [go_sem,h',wi,w1,w2,w3,w4,w5,w6,hez]));repeat' first|(with_reducible first|exact True.intro|refine And.intro ?_ ?_|intro _)|(((with_reducible refine AM ?_ ?_)<;>intro _)<;>try (simp -implicitDefEqProofs only [go_sem,h',wi,w1,w2,w3,w4,w5,w6,hez]))|simp (disch:=omega) only [AC,AH,AK,AJ,AD,AL,AI,AA]|((with_reducible refine AW ?_);refine⟨_,rfl,?_,?_⟩)
    all_goals first|omega|(simp;done)|(simp;omega)|skip
    all_goals first|rfl|omega|skip
   ·have h':¬(e:Int) < (N:Int):=by omega
    have hie:e=N:=by omega
    subst hie
    have hp4:2 ^ (4 * p)≤2 ^ 62:=Nat.pow_le_pow_right (by omega) (by omega)
    have c2:=J_ (ed l p) (2 ^ (4 * p)) (bN ⟨l,by omega⟩ ⟨p,by omega⟩) (by rw [←hcA];omega) hp4
    rw [hcA] at d1 ⊢
    (try (simp -implicitDefEqProofs only [go_sem,h']));repeat' first|(with_reducible first|exact True.intro|refine And.intro ?_ ?_|intro _)|(((with_reducible refine isCall ?_);first|refine AG (c2) rfl ?_ ?_|refine AE (c2) rfl ?_|refine AB (c2) rfl ?_ ?_|refine AF (c2) rfl rfl ?_)<;>try (simp -implicitDefEqProofs only [go_sem,h']))|(((with_reducible refine AM ?_ ?_)<;>intro _)<;>try (simp -implicitDefEqProofs only [go_sem,h']))|simp (disch:=omega) only [AC,AH,AK,AJ,AD,AL,AI,AA]|((with_reducible refine AW ?_);refine⟨_,rfl,?_,?_⟩)
    all_goals first|rfl|omega
end Go.Pw
end
section
namespace Go.Pw
set_option linter.unusedSimpArgs false
set_option linter.unusedVariables false
def fs (xs:List Int):List F:=xs.map fun x=>Fin.ofNat 16 x.toNat
theorem Ye (xs:List Int):(fs xs).length=xs.length:=by simp [fs]
theorem YE:∀{xs:List Int},xs.all J0=true→iv (fs xs)=xs
 |[],_=>rfl
 |x :: xs,h=>by
  simp only [List.all_cons,Bool.and_eq_true] at h
  have hx:0≤x∧x≤15:=by simpa [J0] using h.1
  show ((Fin.ofNat 16 x.toNat).val:Int) :: iv (fs xs)=x :: xs
  rw [YE h.2]
  congr 1
  show ((x.toNat % 16:Nat):Int)=x
  omega
theorem PT (w:List F):fs (iv w)=w:=by
 apply dH.1
 apply YE
 rw [List.all_eq_true]
 intro x hx
 simp [iv] at hx
 obtain⟨a,_,rfl⟩:=hx
 have:=a.isLt
 simp [J0];omega
theorem dJ (w:List F):(iv w).all J0=true:=by
 rw [List.all_eq_true]
 intro x hx
 simp [iv] at hx
 obtain⟨a,_,rfl⟩:=hx
 have:=a.isLt
 simp [J0];omega
theorem HQ (w:List F) (m:Int):Au (iv w) m=decide ((w.length:Int)=m):=by
 unfold Au;rw [dJ,Bool.and_true,DI]
theorem DC {xs:List Int} {m:Int} (h:Au xs m=true):(xs.length:Int)=m∧iv (fs xs)=xs:=by
 unfold Au at h
 simp only [Bool.and_eq_true,decide_eq_true_eq] at h
 exact⟨h.1,YE h.2⟩
def nt (ms:List Int):List Nat:=ms.map Int.toNat
theorem dA (ms:List Int):(nt ms).length=ms.length:=by simp [nt]
theorem Jp {ms:List Int} {m:Int} (h:Ca ms m=true) {i:Nat} (hi:i < ms.length):0≤ms[i]?.getD 0∧ms[i]?.getD 0 < m∧(0 < i→ms[i - 1]?.getD 0 < ms[i]?.getD 0):=by
 have:=(List.all_eq_true.1 h) i (by simpa using hi)
 simp only [Vy,decide_eq_true_eq] at this
 exact this
theorem X5 {ms:List Int} {m:Int} (h:Ca ms m=true):ni (nt ms)=ms:=by
 apply List.ext_getElem
 ·simp [ni,nt]
 ·intro i h1 h2
  have:=(Jp h h2).1
  rw [List.getElem?_eq_getElem h2] at this
  simp [ni,nt] at this ⊢
  omega
theorem ZL (ms:List Int) (h:∀i,i < ms.length→0 < i→ms[i - 1]?.getD 0 < ms[i]?.getD 0):∀j i,i < j→j < ms.length→ms[i]?.getD 0 < ms[j]?.getD 0
 |0,i,h1,_=>by omega
 |j+1,i,h1,h2=>by
  have h3:=h (j+1) h2 (by omega)
  rw [show j+1 - 1=j by omega] at h3
  by_cases hij:i=j
  ·subst hij;exact h3
  ·have:=ZL ms h j i (by omega) (by omega)
   omega
theorem TW {ms:List Int} {L:Nat} (h:Ca ms (L:Int)=true):UR L (nt ms):=by
 have ha:=ZL ms fun i hi h0=>(Jp h hi).2.2 h0
 refine⟨List.pairwise_iff_getElem.2 fun i j hi hj hij=>?_,fun j hj=>?_⟩
 ·rw [dA] at hi hj
  have h1:=ha j i hij hj
  have h2:=(Jp h hi).1
  rw [List.getElem?_eq_getElem hi,List.getElem?_eq_getElem hj] at h1
  rw [List.getElem?_eq_getElem hi] at h2
  simp [nt] at h1 h2 ⊢
  omega
 ·simp only [nt,List.mem_map] at hj
  obtain⟨x,hx,rfl⟩:=hj
  obtain⟨i,hi,rfl⟩:=List.getElem_of_mem hx
  have h2:=Jp h hi
  rw [List.getElem?_eq_getElem hi] at h2
  simp at h2
  omega
theorem Nv {L:Nat} {mk:List Nat} (h:UR L mk):mk.length≤L:=by
 have:=JH mk (List.range L) (Dk h.asc) fun j hj=>by simpa using h.lt j hj
 simpa using this
def Qj (L P:Int) (xs:List Int):Int:=if BG L P=true then if Au xs (L - P)=true then 0 else 51 else 50
def Qi (L P:Int) (xs:List Int):List Int:=if BG L P=true then if Au xs (L - P)=true then iv (CU P.toNat (fs xs)) else [] else []
noncomputable def fA (L P:Int) (ws ms:List Int):Option (List F):=Cq L.toNat P.toNat (fs ws) (nt ms)
def oE:Option (List F)→Int
 |some _=>0
 |none=>52
def oL:Option (List F)→List F
 |some r=>r
 |none=>[]
theorem Ew (r:List F):oE (some r)=0:=rfl
theorem QQ:oE none=52:=rfl
theorem Ev (r:List F):oL (some r)=r:=rfl
theorem QP:oL none=[]:=rfl
noncomputable def di (L P:Int) (ws ms:List Int):Int :=
 if BG L P=true then if Au ws L=true then if Ca ms L=true then oE (fA L P ws ms) else 1 else 51 else 50
noncomputable def b8 (L P:Int) (ws ms:List Int):List Int :=
 if BG L P=true then if Au ws L=true then if Ca ms L=true then iv (oL (fA L P ws ms)) else [] else [] else []
end Go.Pw
end
