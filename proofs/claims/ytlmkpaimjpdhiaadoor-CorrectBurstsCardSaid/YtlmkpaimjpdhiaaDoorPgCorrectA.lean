/- A part of the proof. -/
import Derived.Test.YtlmkpaimjpdhiaaDoorCorrectPC
import Derived.Test.YtlmkpaimjpdhiaaDoorCorrectSpec
set_option linter.all false
section
open Go Go.Pw Go.Proofs
namespace Go.Pw
set_option linter.unusedSimpArgs false
set_option linter.unusedVariables false
set_option maxRecDepth 100000
set_option maxHeartbeats 1600000
theorem Ix (n:Nat):(Int.tmod (n:Int) 15)=((n % 15:Nat):Int):=by rw [Int.tmod_eq_emod_of_nonneg (by omega)];omega
theorem bi:∀a:F,a.val < 8→(2 * (a.val:Int))=((fm 2 a).val:Int):=by decide +kernel
theorem bj:∀a:F,¬a.val < 8→A_ .xor .i64 (2 * (a.val:Int) - 16) 3=((fm 2 a).val:Int):=by decide +kernel
def cM:Nat→F→Nat→F→F
 |0,_,_,n=>n
 |k+1,a,b,n=>cM k (fm 2 a) (b / 2) (if b % 2=1 then fa n a else n)
theorem cK:∀a b:F,cM 4 a b.val 0=fm a b:=by decide +kernel
attribute [local congr] Ch BI BJ A0 Ci A5 A7 A6 Az Ar Am Ai A2 An A3 BR BV BT BU BS BW BO Ap A4 Aq BM Bm Ao BP BQ BN BK BL
attribute [local irreducible] IntKind.wrap A_ Option.getD and or
theorem Du (n:Nat) (hn:n≤1000000):B7 E0 Ic [.int .i64 n] (.int .u8 ((gp n).val:Int)):=by
 refine AQ Ld Af (by simp) fun hwf=>?_
 rw [AR];unfold HX
 (try (simp -implicitDefEqProofs only [go_sem,Ix,Um]));repeat' first|(with_reducible first|exact True.intro|refine And.intro ?_ ?_|intro _)|(((with_reducible refine AM ?_ ?_)<;>intro _)<;>try (simp -implicitDefEqProofs only [go_sem,Ix,Um]))|simp (disch:=omega) only [AC,AH,AK,AJ,AD,AL,AI,AA]
 all_goals first|omega|(simp;done)|(simp;omega)|skip
theorem J' (a:F):B7 E0 ES [.int .u8 (a.val:Int)] (.int .u8 ((fi a).val:Int)):=by
 refine AQ GO Af (by simp) fun hwf=>?_
 rw [AR];unfold EF fi
 have hl:=YC a
 have hv:=Pz a
 have hw:IntKind.i64.wrap (15 - (lg a:Int))=((15 - lg a:Nat):Int):=by rw [AC _ (by omega)];omega
 have c1:=Du (15 - lg a) (by omega)
 (try (simp -implicitDefEqProofs only [go_sem,hw]));repeat' first|(with_reducible first|exact True.intro|refine And.intro ?_ ?_|intro _)|(((with_reducible refine isCall ?_);first|refine AG (c1) rfl ?_ ?_|refine AE (c1) rfl ?_|refine AB (c1) rfl ?_ ?_|refine AF (c1) rfl rfl ?_)<;>try (simp -implicitDefEqProofs only [go_sem,hw]))|(((with_reducible refine AM ?_ ?_)<;>intro _)<;>try (simp -implicitDefEqProofs only [go_sem,hw]))|simp (disch:=omega) only [AC,AH,AK,AJ,AD,AL,AI,AA]
 all_goals first|omega|(simp;done)|(simp;omega)|skip
theorem C1 (a b:F):B7 E0 E7 [.int .u8 (a.val:Int),.int .u8 (b.val:Int)] (.int .u8 ((fm a b).val:Int)):=by
 refine AQ HJ Af (by simp) fun hwf=>?_
 rw [AR];unfold Eb
 have hl:=YC a
 have hl2:=YC b
 have hv:=Pz a
 have hv2:=Pz b
 have hw:IntKind.i64.wrap ((lg a:Int)+(lg b:Int))=((lg a+lg b:Nat):Int):=by rw [AC _ (by omega)];omega
 have c1:=Du (lg a+lg b) (by omega)
 by_cases ha:a=0
 ·subst ha
  (try (simp -implicitDefEqProofs only [go_sem,B8]));repeat' first|(with_reducible first|exact True.intro|refine And.intro ?_ ?_|intro _)|(((with_reducible refine AM ?_ ?_)<;>intro _)<;>try (simp -implicitDefEqProofs only [go_sem,B8]))|simp (disch:=omega) only [AC,AH,AK,AJ,AD,AL,AI,AA]
  all_goals first|rfl|(simp at *;done)
 ·by_cases hb:b=0
  ·subst hb
   (try (simp -implicitDefEqProofs only [go_sem,Cz,ha]));repeat' first|(with_reducible first|exact True.intro|refine And.intro ?_ ?_|intro _)|(((with_reducible refine AM ?_ ?_)<;>intro _)<;>try (simp -implicitDefEqProofs only [go_sem,Cz,ha]))|simp (disch:=omega) only [AC,AH,AK,AJ,AD,AL,AI,AA]
   all_goals first|rfl|(simp at *;done)
  ·have hf:fm a b=gp (lg a+lg b):=by unfold fm;rw [if_neg (by simp [ha,hb])]
   (try (simp -implicitDefEqProofs only [go_sem,hw,ha,hb,hf]));repeat' first|(with_reducible first|exact True.intro|refine And.intro ?_ ?_|intro _)|(((with_reducible refine isCall ?_);first|refine AG (c1) rfl ?_ ?_|refine AE (c1) rfl ?_|refine AB (c1) rfl ?_ ?_|refine AF (c1) rfl rfl ?_)<;>try (simp -implicitDefEqProofs only [go_sem,hw,ha,hb,hf]))|(((with_reducible refine AM ?_ ?_)<;>intro _)<;>try (simp -implicitDefEqProofs only [go_sem,hw,ha,hb,hf]))|simp (disch:=omega) only [AC,AH,AK,AJ,AD,AL,AI,AA]
   all_goals first|omega|(simp;done)|(simp;omega)|skip
   all_goals first|rfl|(simp at *;done)
end Go.Pw
end
section
open Go Go.Pw Go.Proofs
namespace Go.Pw
set_option linter.unusedSimpArgs false
set_option linter.unusedVariables false
set_option maxRecDepth 100000
set_option maxHeartbeats 1600000
def MR (L P:Nat):D:=.agg [.int .i64 L,.int .i64 P]
theorem Aj (L P:Nat):MR L P=.agg [.int .i64 L,.int .i64 P]:=rfl
theorem YR:∀n:Nat,gp (n+1)=fm 2 (gp n):=ak
theorem eg (b:F) (i:Nat) (hi:i < 4):A_ .and .i64 ((b.val:Int).fdiv (2 ^ min i IntKind.i64.bits)) 1=((b.val / 2 ^ i % 2:Nat):Int):=by
 have hm:min i IntKind.i64.bits=i:=by
  have:IntKind.i64.bits=64:=rfl
  rw [this];omega
 rw [AA,hm,XM]
 simp
theorem ef (b:F) (i:Nat) (hi:i < 4):A_ .and .i64 ((b.val:Int).fdiv (2 ^ min i 64)) 1=((b.val / 2 ^ i % 2:Nat):Int):=eg b i hi
theorem cL (k:Nat) (a:F) (b:Nat) (n:F):cM (k+1) a b n=cM k (fm 2 a) (b / 2) (if b % 2=1 then fa n a else n):=rfl
attribute [local congr] Ch BI BJ A0 Ci A5 A7 A6 Az Ar Am Ai A2 An A3 BR BV BT BU BS BW BO Ap A4 Aq BM Bm Ao BP BQ BN BK BL
attribute [local irreducible] IntKind.wrap A_ Option.getD and or
theorem GS (L P i j:Nat) (hL:L≤100) (hi:i≤100) (hj:j < L):B7 E0 FG [MR L P,.int .i64 i,.int .i64 j] (.int .u8 ((gp (i * (L - 1 - j))).val:Int)):=by
 refine AQ Hg Af (by simp) fun hwf=>?_
 rw [AR];unfold Er
 have hb:i * (L - 1 - j)≤100 * 100:=Nat.mul_le_mul hi (by omega)
 have hw1:IntKind.i64.wrap ((L:Int) - 1)=((L - 1:Nat):Int):=by rw [AC _ (by omega)];omega
 have hw2:IntKind.i64.wrap (((L - 1:Nat):Int) - (j:Int))=((L - 1 - j:Nat):Int):=by rw [AC _ (by omega)];omega
 have hw3:IntKind.i64.wrap ((i:Int) * ((L - 1 - j:Nat):Int))=((i * (L - 1 - j):Nat):Int):=by rw [←Int.natCast_mul,AC _ (by omega)]
 have c1:=Du (i * (L - 1 - j)) (by omega)
 (try (simp -implicitDefEqProofs only [go_sem,Aj,hw1,hw2,hw3]));repeat' first|(with_reducible first|exact True.intro|refine And.intro ?_ ?_|intro _)|(((with_reducible refine isCall ?_);first|refine AG (c1) rfl ?_ ?_|refine AE (c1) rfl ?_|refine AB (c1) rfl ?_ ?_|refine AF (c1) rfl rfl ?_)<;>try (simp -implicitDefEqProofs only [go_sem,Aj,hw1,hw2,hw3]))|(((with_reducible refine AM ?_ ?_)<;>intro _)<;>try (simp -implicitDefEqProofs only [go_sem,Aj,hw1,hw2,hw3]))|simp (disch:=omega) only [AC,AH,AK,AJ,AD,AL,AI,AA]
 all_goals first|omega|(simp;done)|(simp;omega)|skip
theorem IP (a:F):B7 E0 KO [.int .i64 (a.val:Int)] (.int .i64 ((fm 2 a).val:Int)):=by
 refine AQ M3 Af (by simp) fun hwf=>?_
 rw [AR];unfold I7
 have hv:=Pz a
 by_cases h:a.val < 8
 ·have h':(a.val:Int) < 8:=by omega
  have hw:IntKind.i64.wrap (2 * (a.val:Int))=2 * (a.val:Int):=AC _ (by omega)
  (try (simp -implicitDefEqProofs only [go_sem,hw,h',bi a h]));repeat' first|(with_reducible first|exact True.intro|refine And.intro ?_ ?_|intro _)|(((with_reducible refine AM ?_ ?_)<;>intro _)<;>try (simp -implicitDefEqProofs only [go_sem,hw,h',bi a h]))|simp (disch:=omega) only [AC,AH,AK,AJ,AD,AL,AI,AA]
  all_goals first|omega|(simp;done)|(simp;omega)|skip
 ·have h':¬(a.val:Int) < 8:=by omega
  have hw:IntKind.i64.wrap (2 * (a.val:Int))=2 * (a.val:Int):=AC _ (by omega)
  have hw2:IntKind.i64.wrap (2 * (a.val:Int) - 16)=2 * (a.val:Int) - 16:=AC _ (by omega)
  (try (simp -implicitDefEqProofs only [go_sem,hw,hw2,h',bj a h]));repeat' first|(with_reducible first|exact True.intro|refine And.intro ?_ ?_|intro _)|(((with_reducible refine AM ?_ ?_)<;>intro _)<;>try (simp -implicitDefEqProofs only [go_sem,hw,hw2,h',bj a h]))|simp (disch:=omega) only [AC,AH,AK,AJ,AD,AL,AI,AA]
  all_goals first|omega|(simp;done)|(simp;omega)|skip
theorem IR (n:Nat) (hn:n≤1000000):B7 E0 KQ [.int .i64 n] (.int .i64 ((gp n).val:Int)):=by
 refine AQ M6 Af (by simp) fun hwf=>?_
 rw [AR];unfold I_
 (try (simp -implicitDefEqProofs only [go_sem]));repeat' first|(with_reducible first|exact True.intro|refine And.intro ?_ ?_|intro _)|(((with_reducible refine AM ?_ ?_)<;>intro _)<;>try (simp -implicitDefEqProofs only [go_sem]))|simp (disch:=omega) only [AC,AH,AK,AJ,AD,AL,AI,AA]|((with_reducible refine Aa ?_);refine⟨(_,_),rfl,?_,?_⟩)
 refine AS (α:=Nat×F) (l0:=?l1) (m0:=?m1) (fun x=>[(4,.d (.int .i64 (x.1:Int))),(3,.d (.int .i64 (x.2.val:Int)))]) (fun x=>[]) (fun x=>x.1≤n∧x.2=gp x.1) (fun x=>n - x.1) (0,1) ?h01 ?he1 ?he21 ?hI1 ?step1
 case h01=>(simp -implicitDefEqProofs only [go_sem];rfl)
 case he1=>rfl
 case he21=>rfl
 case' step1=>(rintro⟨k,a⟩ hI;try dsimp only at hI)
 case' hI1=>try dsimp only
 ·exact⟨by omega,QU.symm⟩
 ·obtain⟨h1,h2⟩:=hI
  subst h2
  by_cases h:k < n
  ·have h':(k:Int) < (n:Int):=by omega
   have hw:IntKind.i64.wrap ((k:Int)+1)=((k+1:Nat):Int):=by rw [AC _ (by omega)];omega
   have c1:=IP (gp k)
   (try (simp -implicitDefEqProofs only [go_sem,h',hw,←YR]));repeat' first|(with_reducible first|exact True.intro|refine And.intro ?_ ?_|intro _)|(((with_reducible refine isCall ?_);first|refine AG (c1) rfl ?_ ?_|refine AE (c1) rfl ?_|refine AB (c1) rfl ?_ ?_|refine AF (c1) rfl rfl ?_)<;>try (simp -implicitDefEqProofs only [go_sem,h',hw,←YR]))|(((with_reducible refine AM ?_ ?_)<;>intro _)<;>try (simp -implicitDefEqProofs only [go_sem,h',hw,←YR]))|simp (disch:=omega) only [AC,AH,AK,AJ,AD,AL,AI,AA]|((with_reducible refine Aa ?_);refine⟨(_,_),rfl,?_,?_⟩)
   all_goals first|omega|(simp;done)|(simp;omega)|skip
   all_goals first|rfl|(simp at *;done)|skip
  ·have h':¬(k:Int) < (n:Int):=by omega
   have hk:k=n:=by omega
   subst hk
   (try (simp -implicitDefEqProofs only [go_sem,h']));repeat' first|(with_reducible first|exact True.intro|refine And.intro ?_ ?_|intro _)|(((with_reducible refine AM ?_ ?_)<;>intro _)<;>try (simp -implicitDefEqProofs only [go_sem,h']))|simp (disch:=omega) only [AC,AH,AK,AJ,AD,AL,AI,AA]|((with_reducible refine Aa ?_);refine⟨(_,_),rfl,?_,?_⟩)
   all_goals first|omega|(simp;done)|(simp;omega)|skip
theorem ET (a0 b:F):B7 E0 HN [.int .i64 (a0.val:Int),.int .i64 (b.val:Int)] (.int .i64 ((fm a0 b).val:Int)):=by
 refine AQ M5 Af (by simp) fun hwf=>?_
 rw [AR];unfold I9
 (try (simp -implicitDefEqProofs only [go_sem]));repeat' first|(with_reducible first|exact True.intro|refine And.intro ?_ ?_|intro _)|(((with_reducible refine AM ?_ ?_)<;>intro _)<;>try (simp -implicitDefEqProofs only [go_sem]))|simp (disch:=omega) only [AC,AH,AK,AJ,AD,AL,AI,AA]|((with_reducible refine AU ?_);refine⟨(_,_,_),rfl,?_,?_⟩)
 refine AS (α:=Nat×F×F) (l0:=?l2) (m0:=?m2) (fun x=>[(6,.d (.int .i64 (x.1:Int))),(0,.d (.int .i64 (x.2.1.val:Int))),(5,.d (.int .i64 (x.2.2.val:Int)))]) (fun x=>[]) (fun x=>x.1≤4∧cM (4 - x.1) x.2.1 (b.val / 2 ^ x.1) x.2.2=fm a0 b) (fun x=>4 - x.1) (0,a0,0) ?h02 ?he2 ?he22 ?hI2 ?step2
 case h02=>(simp -implicitDefEqProofs only [go_sem];rfl)
 case he2=>rfl
 case he22=>rfl
 case' step2=>(rintro⟨k,a,n⟩ hI;try dsimp only at hI)
 case' hI2=>try dsimp only
 ·exact⟨by omega,by simpa using cK a0 b⟩
 ·obtain⟨h1,h2⟩:=hI
  by_cases h:k < 4
  ·have h':(k:Int) < 4:=by omega
   have hw:IntKind.i64.wrap ((k:Int)+1)=((k+1:Nat):Int):=by rw [AC _ (by omega)];omega
   have hu:IntKind.u64.wrap (k:Int)=(k:Int):=AH _ (by omega)
   have c1:=IP a
   have hs:cM (4 - k) a (b.val / 2 ^ k) n=cM (4 - (k+1)) (fm 2 a) (b.val / 2 ^ (k+1)) (if b.val / 2 ^ k % 2=1 then fa n a else n):=by
    rw [show 4 - k=(4 - (k+1))+1 by omega,cL,Nat.div_div_eq_div_mul,←Nat.pow_succ]
   have hbf:=eg b k h
   have hbf':=ef b k h
   rw [hs] at h2
   have h01:b.val / 2 ^ k % 2=0∨b.val / 2 ^ k % 2=1:=by omega
   rcases h01 with h01|h01
   ·rw [h01] at hbf hbf' h2
    simp only [Nat.zero_ne_one,if_false] at h2
    (try (simp -implicitDefEqProofs only [go_sem,h',hw,hu,hbf,hbf']));repeat' first|(with_reducible first|exact True.intro|refine And.intro ?_ ?_|intro _)|(((with_reducible refine isCall ?_);first|refine AG (c1) rfl ?_ ?_|refine AE (c1) rfl ?_|refine AB (c1) rfl ?_ ?_|refine AF (c1) rfl rfl ?_)<;>try (simp -implicitDefEqProofs only [go_sem,h',hw,hu,hbf,hbf']))|(((with_reducible refine AM ?_ ?_)<;>intro _)<;>try (simp -implicitDefEqProofs only [go_sem,h',hw,hu,hbf,hbf']))|simp (disch:=omega) only [AC,AH,AK,AJ,AD,AL,AI,AA]|((with_reducible refine AU ?_);refine⟨(_,_,_),rfl,?_,?_⟩)
    all_goals first|omega|(simp;done)|(simp;omega)|skip
    all_goals first|exact h2|(simp at *;done)|skip
   ·rw [h01] at hbf hbf' h2
    simp only [if_true] at h2
    (try (simp -implicitDefEqProofs only [go_sem,h',hw,hu,hbf,hbf']));repeat' first|(with_reducible first|exact True.intro|refine And.intro ?_ ?_|intro _)|(((with_reducible refine isCall ?_);first|refine AG (c1) rfl ?_ ?_|refine AE (c1) rfl ?_|refine AB (c1) rfl ?_ ?_|refine AF (c1) rfl rfl ?_)<;>try (simp -implicitDefEqProofs only [go_sem,h',hw,hu,hbf,hbf']))|(((with_reducible refine AM ?_ ?_)<;>intro _)<;>try (simp -implicitDefEqProofs only [go_sem,h',hw,hu,hbf,hbf']))|simp (disch:=omega) only [AC,AH,AK,AJ,AD,AL,AI,AA]|((with_reducible refine AU ?_);refine⟨(_,_,_),rfl,?_,?_⟩)
    all_goals first|omega|(simp;done)|(simp;omega)|skip
    all_goals first|exact h2|(simp at *;done)|skip
  ·have h':¬(k:Int) < 4:=by omega
   have hk:k=4:=by omega
   subst hk
   (try (simp -implicitDefEqProofs only [go_sem,h']));repeat' first|(with_reducible first|exact True.intro|refine And.intro ?_ ?_|intro _)|(((with_reducible refine AM ?_ ?_)<;>intro _)<;>try (simp -implicitDefEqProofs only [go_sem,h']))|simp (disch:=omega) only [AC,AH,AK,AJ,AD,AL,AI,AA]|((with_reducible refine AU ?_);refine⟨(_,_,_),rfl,?_,?_⟩)
   all_goals first|omega|(simp;done)|(simp;omega)|skip
   all_goals (rw [←h2];rfl)
end Go.Pw
end
section
open Go Go.Pw Go.Proofs
namespace Go.Pw
set_option linter.unusedSimpArgs false
set_option linter.unusedVariables false
set_option maxRecDepth 100000
set_option maxHeartbeats 1600000
def ov (a b:F):F:=if b=0 then 0 else fm a (fi b)
theorem cz:∀a b n:F,fm n b=a→(∀m:F,m.val < n.val→fm m b≠a)→n=ov a b:=by decide +kernel
theorem aG:∀a b:F,(∀m:F,m.val < 16→fm m b≠a)→ov a b=0:=by decide +kernel
def BG (L P:Int):Bool:=decide (2≤L∧L≤15∧1≤P∧P≤8∧P < L)
def J0 (n:Int):Bool:=decide (0≤n∧n≤15)
def Au (l:List Int) (m:Int):Bool:=decide ((l.length:Int)=m) && l.all J0
def Vy (l:List Int) (m:Int) (i:Nat):Bool:=decide (0≤l[i]?.getD 0∧l[i]?.getD 0 < m∧(0 < i→l[i - 1]?.getD 0 < l[i]?.getD 0))
def Ca (l:List Int) (m:Int):Bool:=(List.range l.length).all (Vy l m)
theorem ZR {α:Type} {p:α→Bool} {l:List α} {i:Nat} {d:α} (hi:i < l.length) (h:p (l[i]?.getD d)=false):l.all p=false:=by
 rw [List.all_eq_false]
 refine⟨l[i]?.getD d,?_,by simp [h]⟩
 rw [List.getElem?_eq_getElem hi];simp
theorem bb {α:Type} {p:α→Bool} {l:List α} {d:α} (h:∀i,i < l.length→p (l[i]?.getD d)=true):l.all p=true:=by
 rw [List.all_eq_true]
 intro x hx
 obtain⟨i,hi,rfl⟩:=List.getElem_of_mem hx
 have:=h i hi
 rwa [List.getElem?_eq_getElem hi] at this
theorem Ry {l:List Int} {m:Int} {i:Nat} (hi:i < l.length) (h:Vy l m i=false):Ca l m=false:=by
 unfold Ca;rw [List.all_eq_false];exact⟨i,by simpa using hi,by simp [h]⟩
theorem ME {l:List Int} {m:Int} (h:∀i,i < l.length→Vy l m i=true):Ca l m=true:=by
 unfold Ca;rw [List.all_eq_true];intro i hi;exact h i (by simpa using hi)
def Tp (l:List Int) (n:Int):Bool:=l.contains n
theorem YN {l:List Int} {n:Int} (h:∀i,i < l.length→l[i]?.getD 0≠n):Tp l n=false:=by
 unfold Tp
 rw [List.contains_eq_any_beq,List.any_eq_false]
 intro x hx
 obtain⟨i,hi,rfl⟩:=List.getElem_of_mem hx
 have:=h i hi
 rw [List.getElem?_eq_getElem hi] at this
 simpa using fun e=>this e.symm
theorem U0 {l:List Int} {n:Int} {i:Nat} (hi:i < l.length) (h:l[i]?.getD 0=n):Tp l n=true:=by
 unfold Tp
 rw [List.contains_iff_mem,←h,List.getElem?_eq_getElem hi];simp
theorem UX:∀a:F,IntKind.u8.wrap (a.val:Int)=(a.val:Int):=by decide +kernel
theorem Py:∀a:F,IntKind.i64.wrap (a.val:Int)=(a.val:Int):=by decide +kernel
theorem Sw (a b:F):((a.val:Int)=(b.val:Int))=(a=b):=by
 simp only [eq_iff_iff]
 exact⟨fun h=>Fin.ext (by omega),fun h=>by rw [h]⟩
attribute [local congr] Ch BI BJ A0 Ci A5 A7 A6 Az Ar Am Ai A2 An A3 BR BV BT BU BS BW BO Ap A4 Aq BM Bm Ao BP BQ BN BK BL
attribute [local irreducible] IntKind.wrap A_ Option.getD and or
theorem GB (a b:F):B7 E0 Lv [.int .i64 (a.val:Int),.int .i64 (b.val:Int)] (.int .i64 ((ov a b).val:Int)):=by
 refine AQ N9 Af (by simp) fun hwf=>?_
 rw [AR];unfold KI
 (try (simp -implicitDefEqProofs only [go_sem]));repeat' first|(with_reducible first|exact True.intro|refine And.intro ?_ ?_|intro _)|(((with_reducible refine AM ?_ ?_)<;>intro _)<;>try (simp -implicitDefEqProofs only [go_sem]))|simp (disch:=omega) only [AC,AH,AK,AJ,AD,AL,AI,AA]|((with_reducible refine AW ?_);refine⟨_,rfl,?_,?_⟩)
 refine AS (α:=Nat) (l0:=?l1) (m0:=?m1) (fun x=>[(5,.d (.int .i64 (x:Int)))]) (fun x=>[]) (fun x=>x≤16∧∀m:F,m.val < x→fm m b≠a) (fun x=>16 - x) 0 ?h01 ?he1 ?he21 ?hI1 ?step1
 case h01=>(simp -implicitDefEqProofs only [go_sem];rfl)
 case he1=>rfl
 case he21=>rfl
 case' step1=>(rintro n hI;try dsimp only at hI)
 case' hI1=>try dsimp only
 ·exact⟨by omega,fun m hm=>absurd hm (by omega)⟩
 ·obtain⟨h1,h2⟩:=hI
  by_cases h:n < 16
  ·have h':(n:Int) < 16:=by omega
   have hw:IntKind.i64.wrap ((n:Int)+1)=((n+1:Nat):Int):=by rw [AC _ (by omega)];omega
   have c1:B7 E0 HN [.int .i64 (n:Int),.int .i64 (b.val:Int)] (.int .i64 ((fm ⟨n,h⟩ b).val:Int)):=ET ⟨n,h⟩ b
   by_cases he:fm ⟨n,h⟩ b=a
   ·have hov:=cz a b ⟨n,h⟩ he h2
    rw [he] at c1
    (try (simp -implicitDefEqProofs only [go_sem,h',hw]));repeat' first|(with_reducible first|exact True.intro|refine And.intro ?_ ?_|intro _)|(((with_reducible refine isCall ?_);first|refine AG (c1) rfl ?_ ?_|refine AE (c1) rfl ?_|refine AB (c1) rfl ?_ ?_|refine AF (c1) rfl rfl ?_)<;>try (simp -implicitDefEqProofs only [go_sem,h',hw]))|(((with_reducible refine AM ?_ ?_)<;>intro _)<;>try (simp -implicitDefEqProofs only [go_sem,h',hw]))|simp (disch:=omega) only [AC,AH,AK,AJ,AD,AL,AI,AA]|((with_reducible refine AW ?_);refine⟨_,rfl,?_,?_⟩)
    all_goals first|omega|(simp;done)|(simp;omega)|skip
    all_goals first|(rw [←hov];done)|(rw [←hov];rfl)|(simp at *;done)|skip
   ·have hne:¬((fm ⟨n,h⟩ b).val:Int)=(a.val:Int):=by rw [Sw];exact he
    (try (simp -implicitDefEqProofs only [go_sem,h',hw,hne]));repeat' first|(with_reducible first|exact True.intro|refine And.intro ?_ ?_|intro _)|(((with_reducible refine isCall ?_);first|refine AG (c1) rfl ?_ ?_|refine AE (c1) rfl ?_|refine AB (c1) rfl ?_ ?_|refine AF (c1) rfl rfl ?_)<;>try (simp -implicitDefEqProofs only [go_sem,h',hw,hne]))|(((with_reducible refine AM ?_ ?_)<;>intro _)<;>try (simp -implicitDefEqProofs only [go_sem,h',hw,hne]))|simp (disch:=omega) only [AC,AH,AK,AJ,AD,AL,AI,AA]|((with_reducible refine AW ?_);refine⟨_,rfl,?_,?_⟩)
    all_goals first|omega|(simp;done)|(simp;omega)|skip
    all_goals first
     |(
      rename_i m hm
      rcases Nat.lt_succ_iff_lt_or_eq.1 hm with hm|hm
      ·exact h2 m hm
      ·have:m=⟨n,h⟩:=Fin.ext hm
       rw [this];exact he)
     |skip
  ·have h':¬(n:Int) < 16:=by omega
   have hk:n=16:=by omega
   subst hk
   have hov:=aG a b h2
   (try (simp -implicitDefEqProofs only [go_sem,h',hov]));repeat' first|(with_reducible first|exact True.intro|refine And.intro ?_ ?_|intro _)|(((with_reducible refine AM ?_ ?_)<;>intro _)<;>try (simp -implicitDefEqProofs only [go_sem,h',hov]))|simp (disch:=omega) only [AC,AH,AK,AJ,AD,AL,AI,AA]|((with_reducible refine AW ?_);refine⟨_,rfl,?_,?_⟩)
   all_goals first|omega|(simp;done)|(simp;omega)|skip
   all_goals rfl
theorem DD (n lo hi:Int):B7 E0 Gf [.int .i64 n,.int .i64 lo,.int .i64 hi] (.bool (decide (lo≤n∧n≤hi))):=by
 refine AQ MI Af (by simp) fun hwf=>?_
 rw [AR];unfold IS
 (try (simp -implicitDefEqProofs only [go_sem]));repeat' first|(with_reducible first|exact True.intro|refine And.intro ?_ ?_|intro _)|(((with_reducible refine AM ?_ ?_)<;>intro _)<;>try (simp -implicitDefEqProofs only [go_sem]))|simp (disch:=omega) only [AC,AH,AK,AJ,AD,AL,AI,AA]
 all_goals first|omega|(simp_all;done)|(simp_all;omega)
theorem CN (L P:Int):B7 E0 Ie [.agg [.int .i64 L,.int .i64 P]] (.int .i64 (if BG L P then 0 else 50)):=by
 refine AQ Lf Af (by simp) fun hwf=>?_
 rw [AR];unfold HZ BG
 (try (simp -implicitDefEqProofs only [go_sem]));repeat' first|(with_reducible first|exact True.intro|refine And.intro ?_ ?_|intro _)|(((with_reducible refine AM ?_ ?_)<;>intro _)<;>try (simp -implicitDefEqProofs only [go_sem]))|simp (disch:=omega) only [AC,AH,AK,AJ,AD,AL,AI,AA]
 all_goals first|omega|(simp_all;done)|(simp_all;omega)|grind
theorem DX (L P:Int):B7 E0 KR [.agg [.int .i64 L,.int .i64 P]] (.int .i64 (if BG L P then 0 else 50)):=by
 refine AQ M7 Af (by simp) fun hwf=>?_
 rw [AR];unfold I' BG
 have c1:=DD
 (try (simp -implicitDefEqProofs only [go_sem]));repeat' first|(with_reducible first|exact True.intro|refine And.intro ?_ ?_|intro _)|(((with_reducible refine isCall ?_);first|refine AG (c1 _ _ _) rfl ?_ ?_|refine AE (c1 _ _ _) rfl ?_|refine AB (c1 _ _ _) rfl ?_ ?_|refine AF (c1 _ _ _) rfl rfl ?_)<;>try (simp -implicitDefEqProofs only [go_sem]))|(((with_reducible refine AM ?_ ?_)<;>intro _)<;>try (simp -implicitDefEqProofs only [go_sem]))|simp (disch:=omega) only [AC,AH,AK,AJ,AD,AL,AI,AA]
 all_goals first|omega|(simp_all;done)|(simp_all;omega)|grind
theorem Lm (n:Int):B7 E0 De [.int .i64 n] (.bool (!J0 n)):=by
 refine AQ Le Af (by simp) fun hwf=>?_
 rw [AR];unfold HY J0
 (try (simp -implicitDefEqProofs only [go_sem]));repeat' first|(with_reducible first|exact True.intro|refine And.intro ?_ ?_|intro _)|(((with_reducible refine AM ?_ ?_)<;>intro _)<;>try (simp -implicitDefEqProofs only [go_sem]))|simp (disch:=omega) only [AC,AH,AK,AJ,AD,AL,AI,AA]
 all_goals first|omega|(simp_all;done)|(simp_all;omega)|grind
theorem UM:B0 E0.P De=true:=by kernel_rfl
theorem Gc:B0 E0.P DB=true:=by kernel_rfl
theorem Gb:B0 E0.P DA=true:=by kernel_rfl
theorem IH:B0 E0.P Ce=true:=by kernel_rfl
theorem Lr (nl:Bool) (xs:List Int) (f:FuncId) (cs:List D) (p:Int→Bool) (hb:B0 E0.P f=true) (hcs:Ah AV.toD1 (cs.map .d)=some cs) (h:∀x,x∈xs→B7 E0 f (.int .i64 x :: cs) (.bool (p x))) :
  B7 E0 D9 [.list nl (AY xs),.fn f cs] (.int .i64 (match xs.findIdx? p with|some i=>i|none=>-1)):=by
 refine AQ Ft Af (by simp) fun hwf=>?_
 simp only [F8,FR,FQ,En,HD,HC,KD,HB,Cg,C4,C5,FT,Dh,List.length_map,Da,true_and,and_true] at hwf
 rw [AR];unfold Dt
 simp -implicitDefEqProofs only [go_sem]
 refine AS (α:=Int) (l0:=?l2) (m0:=?m2) (fun x=>[(8,.d (.int .i64 x))]) (fun x=>[]) (fun x=>0≤x∧x≤xs.length∧∀(j:Nat) (hj:j < xs.length),(j:Int) < x→p xs[j]=false) (fun x=>(xs.length - x).toNat) ?a2_0 ?h02 ?he2 ?he22 ?hI2 ?step2
 case h02=>(simp -implicitDefEqProofs only [go_sem];rfl)
 case he2=>rfl
 case he22=>rfl
 case' step2=>(rintro i hI;try dsimp only at hI)
 case' hI2=>try dsimp only
 ·simp
  omega
 ·(try (simp -implicitDefEqProofs only [go_sem]));repeat' first|(with_reducible first|exact True.intro|refine And.intro ?_ ?_|intro _)|(((with_reducible refine AM ?_ ?_)<;>intro _)<;>try (simp -implicitDefEqProofs only [go_sem]))|simp (disch:=omega) only [AC,AH,AK,AJ,AD,AL,AI,AA]|((with_reducible refine AW ?_);refine⟨_,rfl,?_,?_⟩)
  all_goals first|omega|(simp;done)|(simp;omega)|skip
  ·have hx:xs[i.toNat]?.getD 0=xs[i.toNat]'(by omega):=by rw [List.getElem?_eq_getElem (by omega),Option.getD_some]
   rw [hx]
   refine AG (h _ (List.getElem_mem _)) (SZ rfl hcs) (fun hp=>?_) (fun hp=>?_)
   ·simp -implicitDefEqProofs only [go_sem]
    have:xs.findIdx? p=some i.toNat:=by rw [List.findIdx?_eq_some_iff_getElem];exact⟨by omega,hp,fun j hj=>by simp [hI.2.2 j (by omega) (by omega)]⟩
    rw [this];simp;omega
   ·(try (simp -implicitDefEqProofs only [go_sem]));repeat' first|(with_reducible first|exact True.intro|refine And.intro ?_ ?_|intro _)|(((with_reducible refine AM ?_ ?_)<;>intro _)<;>try (simp -implicitDefEqProofs only [go_sem]))|simp (disch:=omega) only [AC,AH,AK,AJ,AD,AL,AI,AA]|((with_reducible refine AW ?_);refine⟨_,rfl,?_,?_⟩)
    all_goals first|omega|(simp;done)|(simp;omega)|skip
    rename_i j hj hlt
    by_cases hjk:j=i.toNat
    ·subst hjk;exact hp
    ·exact hI.2.2 j hj (by omega)
  ·have:xs.findIdx? p=none:=by
    rw [List.findIdx?_eq_none_iff];intro x hx;obtain⟨j,hj,rfl⟩:=List.getElem_of_mem hx;exact hI.2.2 j hj (by omega)
   rw [this]
theorem Jf (nl:Bool) (xs:List Int) (f:FuncId) (cs:List D) (p:Int→Bool) (hb:B0 E0.P f=true) (hcs:Ah AV.toD1 (cs.map .d)=some cs) (h:∀x,x∈xs→B7 E0 f (.int .i64 x :: cs) (.bool (p x))) :
  B7 E0 CI [.list nl (AY xs),.fn f cs] (.bool (xs.any p)):=by
 refine AQ E' Af (by simp) fun hwf=>?_
 rw [AR];unfold DE
 simp -implicitDefEqProofs only [go_sem]
 refine AE (Lr nl xs f cs p hb hcs h) rfl ?_
 simp -implicitDefEqProofs only [go_sem]
 have key:(0:Int)≤(match xs.findIdx? p with|some i=>(i:Int)|none=>-1)↔xs.any p=true:=by
  cases hf:xs.findIdx? p with
  |none=>rw [List.findIdx?_eq_none_iff] at hf;simp;intro x hx;simp [hf x hx]
  |some i=>rw [List.findIdx?_eq_some_iff_getElem] at hf;simp;exact⟨_,List.getElem_mem hf.1,hf.2.1⟩
 grind
theorem ba (xs:List Int) (p:Int→Bool):(!xs.any fun n=>!p n)=xs.all p:=by
 rw [List.all_eq_not_any_not]
theorem EU (nl:Bool) (xs:List Int) (m:Int):B7 E0 KY [.list nl (AY xs),.int .i64 m] (.bool (Au xs m)):=by
 refine AQ NC Af (by simp) fun hwf=>?_
 rw [AR];unfold JF
 have c1:B7 E0 CI [.list nl (AY xs),.fn De []] (.bool (xs.any fun n=>!J0 n)) :=
  Jf nl xs De [] (fun n=>!J0 n) UM rfl fun x _=>Lm x
 have ha:=ba xs J0
 by_cases hm:(xs.length:Int)=m
 ·have hs:Au xs m=xs.all J0:=by unfold Au;simp [hm]
  rw [hs]
  cases hx:xs.any fun n=>!J0 n with
  |true =>
   rw [hx] at c1 ha
   (try (simp -implicitDefEqProofs only [go_sem,hm]));repeat' first|(with_reducible first|exact True.intro|refine And.intro ?_ ?_|intro _)|(((with_reducible refine isCall ?_);first|refine AG (c1) rfl ?_ ?_|refine AE (c1) rfl ?_|refine AB (c1) rfl ?_ ?_|refine AF (c1) rfl rfl ?_)<;>try (simp -implicitDefEqProofs only [go_sem,hm]))|(((with_reducible refine AM ?_ ?_)<;>intro _)<;>try (simp -implicitDefEqProofs only [go_sem,hm]))|simp (disch:=omega) only [AC,AH,AK,AJ,AD,AL,AI,AA]
   all_goals first|(rw [←ha];done)|(rw [←ha];rfl)|(simp at *;done)|omega
  |false =>
   rw [hx] at c1 ha
   (try (simp -implicitDefEqProofs only [go_sem,hm]));repeat' first|(with_reducible first|exact True.intro|refine And.intro ?_ ?_|intro _)|(((with_reducible refine isCall ?_);first|refine AG (c1) rfl ?_ ?_|refine AE (c1) rfl ?_|refine AB (c1) rfl ?_ ?_|refine AF (c1) rfl rfl ?_)<;>try (simp -implicitDefEqProofs only [go_sem,hm]))|(((with_reducible refine AM ?_ ?_)<;>intro _)<;>try (simp -implicitDefEqProofs only [go_sem,hm]))|simp (disch:=omega) only [AC,AH,AK,AJ,AD,AL,AI,AA]
   all_goals first|(rw [←ha];done)|(rw [←ha];rfl)|(simp at *;done)|omega
 ·have hs:Au xs m=false:=by unfold Au;simp [hm]
  rw [hs]
  (try (simp -implicitDefEqProofs only [go_sem,hm]));repeat' first|(with_reducible first|exact True.intro|refine And.intro ?_ ?_|intro _)|(((with_reducible refine AM ?_ ?_)<;>intro _)<;>try (simp -implicitDefEqProofs only [go_sem,hm]))|simp (disch:=omega) only [AC,AH,AK,AJ,AD,AL,AI,AA]
  all_goals first|rfl|(simp at *;done)|omega
theorem Al (nl:Bool) (xs:List Int) (m:Int):B7 E0 Gk [.list nl (AY xs),.int .i64 m] (.bool (Au xs m)):=by
 refine AQ JU Af (by simp) fun hwf=>?_
 simp only [F8,FR,FQ,En,HD,HC,KD,HB,Cg,C4,C5,FT,Dh,List.length_map,Da,true_and,and_true] at hwf
 rw [AR];unfold Fv
 (try (simp -implicitDefEqProofs only [go_sem]));repeat' first|(with_reducible first|exact True.intro|refine And.intro ?_ ?_|intro _)|(((with_reducible refine AM ?_ ?_)<;>intro _)<;>try (simp -implicitDefEqProofs only [go_sem]))|simp (disch:=omega) only [AC,AH,AK,AJ,AD,AL,AI,AA]|((with_reducible refine AW ?_);refine⟨_,rfl,?_,?_⟩)
 refine AS (α:=Nat) (l0:=?l3) (m0:=?m3) (fun x=>[(5,.d (.int .i64 (x:Int)))]) (fun x=>[]) (fun x=>x≤xs.length∧∀j,j < x→J0 (xs[j]?.getD 0)=true) (fun x=>xs.length - x) 0 ?h03 ?he3 ?he23 ?hI3 ?step3
 case h03=>(simp -implicitDefEqProofs only [go_sem];rfl)
 case he3=>rfl
 case he23=>rfl
 case' step3=>(rintro i hI;try dsimp only at hI)
 case' hI3=>try dsimp only
 ·exact⟨by omega,fun j hj=>absurd hj (by omega)⟩
 ·obtain⟨h1,h2⟩:=hI
  by_cases h:i < xs.length
  ·have h':(i:Int) < (xs.length:Int):=by omega
   have hw:IntKind.i64.wrap ((i:Int)+1)=((i+1:Nat):Int):=by rw [AC _ (by omega)];omega
   have c1:B7 E0 Gf [.int .i64 (xs[i]?.getD 0),.int .i64 0,.int .i64 15] (.bool (J0 (xs[i]?.getD 0))):=DD _ _ _
   cases hb:J0 (xs[i]?.getD 0) with
   |true =>
    rw [hb] at c1
    (try (simp -implicitDefEqProofs only [go_sem,h',hw]));repeat' first|(with_reducible first|exact True.intro|refine And.intro ?_ ?_|intro _)|(((with_reducible refine isCall ?_);first|refine AG (c1) rfl ?_ ?_|refine AE (c1) rfl ?_|refine AB (c1) rfl ?_ ?_|refine AF (c1) rfl rfl ?_)<;>try (simp -implicitDefEqProofs only [go_sem,h',hw]))|(((with_reducible refine AM ?_ ?_)<;>intro _)<;>try (simp -implicitDefEqProofs only [go_sem,h',hw]))|simp (disch:=omega) only [AC,AH,AK,AJ,AD,AL,AI,AA]|((with_reducible refine AW ?_);refine⟨_,rfl,?_,?_⟩)
    all_goals first|omega|(simp;done)|(simp;omega)|skip
    all_goals first
     |(
      rename_i j hj
      rcases Nat.lt_succ_iff_lt_or_eq.1 hj with hj|rfl
      ·exact h2 j hj
      ·exact hb)
     |skip
   |false =>
    rw [hb] at c1
    have hs:Au xs m=false:=by unfold Au;rw [ZR h hb];simp
    (try (simp -implicitDefEqProofs only [go_sem,h',hw,hs]));repeat' first|(with_reducible first|exact True.intro|refine And.intro ?_ ?_|intro _)|(((with_reducible refine isCall ?_);first|refine AG (c1) rfl ?_ ?_|refine AE (c1) rfl ?_|refine AB (c1) rfl ?_ ?_|refine AF (c1) rfl rfl ?_)<;>try (simp -implicitDefEqProofs only [go_sem,h',hw,hs]))|(((with_reducible refine AM ?_ ?_)<;>intro _)<;>try (simp -implicitDefEqProofs only [go_sem,h',hw,hs]))|simp (disch:=omega) only [AC,AH,AK,AJ,AD,AL,AI,AA]|((with_reducible refine AW ?_);refine⟨_,rfl,?_,?_⟩)
    all_goals first|omega|(simp;done)|(simp;omega)|skip
  ·have h':¬(i:Int) < (xs.length:Int):=by omega
   have hk:i=xs.length:=by omega
   have hs:Au xs m=decide ((xs.length:Int)=m):=by unfold Au;rw [bb (d:=0) (fun j hj=>h2 j (by omega))];simp
   (try (simp -implicitDefEqProofs only [go_sem,h',hs]));repeat' first|(with_reducible first|exact True.intro|refine And.intro ?_ ?_|intro _)|(((with_reducible refine AM ?_ ?_)<;>intro _)<;>try (simp -implicitDefEqProofs only [go_sem,h',hs]))|simp (disch:=omega) only [AC,AH,AK,AJ,AD,AL,AI,AA]|((with_reducible refine AW ?_);refine⟨_,rfl,?_,?_⟩)
   all_goals first|omega|(simp;done)|(simp;omega)|skip
   all_goals rfl
theorem GR (nl:Bool) (xs:List Int) (m:Int):B7 E0 Hs [.list nl (AY xs),.int .i64 m] (.bool (Ca xs m)):=by
  refine AQ Ks Af (by simp) fun hwf=>?_
  simp only [F8,FR,FQ,En,HD,HC,KD,HB,Cg,C4,C5,FT,Dh,List.length_map,Da,true_and,and_true] at hwf
  rw [AR];unfold Gw
  (try (simp -implicitDefEqProofs only [go_sem]));repeat' first|(with_reducible first|exact True.intro|refine And.intro ?_ ?_|intro _)|(((with_reducible refine AM ?_ ?_)<;>intro _)<;>try (simp -implicitDefEqProofs only [go_sem]))|simp (disch:=omega) only [AC,AH,AK,AJ,AD,AL,AI,AA]|((with_reducible refine AW ?_);refine⟨_,rfl,?_,?_⟩)
  refine AS (α:=Nat) (l0:=?l4) (m0:=?m4) (fun x=>[(9,.d (.int .i64 (x:Int)))]) (fun x=>[]) (fun x=>x≤xs.length∧∀j,j < x→Vy xs m j=true) (fun x=>xs.length - x) 0 ?h04 ?he4 ?he24 ?hI4 ?step4
  case h04=>(simp -implicitDefEqProofs only [go_sem];rfl)
  case he4=>rfl
  case he24=>rfl
  case' step4=>(rintro i hI;try dsimp only at hI)
  case' hI4=>try dsimp only
  · exact⟨by omega,fun j hj=>absurd hj (by omega)⟩
  · obtain⟨h1,h2⟩:=hI
    by_cases h:i < xs.length
    · have h':(i:Int) < (xs.length:Int):=by omega
      have hw:IntKind.i64.wrap ((i:Int)+1)=((i+1:Nat):Int):=by rw [AC _ (by omega)];omega
      cases hb:Vy xs m i with
      |true =>
        have hb2:=hb
        unfold Vy at hb2
        simp only [decide_eq_true_eq] at hb2
        obtain⟨k1,k2,k3⟩:=hb2
        have q1:¬xs[i]?.getD 0 < 0:=by omega
        have q2:¬m≤xs[i]?.getD 0:=by omega
        by_cases h0:0 < i
        · have h0':(0:Int) < (i:Int):=by omega
          have k4:=k3 h0
          have q3:¬xs[i]?.getD 0≤xs[i - 1]?.getD 0:=by omega
          have hw2:IntKind.i64.wrap ((i:Int) - 1)=((i - 1:Nat):Int):=by rw [AC _ (by omega)];omega
          (try (simp -implicitDefEqProofs only [go_sem,h',hw,hw2,q1,q2,h0',q3]));repeat' first|(with_reducible first|exact True.intro|refine And.intro ?_ ?_|intro _)|(((with_reducible refine AM ?_ ?_)<;>intro _)<;>try (simp -implicitDefEqProofs only [go_sem,h',hw,hw2,q1,q2,h0',q3]))|simp (disch:=omega) only [AC,AH,AK,AJ,AD,AL,AI,AA]|((with_reducible refine AW ?_);refine⟨_,rfl,?_,?_⟩)
          all_goals first|omega|(simp;done)|(simp;omega)|skip
          all_goals first
            |(
               rename_i j hj
               rcases Nat.lt_succ_iff_lt_or_eq.1 hj with hj|rfl
               · exact h2 j hj
               · exact hb)
            |(simp at *;done)|(simp at *;omega)|skip
        · have h0':¬(0:Int) < (i:Int):=by omega
          (try (simp -implicitDefEqProofs only [go_sem,h',hw,q1,q2,h0']));repeat' first|(with_reducible first|exact True.intro|refine And.intro ?_ ?_|intro _)|(((with_reducible refine AM ?_ ?_)<;>intro _)<;>try (simp -implicitDefEqProofs only [go_sem,h',hw,q1,q2,h0']))|simp (disch:=omega) only [AC,AH,AK,AJ,AD,AL,AI,AA]|((with_reducible refine AW ?_);refine⟨_,rfl,?_,?_⟩)
          all_goals first|omega|(simp;done)|(simp;omega)|skip
          all_goals first
            |(
               rename_i j hj
               rcases Nat.lt_succ_iff_lt_or_eq.1 hj with hj|rfl
               · exact h2 j hj
               · exact hb)
            |(simp at *;done)|(simp at *;omega)|skip
      |false =>
        have hs:=Ry h hb
        unfold Vy at hb
        simp only [decide_eq_false_iff_not] at hb
        have hw2:0 < i→IntKind.i64.wrap ((i:Int) - 1)=((i - 1:Nat):Int):=fun _=>by rw [AC _ (by omega)];omega
        by_cases q1:xs[i]?.getD 0 < 0
        · (try (simp -implicitDefEqProofs only [go_sem,h',hw,q1,hs]));repeat' first|(with_reducible first|exact True.intro|refine And.intro ?_ ?_|intro _)|(((with_reducible refine AM ?_ ?_)<;>intro _)<;>try (simp -implicitDefEqProofs only [go_sem,h',hw,q1,hs]))|simp (disch:=omega) only [AC,AH,AK,AJ,AD,AL,AI,AA]|((with_reducible refine AW ?_);refine⟨_,rfl,?_,?_⟩)
          all_goals first|omega|(simp;done)|(simp;omega)|skip
        · by_cases q2:m≤xs[i]?.getD 0
          · (try (simp -implicitDefEqProofs only [go_sem,h',hw,q1,q2,hs]));repeat' first|(with_reducible first|exact True.intro|refine And.intro ?_ ?_|intro _)|(((with_reducible refine AM ?_ ?_)<;>intro _)<;>try (simp -implicitDefEqProofs only [go_sem,h',hw,q1,q2,hs]))|simp (disch:=omega) only [AC,AH,AK,AJ,AD,AL,AI,AA]|((with_reducible refine AW ?_);refine⟨_,rfl,?_,?_⟩)
            all_goals first|omega|(simp;done)|(simp;omega)|skip
          · have h0:0 < i:=by
              by_cases h0:0 < i
              · exact h0
              · exact absurd ⟨by omega,by omega,fun h=>absurd h h0⟩ hb
            have h0':(0:Int) < (i:Int):=by omega
            have q3:xs[i]?.getD 0≤xs[i - 1]?.getD 0:=by
              by_cases q3:xs[i]?.getD 0≤xs[i - 1]?.getD 0
              · exact q3
              · exact absurd ⟨by omega,by omega,fun h=>by omega⟩ hb
            (try (simp -implicitDefEqProofs only [go_sem,h',hw,hw2 h0,q1,q2,h0',q3,hs]));repeat' first|(with_reducible first|exact True.intro|refine And.intro ?_ ?_|intro _)|(((with_reducible refine AM ?_ ?_)<;>intro _)<;>try (simp -implicitDefEqProofs only [go_sem,h',hw,hw2 h0,q1,q2,h0',q3,hs]))|simp (disch:=omega) only [AC,AH,AK,AJ,AD,AL,AI,AA]|((with_reducible refine AW ?_);refine⟨_,rfl,?_,?_⟩)
            all_goals first|omega|(simp;done)|(simp;omega)|skip
            all_goals first|(simp at *;done)|(simp at *;omega)|skip
    · have h':¬(i:Int) < (xs.length:Int):=by omega
      have hs:Ca xs m=true:=ME fun j hj=>h2 j (by omega)
      (try (simp -implicitDefEqProofs only [go_sem,h',hs]));repeat' first|(with_reducible first|exact True.intro|refine And.intro ?_ ?_|intro _)|(((with_reducible refine AM ?_ ?_)<;>intro _)<;>try (simp -implicitDefEqProofs only [go_sem,h',hs]))|simp (disch:=omega) only [AC,AH,AK,AJ,AD,AL,AI,AA]|((with_reducible refine AW ?_);refine⟨_,rfl,?_,?_⟩)
      all_goals first|omega|(simp;done)|(simp;omega)|skip
end Go.Pw
end
