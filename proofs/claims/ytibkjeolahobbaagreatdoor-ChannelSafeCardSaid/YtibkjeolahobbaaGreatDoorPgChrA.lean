/- A part of the proof. -/
import Derived.Test.YtibkjeolahobbaaGreatDoorChPC
import Derived.Test.YtibkjeolahobbaaGreatDoorCorrectSpec
set_option linter.all false
section
open Go Go.Pw Go.Proofs
namespace Go.Pw
set_option linter.unusedSimpArgs false
set_option linter.unusedVariables false
set_option maxRecDepth 100000
set_option maxHeartbeats 1600000
theorem ac (n:Nat):(Int.tmod (n:Int) 15)=((n % 15:Nat):Int):=by rw [Int.tmod_eq_emod_of_nonneg (by omega)];omega
def nI:Nat→F→Nat→F→F
 |0,_,_,n=>n
 |k+1,a,b,n=>nI k (fm 2 a) (b / 2) (if b % 2=1 then fa n a else n)
attribute [local congr] Bh A_ A' Ap Bi Av Ax Aw Ao Ah Ab AZ Ar Ac As BI BM BK BL BJ BN BF Af Au Ag BD BQ Ae BG BH BE BB BC A9 BA Aq Ad
attribute [local irreducible] IntKind.wrap A5 Option.getD and or
theorem EG (n:Nat) (hn:n≤1000000):CF E0 Jm [.int .i64 n] (.int .u8 ((gp n).val:Int)):=by
 refine AO M9 Am (by simp) fun hwf=>?_
 rw [AW];unfold IK
 (try (simp -implicitDefEqProofs only [go_sem,ac,Xe]));repeat' first|(with_reducible first|exact True.intro|refine And.intro ?_ ?_|intro _)|(((with_reducible refine AS ?_ ?_)<;>intro _)<;>try (simp -implicitDefEqProofs only [go_sem,ac,Xe]))|simp (disch:=omega) only [AC,AH,AP,AJ,AD,AQ,AI,AA]
 all_goals first|omega|(simp;done)|(simp;omega)|skip
theorem LO (a:F):CF E0 Ey [.int .u8 (a.val:Int)] (.int .u8 ((fi a).val:Int)):=by
 refine AO G5 Am (by simp) fun hwf=>?_
 rw [AW];unfold EZ fi
 have hl:=cK a
 have hv:=SD a
 have hw:IntKind.i64.wrap (15 - (lg a:Int))=((15 - lg a:Nat):Int):=by rw [AC _ (by omega)];omega
 have c1:=EG (15 - lg a) (by omega)
 (try (simp -implicitDefEqProofs only [go_sem,hw]));repeat' first|(with_reducible first|exact True.intro|refine And.intro ?_ ?_|intro _)|(((with_reducible refine isCall ?_);first|refine AF (c1) rfl ?_ ?_|refine AE (c1) rfl ?_|refine AB (c1) rfl ?_ ?_|refine AG (c1) rfl rfl ?_)<;>try (simp -implicitDefEqProofs only [go_sem,hw]))|(((with_reducible refine AS ?_ ?_)<;>intro _)<;>try (simp -implicitDefEqProofs only [go_sem,hw]))|simp (disch:=omega) only [AC,AH,AP,AJ,AD,AQ,AI,AA]
 all_goals first|omega|(simp;done)|(simp;omega)|skip
theorem DN (a b:F):CF E0 Fa [.int .u8 (a.val:Int),.int .u8 (b.val:Int)] (.int .u8 ((fm a b).val:Int)):=by
 refine AO Hx Am (by simp) fun hwf=>?_
 rw [AW];unfold E9
 have hl:=cK a
 have hl2:=cK b
 have hv:=SD a
 have hv2:=SD b
 have hw:IntKind.i64.wrap ((lg a:Int)+(lg b:Int))=((lg a+lg b:Nat):Int):=by rw [AC _ (by omega)];omega
 have c1:=EG (lg a+lg b) (by omega)
 by_cases ha:a=0
 ·subst ha
  (try (simp -implicitDefEqProofs only [go_sem,CS]));repeat' first|(with_reducible first|exact True.intro|refine And.intro ?_ ?_|intro _)|(((with_reducible refine AS ?_ ?_)<;>intro _)<;>try (simp -implicitDefEqProofs only [go_sem,CS]))|simp (disch:=omega) only [AC,AH,AP,AJ,AD,AQ,AI,AA]
  all_goals first|rfl|(simp at *;done)
 ·by_cases hb:b=0
  ·subst hb
   (try (simp -implicitDefEqProofs only [go_sem,DZ,ha]));repeat' first|(with_reducible first|exact True.intro|refine And.intro ?_ ?_|intro _)|(((with_reducible refine AS ?_ ?_)<;>intro _)<;>try (simp -implicitDefEqProofs only [go_sem,DZ,ha]))|simp (disch:=omega) only [AC,AH,AP,AJ,AD,AQ,AI,AA]
   all_goals first|rfl|(simp at *;done)
  ·have hf:fm a b=gp (lg a+lg b):=by unfold fm;rw [if_neg (by simp [ha,hb])]
   (try (simp -implicitDefEqProofs only [go_sem,hw,ha,hb,hf]));repeat' first|(with_reducible first|exact True.intro|refine And.intro ?_ ?_|intro _)|(((with_reducible refine isCall ?_);first|refine AF (c1) rfl ?_ ?_|refine AE (c1) rfl ?_|refine AB (c1) rfl ?_ ?_|refine AG (c1) rfl rfl ?_)<;>try (simp -implicitDefEqProofs only [go_sem,hw,ha,hb,hf]))|(((with_reducible refine AS ?_ ?_)<;>intro _)<;>try (simp -implicitDefEqProofs only [go_sem,hw,ha,hb,hf]))|simp (disch:=omega) only [AC,AH,AP,AJ,AD,AQ,AI,AA]
   all_goals first|omega|(simp;done)|(simp;omega)|skip
   all_goals first|rfl|(simp at *;done)
end Go.Pw
end
section
open Go Go.Pw Go.Proofs
namespace Go.Pw
set_option linter.unusedSimpArgs false
set_option linter.unusedVariables false
set_option maxRecDepth 100000
set_option maxHeartbeats 1600000
def S_ (L P:Nat):D:=.agg [.int .i64 L,.int .i64 P]
theorem Bm (L P:Nat):S_ L P=.agg [.int .i64 L,.int .i64 P]:=rfl
attribute [local congr] Bh A_ A' Ap Bi Av Ax Aw Ao Ah Ab AZ Ar Ac As BI BM BK BL BJ BN BF Af Au Ag BD BQ Ae BG BH BE BB BC A9 BA Aq Ad
attribute [local irreducible] IntKind.wrap A5 Option.getD and or
theorem G9 (L P i j:Nat) (hL:L≤100) (hi:i≤100) (hj:j < L):CF E0 Fn [S_ L P,.int .i64 i,.int .i64 j] (.int .u8 ((gp (i * (L - 1 - j))).val:Int)):=by
 refine AO IX Am (by simp) fun hwf=>?_
 rw [AW];unfold FK
 have hb:i * (L - 1 - j)≤100 * 100:=Nat.mul_le_mul hi (by omega)
 have hw1:IntKind.i64.wrap ((L:Int) - 1)=((L - 1:Nat):Int):=by rw [AC _ (by omega)];omega
 have hw2:IntKind.i64.wrap (((L - 1:Nat):Int) - (j:Int))=((L - 1 - j:Nat):Int):=by rw [AC _ (by omega)];omega
 have hw3:IntKind.i64.wrap ((i:Int) * ((L - 1 - j:Nat):Int))=((i * (L - 1 - j):Nat):Int):=by rw [←Int.natCast_mul,AC _ (by omega)]
 have c1:=EG (i * (L - 1 - j)) (by omega)
 (try (simp -implicitDefEqProofs only [go_sem,Bm,hw1,hw2,hw3]));repeat' first|(with_reducible first|exact True.intro|refine And.intro ?_ ?_|intro _)|(((with_reducible refine isCall ?_);first|refine AF (c1) rfl ?_ ?_|refine AE (c1) rfl ?_|refine AB (c1) rfl ?_ ?_|refine AG (c1) rfl rfl ?_)<;>try (simp -implicitDefEqProofs only [go_sem,Bm,hw1,hw2,hw3]))|(((with_reducible refine AS ?_ ?_)<;>intro _)<;>try (simp -implicitDefEqProofs only [go_sem,Bm,hw1,hw2,hw3]))|simp (disch:=omega) only [AC,AH,AP,AJ,AD,AQ,AI,AA]
 all_goals first|omega|(simp;done)|(simp;omega)|skip
end Go.Pw
end
section
open Go Go.Pw Go.Proofs
namespace Go.Pw
set_option linter.unusedSimpArgs false
set_option linter.unusedVariables false
set_option maxRecDepth 100000
set_option maxHeartbeats 1600000
def ov (a b:F):F:=if b=0 then 0 else fm a (fi b)
def DP (L P:Int):Bool:=decide (2≤L∧L≤15∧1≤P∧P≤8∧P < L)
def J4 (n:Int):Bool:=decide (0≤n∧n≤15)
def CG (l:List Int) (m:Int):Bool:=decide ((l.length:Int)=m) && l.all J4
def gI (l:List Int) (m:Int) (i:Nat):Bool:=decide (0≤l[i]?.getD 0∧l[i]?.getD 0 < m∧(0 < i→l[i - 1]?.getD 0 < l[i]?.getD 0))
def D9 (l:List Int) (m:Int):Bool:=(List.range l.length).all (gI l m)
theorem d9 {α:Type} {p:α→Bool} {l:List α} {i:Nat} {d:α} (hi:i < l.length) (h:p (l[i]?.getD d)=false):l.all p=false:=by
 rw [List.all_eq_false]
 refine⟨l[i]?.getD d,?_,by simp [h]⟩
 rw [List.getElem?_eq_getElem hi];simp
theorem ia {α:Type} {p:α→Bool} {l:List α} {d:α} (h:∀i,i < l.length→p (l[i]?.getD d)=true):l.all p=true:=by
 rw [List.all_eq_true]
 intro x hx
 obtain⟨i,hi,rfl⟩:=List.getElem_of_mem hx
 have:=h i hi
 rwa [List.getElem?_eq_getElem hi] at this
theorem b_ {l:List Int} {m:Int} {i:Nat} (hi:i < l.length) (h:gI l m i=false):D9 l m=false:=by
 unfold D9;rw [List.all_eq_false];exact⟨i,by simpa using hi,by simp [h]⟩
theorem Ri {l:List Int} {m:Int} (h:∀i,i < l.length→gI l m i=true):D9 l m=true:=by
 unfold D9;rw [List.all_eq_true];intro i hi;exact h i (by simpa using hi)
def gc (l:List Int) (n:Int):Bool:=l.contains n
theorem kO {l:List Int} {n:Int} (h:∀i,i < l.length→l[i]?.getD 0≠n):gc l n=false:=by
 unfold gc
 rw [List.contains_eq_any_beq,List.any_eq_false]
 intro x hx
 obtain⟨i,hi,rfl⟩:=List.getElem_of_mem hx
 have:=h i hi
 rw [List.getElem?_eq_getElem hi] at this
 simpa using fun e=>this e.symm
theorem gb {l:List Int} {n:Int} {i:Nat} (hi:i < l.length) (h:l[i]?.getD 0=n):gc l n=true:=by
 unfold gc
 rw [List.contains_iff_mem,←h,List.getElem?_eq_getElem hi];simp
theorem i8:∀a:F,IntKind.u8.wrap (a.val:Int)=(a.val:Int):=by decide +kernel
theorem aL:∀a:F,IntKind.i64.wrap (a.val:Int)=(a.val:Int):=by decide +kernel
attribute [local congr] Bh A_ A' Ap Bi Av Ax Aw Ao Ah Ab AZ Ar Ac As BI BM BK BL BJ BN BF Af Au Ag BD BQ Ae BG BH BE BB BC A9 BA Aq Ad
attribute [local irreducible] IntKind.wrap A5 Option.getD and or
theorem Fs (n lo hi:Int):CF E0 HG [.int .i64 n,.int .i64 lo,.int .i64 hi] (.bool (decide (lo≤n∧n≤hi))):=by
 refine AO N2 Am (by simp) fun hwf=>?_
 rw [AW];unfold JS
 (try (simp -implicitDefEqProofs only [go_sem]));repeat' first|(with_reducible first|exact True.intro|refine And.intro ?_ ?_|intro _)|(((with_reducible refine AS ?_ ?_)<;>intro _)<;>try (simp -implicitDefEqProofs only [go_sem]))|simp (disch:=omega) only [AC,AH,AP,AJ,AD,AQ,AI,AA]
 all_goals first|omega|(simp_all;done)|(simp_all;omega)
theorem Hk (L P:Int):CF E0 Jn [.agg [.int .i64 L,.int .i64 P]] (.int .i64 (if DP L P then 0 else 50)):=by
 refine AO NA Am (by simp) fun hwf=>?_
 rw [AW];unfold IM DP
 (try (simp -implicitDefEqProofs only [go_sem]));repeat' first|(with_reducible first|exact True.intro|refine And.intro ?_ ?_|intro _)|(((with_reducible refine AS ?_ ?_)<;>intro _)<;>try (simp -implicitDefEqProofs only [go_sem]))|simp (disch:=omega) only [AC,AH,AP,AJ,AD,AQ,AI,AA]
 all_goals first|omega|(simp_all;done)|(simp_all;omega)|grind
theorem Oj (L P:Int):CF E0 Lk [.agg [.int .i64 L,.int .i64 P]] (.int .i64 (if DP L P then 0 else 50)):=by
 refine AO Ou Am (by simp) fun hwf=>?_
 rw [AW];unfold KH DP
 have c1:=Fs
 (try (simp -implicitDefEqProofs only [go_sem]));repeat' first|(with_reducible first|exact True.intro|refine And.intro ?_ ?_|intro _)|(((with_reducible refine isCall ?_);first|refine AF (c1 _ _ _) rfl ?_ ?_|refine AE (c1 _ _ _) rfl ?_|refine AB (c1 _ _ _) rfl ?_ ?_|refine AG (c1 _ _ _) rfl rfl ?_)<;>try (simp -implicitDefEqProofs only [go_sem]))|(((with_reducible refine AS ?_ ?_)<;>intro _)<;>try (simp -implicitDefEqProofs only [go_sem]))|simp (disch:=omega) only [AC,AH,AP,AJ,AD,AQ,AI,AA]
 all_goals first|omega|(simp_all;done)|(simp_all;omega)|grind
theorem NK (n:Int):CF E0 Dx [.int .i64 n] (.bool (!J4 n)):=by
 refine AO M_ Am (by simp) fun hwf=>?_
 rw [AW];unfold IL J4
 (try (simp -implicitDefEqProofs only [go_sem]));repeat' first|(with_reducible first|exact True.intro|refine And.intro ?_ ?_|intro _)|(((with_reducible refine AS ?_ ?_)<;>intro _)<;>try (simp -implicitDefEqProofs only [go_sem]))|simp (disch:=omega) only [AC,AH,AP,AJ,AD,AQ,AI,AA]
 all_goals first|omega|(simp_all;done)|(simp_all;omega)|grind
theorem XF:Bl E0.P Dx=true:=by kernel_rfl
theorem JG:Bl E0.P C1=true:=by kernel_rfl
theorem NX (nl:Bool) (xs:List Int) (f:FuncId) (cs:List D) (p:Int→Bool) (hb:Bl E0.P f=true) (hcs:A7 AV.toD1 (cs.map .d)=some cs) (h:∀x,x∈xs→CF E0 f (.int .i64 x :: cs) (.bool (p x))) :
  CF E0 C9 [.list nl (Ai xs),.fn f cs] (.int .i64 (match xs.findIdx? p with|some i=>i|none=>-1)):=by
 refine AO Dv Am (by simp) fun hwf=>?_
 simp only [Dl,DB,DA,Cw,D7,D6,Fi,D5,Bd,Bo,Bp,DC,B1,List.length_map,Bx,true_and,and_true] at hwf
 rw [AW];unfold Cx
 simp -implicitDefEqProofs only [go_sem]
 refine AY (α:=Int) (l0:=?l2) (m0:=?m2) (fun x=>[(8,.d (.int .i64 x))]) (fun x=>[]) (fun x=>0≤x∧x≤xs.length∧∀(j:Nat) (hj:j < xs.length),(j:Int) < x→p xs[j]=false) (fun x=>(xs.length - x).toNat) ?a2_0 ?h02 ?he2 ?he22 ?hI2 ?step2
 case h02=>(simp -implicitDefEqProofs only [go_sem];rfl)
 case he2=>rfl
 case he22=>rfl
 case' step2=>(rintro i hI;try dsimp only at hI)
 case' hI2=>try dsimp only
 ·simp
  omega
 ·(try (simp -implicitDefEqProofs only [go_sem]));repeat' first|(with_reducible first|exact True.intro|refine And.intro ?_ ?_|intro _)|(((with_reducible refine AS ?_ ?_)<;>intro _)<;>try (simp -implicitDefEqProofs only [go_sem]))|simp (disch:=omega) only [AC,AH,AP,AJ,AD,AQ,AI,AA]|((with_reducible refine A4 ?_);refine⟨_,rfl,?_,?_⟩)
  all_goals first|omega|(simp;done)|(simp;omega)|skip
  ·have hx:xs[i.toNat]?.getD 0=xs[i.toNat]'(by omega):=by rw [List.getElem?_eq_getElem (by omega),Option.getD_some]
   rw [hx]
   refine AF (h _ (List.getElem_mem _)) (Kn rfl hcs) (fun hp=>?_) (fun hp=>?_)
   ·simp -implicitDefEqProofs only [go_sem]
    have:xs.findIdx? p=some i.toNat:=by rw [List.findIdx?_eq_some_iff_getElem];exact⟨by omega,hp,fun j hj=>by simp [hI.2.2 j (by omega) (by omega)]⟩
    rw [this];simp;omega
   ·(try (simp -implicitDefEqProofs only [go_sem]));repeat' first|(with_reducible first|exact True.intro|refine And.intro ?_ ?_|intro _)|(((with_reducible refine AS ?_ ?_)<;>intro _)<;>try (simp -implicitDefEqProofs only [go_sem]))|simp (disch:=omega) only [AC,AH,AP,AJ,AD,AQ,AI,AA]|((with_reducible refine A4 ?_);refine⟨_,rfl,?_,?_⟩)
    all_goals first|omega|(simp;done)|(simp;omega)|skip
    rename_i j hj hlt
    by_cases hjk:j=i.toNat
    ·subst hjk;exact hp
    ·exact hI.2.2 j hj (by omega)
  ·have:xs.findIdx? p=none:=by
    rw [List.findIdx?_eq_none_iff];intro x hx;obtain⟨j,hj,rfl⟩:=List.getElem_of_mem hx;exact hI.2.2 j hj (by omega)
   rw [this]
theorem K4 (nl:Bool) (xs:List Int) (f:FuncId) (cs:List D) (p:Int→Bool) (hb:Bl E0.P f=true) (hcs:A7 AV.toD1 (cs.map .d)=some cs) (h:∀x,x∈xs→CF E0 f (.int .i64 x :: cs) (.bool (p x))) :
  CF E0 Bz [.list nl (Ai xs),.fn f cs] (.bool (xs.any p)):=by
 refine AO DV Am (by simp) fun hwf=>?_
 rw [AW];unfold CV
 simp -implicitDefEqProofs only [go_sem]
 refine AE (NX nl xs f cs p hb hcs h) rfl ?_
 simp -implicitDefEqProofs only [go_sem]
 have key:(0:Int)≤(match xs.findIdx? p with|some i=>(i:Int)|none=>-1)↔xs.any p=true:=by
  cases hf:xs.findIdx? p with
  |none=>rw [List.findIdx?_eq_none_iff] at hf;simp;intro x hx;simp [hf x hx]
  |some i=>rw [List.findIdx?_eq_some_iff_getElem] at hf;simp;exact⟨_,List.getElem_mem hf.1,hf.2.1⟩
 grind
theorem iZ (xs:List Int) (p:Int→Bool):(!xs.any fun n=>!p n)=xs.all p:=by
 rw [List.all_eq_not_any_not]
theorem O1 (nl:Bool) (xs:List Int) (m:Int):CF E0 Lo [.list nl (Ai xs),.int .i64 m] (.bool (CG xs m)):=by
 refine AO Oy Am (by simp) fun hwf=>?_
 rw [AW];unfold KL
 have c1:CF E0 Bz [.list nl (Ai xs),.fn Dx []] (.bool (xs.any fun n=>!J4 n)) :=
  K4 nl xs Dx [] (fun n=>!J4 n) XF rfl fun x _=>NK x
 have ha:=iZ xs J4
 by_cases hm:(xs.length:Int)=m
 ·have hs:CG xs m=xs.all J4:=by unfold CG;simp [hm]
  rw [hs]
  cases hx:xs.any fun n=>!J4 n with
  |true =>
   rw [hx] at c1 ha
   (try (simp -implicitDefEqProofs only [go_sem,hm]));repeat' first|(with_reducible first|exact True.intro|refine And.intro ?_ ?_|intro _)|(((with_reducible refine isCall ?_);first|refine AF (c1) rfl ?_ ?_|refine AE (c1) rfl ?_|refine AB (c1) rfl ?_ ?_|refine AG (c1) rfl rfl ?_)<;>try (simp -implicitDefEqProofs only [go_sem,hm]))|(((with_reducible refine AS ?_ ?_)<;>intro _)<;>try (simp -implicitDefEqProofs only [go_sem,hm]))|simp (disch:=omega) only [AC,AH,AP,AJ,AD,AQ,AI,AA]
   all_goals first|(rw [←ha];done)|(rw [←ha];rfl)|(simp at *;done)|omega
  |false =>
   rw [hx] at c1 ha
   (try (simp -implicitDefEqProofs only [go_sem,hm]));repeat' first|(with_reducible first|exact True.intro|refine And.intro ?_ ?_|intro _)|(((with_reducible refine isCall ?_);first|refine AF (c1) rfl ?_ ?_|refine AE (c1) rfl ?_|refine AB (c1) rfl ?_ ?_|refine AG (c1) rfl rfl ?_)<;>try (simp -implicitDefEqProofs only [go_sem,hm]))|(((with_reducible refine AS ?_ ?_)<;>intro _)<;>try (simp -implicitDefEqProofs only [go_sem,hm]))|simp (disch:=omega) only [AC,AH,AP,AJ,AD,AQ,AI,AA]
   all_goals first|(rw [←ha];done)|(rw [←ha];rfl)|(simp at *;done)|omega
 ·have hs:CG xs m=false:=by unfold CG;simp [hm]
  rw [hs]
  (try (simp -implicitDefEqProofs only [go_sem,hm]));repeat' first|(with_reducible first|exact True.intro|refine And.intro ?_ ?_|intro _)|(((with_reducible refine AS ?_ ?_)<;>intro _)<;>try (simp -implicitDefEqProofs only [go_sem,hm]))|simp (disch:=omega) only [AC,AH,AP,AJ,AD,AQ,AI,AA]
  all_goals first|rfl|(simp at *;done)|omega
theorem KE (nl:Bool) (xs:List Int) (m:Int):CF E0 HI [.list nl (Ai xs),.int .i64 m] (.bool (CG xs m)):=by
 refine AO Kg Am (by simp) fun hwf=>?_
 simp only [Dl,DB,DA,Cw,D7,D6,Fi,D5,Bd,Bo,Bp,DC,B1,List.length_map,Bx,true_and,and_true] at hwf
 rw [AW];unfold GV
 (try (simp -implicitDefEqProofs only [go_sem]));repeat' first|(with_reducible first|exact True.intro|refine And.intro ?_ ?_|intro _)|(((with_reducible refine AS ?_ ?_)<;>intro _)<;>try (simp -implicitDefEqProofs only [go_sem]))|simp (disch:=omega) only [AC,AH,AP,AJ,AD,AQ,AI,AA]|((with_reducible refine A4 ?_);refine⟨_,rfl,?_,?_⟩)
 refine AY (α:=Nat) (l0:=?l3) (m0:=?m3) (fun x=>[(5,.d (.int .i64 (x:Int)))]) (fun x=>[]) (fun x=>x≤xs.length∧∀j,j < x→J4 (xs[j]?.getD 0)=true) (fun x=>xs.length - x) 0 ?h03 ?he3 ?he23 ?hI3 ?step3
 case h03=>(simp -implicitDefEqProofs only [go_sem];rfl)
 case he3=>rfl
 case he23=>rfl
 case' step3=>(rintro i hI;try dsimp only at hI)
 case' hI3=>try dsimp only
 ·exact⟨by omega,fun j hj=>absurd hj (by omega)⟩
 ·obtain⟨h1,h2⟩:=hI
  by_cases h:i < xs.length
  ·have h':(i:Int) < (xs.length:Int):=by omega
   have hw:IntKind.i64.wrap ((i:Int)+1)=((i+1:Nat):Int):=by rw [AC _ (by omega)];omega
   have c1:CF E0 HG [.int .i64 (xs[i]?.getD 0),.int .i64 0,.int .i64 15] (.bool (J4 (xs[i]?.getD 0))):=Fs _ _ _
   cases hb:J4 (xs[i]?.getD 0) with
   |true =>
    rw [hb] at c1
    (try (simp -implicitDefEqProofs only [go_sem,h',hw]));repeat' first|(with_reducible first|exact True.intro|refine And.intro ?_ ?_|intro _)|(((with_reducible refine isCall ?_);first|refine AF (c1) rfl ?_ ?_|refine AE (c1) rfl ?_|refine AB (c1) rfl ?_ ?_|refine AG (c1) rfl rfl ?_)<;>try (simp -implicitDefEqProofs only [go_sem,h',hw]))|(((with_reducible refine AS ?_ ?_)<;>intro _)<;>try (simp -implicitDefEqProofs only [go_sem,h',hw]))|simp (disch:=omega) only [AC,AH,AP,AJ,AD,AQ,AI,AA]|((with_reducible refine A4 ?_);refine⟨_,rfl,?_,?_⟩)
    all_goals first|omega|(simp;done)|(simp;omega)|skip
    all_goals first
     |(
      rename_i j hj
      rcases Nat.lt_succ_iff_lt_or_eq.1 hj with hj|rfl
      ·exact h2 j hj
      ·exact hb)
     |skip
   |false =>
    rw [hb] at c1
    have hs:CG xs m=false:=by unfold CG;rw [d9 h hb];simp
    (try (simp -implicitDefEqProofs only [go_sem,h',hw,hs]));repeat' first|(with_reducible first|exact True.intro|refine And.intro ?_ ?_|intro _)|(((with_reducible refine isCall ?_);first|refine AF (c1) rfl ?_ ?_|refine AE (c1) rfl ?_|refine AB (c1) rfl ?_ ?_|refine AG (c1) rfl rfl ?_)<;>try (simp -implicitDefEqProofs only [go_sem,h',hw,hs]))|(((with_reducible refine AS ?_ ?_)<;>intro _)<;>try (simp -implicitDefEqProofs only [go_sem,h',hw,hs]))|simp (disch:=omega) only [AC,AH,AP,AJ,AD,AQ,AI,AA]|((with_reducible refine A4 ?_);refine⟨_,rfl,?_,?_⟩)
    all_goals first|omega|(simp;done)|(simp;omega)|skip
  ·have h':¬(i:Int) < (xs.length:Int):=by omega
   have hk:i=xs.length:=by omega
   have hs:CG xs m=decide ((xs.length:Int)=m):=by unfold CG;rw [ia (d:=0) (fun j hj=>h2 j (by omega))];simp
   (try (simp -implicitDefEqProofs only [go_sem,h',hs]));repeat' first|(with_reducible first|exact True.intro|refine And.intro ?_ ?_|intro _)|(((with_reducible refine AS ?_ ?_)<;>intro _)<;>try (simp -implicitDefEqProofs only [go_sem,h',hs]))|simp (disch:=omega) only [AC,AH,AP,AJ,AD,AQ,AI,AA]|((with_reducible refine A4 ?_);refine⟨_,rfl,?_,?_⟩)
   all_goals first|omega|(simp;done)|(simp;omega)|skip
   all_goals rfl
theorem MC (nl:Bool) (xs:List Int) (m:Int):CF E0 Io [.list nl (Ai xs),.int .i64 m] (.bool (D9 xs m)):=by
  refine AO L5 Am (by simp) fun hwf=>?_
  simp only [Dl,DB,DA,Cw,D7,D6,Fi,D5,Bd,Bo,Bp,DC,B1,List.length_map,Bx,true_and,and_true] at hwf
  rw [AW];unfold HZ
  (try (simp -implicitDefEqProofs only [go_sem]));repeat' first|(with_reducible first|exact True.intro|refine And.intro ?_ ?_|intro _)|(((with_reducible refine AS ?_ ?_)<;>intro _)<;>try (simp -implicitDefEqProofs only [go_sem]))|simp (disch:=omega) only [AC,AH,AP,AJ,AD,AQ,AI,AA]|((with_reducible refine A4 ?_);refine⟨_,rfl,?_,?_⟩)
  refine AY (α:=Nat) (l0:=?l4) (m0:=?m4) (fun x=>[(9,.d (.int .i64 (x:Int)))]) (fun x=>[]) (fun x=>x≤xs.length∧∀j,j < x→gI xs m j=true) (fun x=>xs.length - x) 0 ?h04 ?he4 ?he24 ?hI4 ?step4
  case h04=>(simp -implicitDefEqProofs only [go_sem];rfl)
  case he4=>rfl
  case he24=>rfl
  case' step4=>(rintro i hI;try dsimp only at hI)
  case' hI4=>try dsimp only
  · exact⟨by omega,fun j hj=>absurd hj (by omega)⟩
  · obtain⟨h1,h2⟩:=hI
    by_cases h:i < xs.length
    · have h':(i:Int) < (xs.length:Int):=by omega
      have hw:IntKind.i64.wrap ((i:Int)+1)=((i+1:Nat):Int):=by rw [AC _ (by omega)];omega
      cases hb:gI xs m i with
      |true =>
        have hb2:=hb
        unfold gI at hb2
        simp only [decide_eq_true_eq] at hb2
        obtain⟨k1,k2,k3⟩:=hb2
        have q1:¬xs[i]?.getD 0 < 0:=by omega
        have q2:¬m≤xs[i]?.getD 0:=by omega
        by_cases h0:0 < i
        · have h0':(0:Int) < (i:Int):=by omega
          have k4:=k3 h0
          have q3:¬xs[i]?.getD 0≤xs[i - 1]?.getD 0:=by omega
          have hw2:IntKind.i64.wrap ((i:Int) - 1)=((i - 1:Nat):Int):=by rw [AC _ (by omega)];omega
          (try (simp -implicitDefEqProofs only [go_sem,h',hw,hw2,q1,q2,h0',q3]));repeat' first|(with_reducible first|exact True.intro|refine And.intro ?_ ?_|intro _)|(((with_reducible refine AS ?_ ?_)<;>intro _)<;>try (simp -implicitDefEqProofs only [go_sem,h',hw,hw2,q1,q2,h0',q3]))|simp (disch:=omega) only [AC,AH,AP,AJ,AD,AQ,AI,AA]|((with_reducible refine A4 ?_);refine⟨_,rfl,?_,?_⟩)
          all_goals first|omega|(simp;done)|(simp;omega)|skip
          all_goals first
            |(
               rename_i j hj
               rcases Nat.lt_succ_iff_lt_or_eq.1 hj with hj|rfl
               · exact h2 j hj
               · exact hb)
            |(simp at *;done)|(simp at *;omega)|skip
        · have h0':¬(0:Int) < (i:Int):=by omega
          (try (simp -implicitDefEqProofs only [go_sem,h',hw,q1,q2,h0']));repeat' first|(with_reducible first|exact True.intro|refine And.intro ?_ ?_|intro _)|(((with_reducible refine AS ?_ ?_)<;>intro _)<;>try (simp -implicitDefEqProofs only [go_sem,h',hw,q1,q2,h0']))|simp (disch:=omega) only [AC,AH,AP,AJ,AD,AQ,AI,AA]|((with_reducible refine A4 ?_);refine⟨_,rfl,?_,?_⟩)
          all_goals first|omega|(simp;done)|(simp;omega)|skip
          all_goals first
            |(
               rename_i j hj
               rcases Nat.lt_succ_iff_lt_or_eq.1 hj with hj|rfl
               · exact h2 j hj
               · exact hb)
            |(simp at *;done)|(simp at *;omega)|skip
      |false =>
        have hs:=b_ h hb
        unfold gI at hb
        simp only [decide_eq_false_iff_not] at hb
        have hw2:0 < i→IntKind.i64.wrap ((i:Int) - 1)=((i - 1:Nat):Int):=fun _=>by rw [AC _ (by omega)];omega
        by_cases q1:xs[i]?.getD 0 < 0
        · (try (simp -implicitDefEqProofs only [go_sem,h',hw,q1,hs]));repeat' first|(with_reducible first|exact True.intro|refine And.intro ?_ ?_|intro _)|(((with_reducible refine AS ?_ ?_)<;>intro _)<;>try (simp -implicitDefEqProofs only [go_sem,h',hw,q1,hs]))|simp (disch:=omega) only [AC,AH,AP,AJ,AD,AQ,AI,AA]|((with_reducible refine A4 ?_);refine⟨_,rfl,?_,?_⟩)
          all_goals first|omega|(simp;done)|(simp;omega)|skip
        · by_cases q2:m≤xs[i]?.getD 0
          · (try (simp -implicitDefEqProofs only [go_sem,h',hw,q1,q2,hs]));repeat' first|(with_reducible first|exact True.intro|refine And.intro ?_ ?_|intro _)|(((with_reducible refine AS ?_ ?_)<;>intro _)<;>try (simp -implicitDefEqProofs only [go_sem,h',hw,q1,q2,hs]))|simp (disch:=omega) only [AC,AH,AP,AJ,AD,AQ,AI,AA]|((with_reducible refine A4 ?_);refine⟨_,rfl,?_,?_⟩)
            all_goals first|omega|(simp;done)|(simp;omega)|skip
          · have h0:0 < i:=by
              by_cases h0:0 < i
              · exact h0
              · exact absurd ⟨by omega,by omega,fun h=>absurd h h0⟩ hb
            have h0':(0:Int) < (i:Int):=by omega
            have q3:xs[i]?.getD 0≤xs[i - 1]?.getD 0:=by
              by_cases q3:xs[i]?.getD 0≤xs[i - 1]?.getD 0
              · exact q3
              · exact absurd ⟨by omega,by omega,fun h=>by omega⟩ hb
            (try (simp -implicitDefEqProofs only [go_sem,h',hw,hw2 h0,q1,q2,h0',q3,hs]));repeat' first|(with_reducible first|exact True.intro|refine And.intro ?_ ?_|intro _)|(((with_reducible refine AS ?_ ?_)<;>intro _)<;>try (simp -implicitDefEqProofs only [go_sem,h',hw,hw2 h0,q1,q2,h0',q3,hs]))|simp (disch:=omega) only [AC,AH,AP,AJ,AD,AQ,AI,AA]|((with_reducible refine A4 ?_);refine⟨_,rfl,?_,?_⟩)
            all_goals first|omega|(simp;done)|(simp;omega)|skip
            all_goals first|(simp at *;done)|(simp at *;omega)|skip
    · have h':¬(i:Int) < (xs.length:Int):=by omega
      have hs:D9 xs m=true:=Ri fun j hj=>h2 j (by omega)
      (try (simp -implicitDefEqProofs only [go_sem,h',hs]));repeat' first|(with_reducible first|exact True.intro|refine And.intro ?_ ?_|intro _)|(((with_reducible refine AS ?_ ?_)<;>intro _)<;>try (simp -implicitDefEqProofs only [go_sem,h',hs]))|simp (disch:=omega) only [AC,AH,AP,AJ,AD,AQ,AI,AA]|((with_reducible refine A4 ?_);refine⟨_,rfl,?_,?_⟩)
      all_goals first|omega|(simp;done)|(simp;omega)|skip
end Go.Pw
end
section
open Go Go.Pw Go.Proofs
namespace Go.Pw
set_option linter.unusedSimpArgs false
set_option linter.unusedVariables false
set_option maxRecDepth 100000
set_option maxHeartbeats 3200000
def ni (l:List Nat):List Int:=l.map fun n:Nat=>(n:Int)
theorem G1 (l:List Nat):(ni l).length=l.length:=by simp [ni]
theorem kC (l:List Nat) (i:Nat):(ni l)[i]?.getD 0=((l[i]?.getD 0:Nat):Int):=by
 unfold ni;rw [List.getElem?_map];cases l[i]?<;>rfl
theorem f_ (l:List Nat) (n:Nat):ni l++[(n:Int)]=ni (l++[n]):=by simp [ni]
theorem bt (l k:List Nat):ni l++ni k=ni (l++k):=by simp [ni]
theorem br (l:List Nat):(ni l).isEmpty=l.isEmpty:=by cases l<;>rfl
attribute [go_sem] G1 kC f_ bt br
attribute [local congr] Bh A_ A' Ap Bi Av Ax Aw Ao Ah Ab AZ Ar Ac As BI BM BK BL BJ BN BF Af Au Ag BD BQ Ae BG BH BE BB BC A9 BA Aq Ad
attribute [local irreducible] IntKind.wrap A5 Option.getD and or
theorem RB (nl:Bool) (xs:List Int) (n:Int):∃r:Int,(decide (0≤r)=gc xs n)∧CF E0 FW [.list nl (Ai xs),.int .i64 n] (.int .i64 r):=by
  obtain⟨r,hr⟩:∃r:Int,r=match xs.findIdx? (fun x=>decide (n=x)) with|some i=>(i:Int)|none=>-1:=⟨_,rfl⟩
  refine⟨r,?_,?_⟩
  · rw [hr]
    cases hf:xs.findIdx? (fun x=>decide (n=x)) with
    |none =>
      rw [List.findIdx?_eq_none_iff] at hf
      rw [kO fun i hi h=>?_]
      · rfl
      · have:=hf (xs[i]?.getD 0) (by rw [List.getElem?_eq_getElem hi];simp)
        simp [h] at this
    |some i =>
      rw [List.findIdx?_eq_some_iff_getElem] at hf
      have:=hf.2.1
      have hx:n=xs[i]'hf.1:=by simpa using this
      rw [gb hf.1 (by rw [List.getElem?_eq_getElem hf.1,Option.getD_some];exact hx.symm)]
      simp
  · refine AO Ht Am (by simp) fun hwf=>?_
    simp only [Dl,DB,DA,Cw,D7,D6,Fi,D5,Bd,Bo,Bp,DC,B1,List.length_map,Bx,true_and,and_true] at hwf
    rw [AW];unfold E5
    (try (simp -implicitDefEqProofs only [go_sem]));repeat' first|(with_reducible first|exact True.intro|refine And.intro ?_ ?_|intro _)|(((with_reducible refine AS ?_ ?_)<;>intro _)<;>try (simp -implicitDefEqProofs only [go_sem]))|simp (disch:=omega) only [AC,AH,AP,AJ,AD,AQ,AI,AA]|((with_reducible refine A4 ?_);refine⟨_,rfl,?_,?_⟩)
    refine AY (α:=Nat) (l0:=?l3) (m0:=?m3) (fun x=>[(8,.d (.int .i64 (x:Int)))]) (fun x=>[]) (fun x=>x≤xs.length∧∀j,j < x→xs[j]?.getD 0≠n) (fun x=>xs.length - x) 0 ?h03 ?he3 ?he23 ?hI3 ?step3
    case h03=>(simp -implicitDefEqProofs only [go_sem];rfl)
    case he3=>rfl
    case he23=>rfl
    case' step3=>(rintro i hI;try dsimp only at hI)
    case' hI3=>try dsimp only
    · exact⟨by omega,fun j hj=>absurd hj (by omega)⟩
    · obtain⟨h1,h2⟩:=hI
      by_cases h:i < xs.length
      · have h':(i:Int) < (xs.length:Int):=by omega
        have hw:IntKind.i64.wrap ((i:Int)+1)=((i+1:Nat):Int):=by rw [AC _ (by omega)];omega
        by_cases hb:n=xs[i]?.getD 0
        · have hi:r=(i:Int):=by
            rw [hr]
            have:xs.findIdx? (fun x=>decide (n=x))=some i:=by
              rw [List.findIdx?_eq_some_iff_getElem]
              refine⟨h,?_,fun j hj=>?_⟩
              · rw [List.getElem?_eq_getElem h] at hb;simpa using hb
              · have:=h2 j hj
                rw [List.getElem?_eq_getElem (by omega),Option.getD_some] at this
                simpa using fun e=>this e.symm
            rw [this]
          rw [hi]
          have hb1:=hb
          (try (simp -implicitDefEqProofs only [go_sem,h',hw,←hb]));repeat' first|(with_reducible first|exact True.intro|refine And.intro ?_ ?_|intro _)|(((with_reducible refine AS ?_ ?_)<;>intro _)<;>try (simp -implicitDefEqProofs only [go_sem,h',hw,←hb]))|simp (disch:=omega) only [AC,AH,AP,AJ,AD,AQ,AI,AA]|((with_reducible refine A4 ?_);refine⟨_,rfl,?_,?_⟩)
          all_goals first|omega|(simp;done)|(simp;omega)|skip
        · (try (simp -implicitDefEqProofs only [go_sem,h',hw,hb]));repeat' first|(with_reducible first|exact True.intro|refine And.intro ?_ ?_|intro _)|(((with_reducible refine AS ?_ ?_)<;>intro _)<;>try (simp -implicitDefEqProofs only [go_sem,h',hw,hb]))|simp (disch:=omega) only [AC,AH,AP,AJ,AD,AQ,AI,AA]|((with_reducible refine A4 ?_);refine⟨_,rfl,?_,?_⟩)
          all_goals first|omega|(simp;done)|(simp;omega)|skip
          all_goals first
            |(
               rename_i j hj
               rcases Nat.lt_succ_iff_lt_or_eq.1 hj with hj|rfl
               · exact h2 j hj
               · exact fun e=>hb e.symm)
            |skip
      · have h':¬(i:Int) < (xs.length:Int):=by omega
        have hi:r=-1:=by
          rw [hr]
          have:xs.findIdx? (fun x=>decide (n=x))=none:=by
            rw [List.findIdx?_eq_none_iff]
            intro x hx
            obtain⟨j,hj,rfl⟩:=List.getElem_of_mem hx
            have:=h2 j (by omega)
            rw [List.getElem?_eq_getElem hj,Option.getD_some] at this
            simpa using fun e=>this e.symm
          rw [this]
        rw [hi]
        (try (simp -implicitDefEqProofs only [go_sem,h']));repeat' first|(with_reducible first|exact True.intro|refine And.intro ?_ ?_|intro _)|(((with_reducible refine AS ?_ ?_)<;>intro _)<;>try (simp -implicitDefEqProofs only [go_sem,h']))|simp (disch:=omega) only [AC,AH,AP,AJ,AD,AQ,AI,AA]|((with_reducible refine A4 ?_);refine⟨_,rfl,?_,?_⟩)
        all_goals first|omega|(simp;done)|(simp;omega)|skip
theorem OG (nl:Bool) (xs:List Int) (n:Int):CF E0 Ee [.list nl (Ai xs),.int .i64 n] (.bool (gc xs n)):=by
 refine AO Gg Am (by simp) fun hwf=>?_
 obtain⟨r,hr,c1⟩:=RB nl xs n
 rw [AW];unfold EO
 rw [←hr]
 by_cases h:0≤r
 ·(try (simp -implicitDefEqProofs only [go_sem,h]));repeat' first|(with_reducible first|exact True.intro|refine And.intro ?_ ?_|intro _)|(((with_reducible refine isCall ?_);first|refine AF (c1) rfl ?_ ?_|refine AE (c1) rfl ?_|refine AB (c1) rfl ?_ ?_|refine AG (c1) rfl rfl ?_)<;>try (simp -implicitDefEqProofs only [go_sem,h]))|(((with_reducible refine AS ?_ ?_)<;>intro _)<;>try (simp -implicitDefEqProofs only [go_sem,h]))|simp (disch:=omega) only [AC,AH,AP,AJ,AD,AQ,AI,AA]
  all_goals first|rfl|(simp at *;done)|(simp [h])
 ·(try (simp -implicitDefEqProofs only [go_sem,h]));repeat' first|(with_reducible first|exact True.intro|refine And.intro ?_ ?_|intro _)|(((with_reducible refine isCall ?_);first|refine AF (c1) rfl ?_ ?_|refine AE (c1) rfl ?_|refine AB (c1) rfl ?_ ?_|refine AG (c1) rfl rfl ?_)<;>try (simp -implicitDefEqProofs only [go_sem,h]))|(((with_reducible refine AS ?_ ?_)<;>intro _)<;>try (simp -implicitDefEqProofs only [go_sem,h]))|simp (disch:=omega) only [AC,AH,AP,AJ,AD,AQ,AI,AA]
  all_goals first|rfl|(simp at *;done)|(simp [h])
end Go.Pw
end
section
open Go Go.Pw Go.Proofs
namespace Go.Pw
set_option linter.unusedSimpArgs false
set_option linter.unusedVariables false
set_option maxRecDepth 100000
set_option maxHeartbeats 3200000
theorem U2 {α:Type} (w:List α) (x:α):(w++[x]).isEmpty=false:=by cases w<;>rfl
attribute [local congr] Bh A_ A' Ap Bi Av Ax Aw Ao Ah Ab AZ Ar Ac As BI BM BK BL BJ BN BF Af Au Ag BD BQ Ae BG BH BE BB BC A9 BA Aq Ad
attribute [local irreducible] IntKind.wrap A5 Option.getD and or
theorem H6 (nl:Bool) (xs:List F) (hl:xs.length≤1000) (hne:0 < xs.length) (hnl:nl=false):Hq E0 CA [] [.d (.list nl (us xs))] [(7,1,.row 135 1 false (us xs))] (.own 7 1):=by
 subst hnl
 refine DQ DS Am (by simp) (by simp [Ol,CI,EF]) (by simp [Eh]) fun hwf hwo=>?_
 rw [D2];unfold B3
 have hn:¬xs=[]:=by intro h;rw [h] at hne;simp at hne
 (try (simp -implicitDefEqProofs only [go_sem,hn]));repeat' first|(with_reducible first|exact True.intro|refine And.intro ?_ ?_|intro _)|(((with_reducible refine AS ?_ ?_)<;>intro _)<;>try (simp -implicitDefEqProofs only [go_sem,hn]))|simp (disch:=omega) only [AC,AH,AP,AJ,AD,AQ,AI,AA]
 all_goals first|omega|rfl
end Go.Pw
end
