/- A part of the proof. -/
import Derived.Test.YtlmkpaimjpdhiaaDoorPgCorrectQ
set_option linter.all false
section
open Go Go.Pw Go.Proofs
namespace Go.Pw
set_option linter.unusedSimpArgs false
set_option linter.unusedVariables false
set_option maxRecDepth 100000
set_option maxHeartbeats 3200000
def f6 (L P:Nat) (w:List F):Bool:=(List.range P).all fun i=>decide (EK w (L1 L i)=0)
def QH (L P:Int):Bool:=BG L P && (decide (L≤10) && decide (P≤6))
theorem QG {L P:Int} (h:QH L P=true):BG L P=true∧L≤10∧P≤6:=by simpa [QH] using h
def fv (L P:Int) (d a m:List Int):Bool:=decide (m.length≤30) && (Au d (L - P) && (Au a L && Ca m L))
def TS (w a:List F):List F:=List.zipWith fa w a
theorem Ur {w a:List F} (h:w.length=a.length):(TS w a).length=w.length:=by simp [TS,h]
theorem aK {w a:List F} (h:w.length=a.length) (i:Nat) (hi:i < w.length):(TS w a)[i]?.getD 0=fa (w[i]?.getD 0) (a[i]?.getD 0):=by
 unfold TS
 rw [List.getElem?_zipWith,List.getElem?_eq_getElem hi,List.getElem?_eq_getElem (by omega)];rfl
def Sd (a b m:List Int) (n:Nat):List Nat:=(List.range n).filter fun i=>decide (a[i]?.getD 0≠b[i]?.getD 0) && !Tp m i
theorem ej {a b m:List Int} {n:Nat} (h:a[n]?.getD 0≠b[n]?.getD 0) (h2:Tp m n=false):(Sd a b m (n+1)).length=(Sd a b m n).length+1:=by
 unfold Sd;rw [List.range_succ,List.filter_append];simp [h,h2]
theorem dr {a b m:List Int} {n:Nat} (h:a[n]?.getD 0=b[n]?.getD 0):(Sd a b m (n+1)).length=(Sd a b m n).length:=by
 unfold Sd;rw [List.range_succ,List.filter_append];simp [h]
theorem dq {a b m:List Int} {n:Nat} (h2:Tp m n=true):(Sd a b m (n+1)).length=(Sd a b m n).length:=by
 unfold Sd;rw [List.range_succ,List.filter_append];simp [h2]
theorem ZP (a b m:List Int) (n:Nat):(Sd a b m n).length≤n:=by
 have:=List.length_filter_le (fun i:Nat=>decide (a[i]?.getD 0≠b[i]?.getD 0) && !Tp m i) (List.range n)
 simpa [Sd] using this
theorem U_ (L:Nat) (a b:List F) (mk:List Nat):Sd (iv a) (iv b) (ni mk) L=Em L a b mk:=by
 unfold Sd Em
 congr 1
 funext i
 rw [Tj,Tj,To]
 congr 1
 rw [Bool.eq_iff_iff]
 simp only [ne_eq,decide_eq_true_eq,Sw]
theorem bD {α β:Type} {a:List α} {b:List β} (h:a.length=b.length):a.isEmpty=b.isEmpty:=by
 cases a<;>cases b<;>simp_all
attribute [local congr] Ch BI BJ A0 Ci A5 A7 A6 Az Ar Am Ai A2 An A3 BR BV BT BU BS BW BO Ap A4 Aq BM Bm Ao BP BQ BN BK BL
attribute [local irreducible] IntKind.wrap A_ Option.getD and or
theorem HG (L P:Int):B7 E0 Ms [.agg [.int .i64 L,.int .i64 P]] (.bool (BG L P && (decide (10 < L) || decide (6 < P)))):=by
 have c1:=DX L P
 refine AQ Ox Af (by simp) fun hwf=>?_
 rw [AR];unfold LN
 cases hc:BG L P with
 |false =>
  rw [hc] at c1
  simp only [Bool.false_eq_true,if_false] at c1
  (try (simp -implicitDefEqProofs only [go_sem]));repeat' first|(with_reducible first|exact True.intro|refine And.intro ?_ ?_|intro _)|(((with_reducible refine isCall ?_);first|refine AG (c1) rfl ?_ ?_|refine AE (c1) rfl ?_|refine AB (c1) rfl ?_ ?_|refine AF (c1) rfl rfl ?_)<;>try (simp -implicitDefEqProofs only [go_sem]))|(((with_reducible refine AM ?_ ?_)<;>intro _)<;>try (simp -implicitDefEqProofs only [go_sem]))|simp (disch:=omega) only [AC,AH,AK,AJ,AD,AL,AI,AA]
  all_goals first|rfl|(simp;done)|skip
 |true =>
  rw [hc] at c1
  simp only [if_true] at c1
  by_cases h1:10 < L
  ·(try (simp -implicitDefEqProofs only [go_sem,h1]));repeat' first|(with_reducible first|exact True.intro|refine And.intro ?_ ?_|intro _)|(((with_reducible refine isCall ?_);first|refine AG (c1) rfl ?_ ?_|refine AE (c1) rfl ?_|refine AB (c1) rfl ?_ ?_|refine AF (c1) rfl rfl ?_)<;>try (simp -implicitDefEqProofs only [go_sem,h1]))|(((with_reducible refine AM ?_ ?_)<;>intro _)<;>try (simp -implicitDefEqProofs only [go_sem,h1]))|simp (disch:=omega) only [AC,AH,AK,AJ,AD,AL,AI,AA]
   all_goals first|rfl|(simp [h1];done)|skip
  ·by_cases h2:6 < P
   ·(try (simp -implicitDefEqProofs only [go_sem,h1,h2]));repeat' first|(with_reducible first|exact True.intro|refine And.intro ?_ ?_|intro _)|(((with_reducible refine isCall ?_);first|refine AG (c1) rfl ?_ ?_|refine AE (c1) rfl ?_|refine AB (c1) rfl ?_ ?_|refine AF (c1) rfl rfl ?_)<;>try (simp -implicitDefEqProofs only [go_sem,h1,h2]))|(((with_reducible refine AM ?_ ?_)<;>intro _)<;>try (simp -implicitDefEqProofs only [go_sem,h1,h2]))|simp (disch:=omega) only [AC,AH,AK,AJ,AD,AL,AI,AA]
    all_goals first|rfl|(simp [h1,h2];done)|skip
   ·(try (simp -implicitDefEqProofs only [go_sem,h1,h2]));repeat' first|(with_reducible first|exact True.intro|refine And.intro ?_ ?_|intro _)|(((with_reducible refine isCall ?_);first|refine AG (c1) rfl ?_ ?_|refine AE (c1) rfl ?_|refine AB (c1) rfl ?_ ?_|refine AF (c1) rfl rfl ?_)<;>try (simp -implicitDefEqProofs only [go_sem,h1,h2]))|(((with_reducible refine AM ?_ ?_)<;>intro _)<;>try (simp -implicitDefEqProofs only [go_sem,h1,h2]))|simp (disch:=omega) only [AC,AH,AK,AJ,AD,AL,AI,AA]
    all_goals first|rfl|(simp [h1,h2];done)|skip
theorem DZ (L P:Int):B7 E0 KV [.agg [.int .i64 L,.int .i64 P]] (.bool (QH L P)):=by
 have c1:=DX L P
 have c2:=HG L P
 refine AQ NA Af (by simp) fun hwf=>?_
 rw [AR];unfold JD QH
 cases hc:BG L P with
 |false =>
  rw [hc] at c1 c2
  simp only [Bool.false_eq_true,if_false,Bool.false_and] at c1 c2 ⊢
  (try (simp -implicitDefEqProofs only [go_sem]));repeat' first|(with_reducible first|exact True.intro|refine And.intro ?_ ?_|intro _)|(((with_reducible refine isCall ?_);first|refine AG (c1) rfl ?_ ?_|refine AE (c1) rfl ?_|refine AB (c1) rfl ?_ ?_|refine AF (c1) rfl rfl ?_|refine AG (c2) rfl ?_ ?_|refine AE (c2) rfl ?_|refine AB (c2) rfl ?_ ?_|refine AF (c2) rfl rfl ?_)<;>try (simp -implicitDefEqProofs only [go_sem]))|(((with_reducible refine AM ?_ ?_)<;>intro _)<;>try (simp -implicitDefEqProofs only [go_sem]))|simp (disch:=omega) only [AC,AH,AK,AJ,AD,AL,AI,AA]
  all_goals first|rfl|(simp;done)|skip
 |true =>
  rw [hc] at c1 c2
  simp only [if_true,Bool.true_and] at c1 c2 ⊢
  by_cases h1:L≤10
  ·by_cases h2:P≤6
   ·rw [decide_eq_false (show ¬10 < L by omega),decide_eq_false (show ¬6 < P by omega),Bool.or_false] at c2
    rw [decide_eq_true h1,decide_eq_true h2]
    (try (simp -implicitDefEqProofs only [go_sem]));repeat' first|(with_reducible first|exact True.intro|refine And.intro ?_ ?_|intro _)|(((with_reducible refine isCall ?_);first|refine AG (c1) rfl ?_ ?_|refine AE (c1) rfl ?_|refine AB (c1) rfl ?_ ?_|refine AF (c1) rfl rfl ?_|refine AG (c2) rfl ?_ ?_|refine AE (c2) rfl ?_|refine AB (c2) rfl ?_ ?_|refine AF (c2) rfl rfl ?_)<;>try (simp -implicitDefEqProofs only [go_sem]))|(((with_reducible refine AM ?_ ?_)<;>intro _)<;>try (simp -implicitDefEqProofs only [go_sem]))|simp (disch:=omega) only [AC,AH,AK,AJ,AD,AL,AI,AA]
    all_goals first|rfl|(simp;done)|skip
   ·rw [decide_eq_true (show 6 < P by omega),Bool.or_true] at c2
    rw [decide_eq_false h2,Bool.and_false]
    (try (simp -implicitDefEqProofs only [go_sem]));repeat' first|(with_reducible first|exact True.intro|refine And.intro ?_ ?_|intro _)|(((with_reducible refine isCall ?_);first|refine AG (c1) rfl ?_ ?_|refine AE (c1) rfl ?_|refine AB (c1) rfl ?_ ?_|refine AF (c1) rfl rfl ?_|refine AG (c2) rfl ?_ ?_|refine AE (c2) rfl ?_|refine AB (c2) rfl ?_ ?_|refine AF (c2) rfl rfl ?_)<;>try (simp -implicitDefEqProofs only [go_sem]))|(((with_reducible refine AM ?_ ?_)<;>intro _)<;>try (simp -implicitDefEqProofs only [go_sem]))|simp (disch:=omega) only [AC,AH,AK,AJ,AD,AL,AI,AA]
    all_goals first|rfl|(simp;done)|skip
  ·rw [decide_eq_true (show 10 < L by omega),Bool.true_or] at c2
   rw [decide_eq_false h1,Bool.false_and]
   (try (simp -implicitDefEqProofs only [go_sem]));repeat' first|(with_reducible first|exact True.intro|refine And.intro ?_ ?_|intro _)|(((with_reducible refine isCall ?_);first|refine AG (c1) rfl ?_ ?_|refine AE (c1) rfl ?_|refine AB (c1) rfl ?_ ?_|refine AF (c1) rfl rfl ?_|refine AG (c2) rfl ?_ ?_|refine AE (c2) rfl ?_|refine AB (c2) rfl ?_ ?_|refine AF (c2) rfl rfl ?_)<;>try (simp -implicitDefEqProofs only [go_sem]))|(((with_reducible refine AM ?_ ?_)<;>intro _)<;>try (simp -implicitDefEqProofs only [go_sem]))|simp (disch:=omega) only [AC,AH,AK,AJ,AD,AL,AI,AA]
   all_goals first|rfl|(simp;done)|skip
theorem Mz (n1 n2:Bool) (w a:List F) (hl:w.length=a.length) (hlen:w.length≤1000):B7 E0 KW [.list n1 (AY (iv w)),.list n2 (AY (iv a))] (.list w.isEmpty (AY (iv (TS w a)))):=by
 have hN:=Ur hl
 refine AQ NB Af (by simp) fun hwf=>?_
 rw [AR];unfold JE
 (try (simp -implicitDefEqProofs only [go_sem]));repeat' first|(with_reducible first|exact True.intro|refine And.intro ?_ ?_|intro _)|(((with_reducible refine AM ?_ ?_)<;>intro _)<;>try (simp -implicitDefEqProofs only [go_sem]))|simp (disch:=omega) only [AC,AH,AK,AJ,AD,AL,AI,AA]|((with_reducible refine Aa ?_);refine⟨(_,_),rfl,?_,?_⟩)
 refine AS (α:=Nat×Bool) (l0:=?l1) (m0:=?m1) (fun x=>[(6,.d (.int .i64 (x.1:Int)))]) (fun x=>[(24,.row 3 1 x.2 (AY (iv ((TS w a).take x.1))))]) (fun x=>x.1≤w.length∧x.2=((TS w a).take x.1).isEmpty) (fun x=>w.length - x.1) (0,true) ?h01 ?he1 ?he21 ?hI1 ?step1
 case h01=>(simp -implicitDefEqProofs only [go_sem];rfl)
 case he1=>rfl
 case he21=>rfl
 case' step1=>(rintro⟨i,b⟩ hI;try dsimp only at hI)
 case' hI1=>try dsimp only
 ·exact⟨Nat.zero_le _,rfl⟩
 ·obtain⟨h1,h2⟩:=hI
  by_cases h:i < w.length
  ·have h':(i:Int) < (w.length:Int):=by omega
   have hw:IntKind.i64.wrap ((i:Int)+1)=((i+1:Nat):Int):=by rw [AC _ (by omega)];omega
   have ha:i < a.length:=by omega
   have hk:(TS w a).take i++[fa (w[i]?.getD 0) (a[i]?.getD 0)]=(TS w a).take (i+1):=by
    rw [←aK hl i h,Ak _ 0 i (by omega)]
   have he:((TS w a).take (i+1)).isEmpty=false:=by rw [←hk];exact Fg _ _
   (try (simp -implicitDefEqProofs only [go_sem,h',hw,ha,hk]));repeat' first|(with_reducible first|exact True.intro|refine And.intro ?_ ?_|intro _)|(((with_reducible refine AM ?_ ?_)<;>intro _)<;>try (simp -implicitDefEqProofs only [go_sem,h',hw,ha,hk]))|simp (disch:=omega) only [AC,AH,AK,AJ,AD,AL,AI,AA]|((with_reducible refine Aa ?_);refine⟨(_,_),rfl,?_,?_⟩)
   all_goals first|omega|(simp;done)|(simp;omega)|skip
   all_goals first|rfl|exact he.symm|skip
  ·have h':¬(i:Int) < (w.length:Int):=by omega
   have hf:(TS w a).take i=TS w a:=List.take_of_length_le (by omega)
   have hfe:(TS w a).isEmpty=w.isEmpty:=bD hN
   rw [hf] at h2
   subst h2
   rw [hf,hfe]
   (try (simp -implicitDefEqProofs only [go_sem,h']));repeat' first|(with_reducible first|exact True.intro|refine And.intro ?_ ?_|intro _)|(((with_reducible refine AM ?_ ?_)<;>intro _)<;>try (simp -implicitDefEqProofs only [go_sem,h']))|simp (disch:=omega) only [AC,AH,AK,AJ,AD,AL,AI,AA]|((with_reducible refine Aa ?_);refine⟨(_,_),rfl,?_,?_⟩)
   all_goals first|omega|(simp;done)|(simp;omega)|skip
   all_goals first|rfl|skip
theorem My (n1 n2 n3:Bool) (a b m:List Int) (hl:a.length≤b.length) (hlen:a.length≤1000000):B7 E0 HO [.list n1 (AY a),.list n2 (AY b),.list n3 (AY m)] (.int .i64 (Sd a b m a.length).length):=by
 refine AQ M9 Af (by simp) fun hwf=>?_
 rw [AR];unfold JB
 (try (simp -implicitDefEqProofs only [go_sem]));repeat' first|(with_reducible first|exact True.intro|refine And.intro ?_ ?_|intro _)|(((with_reducible refine AM ?_ ?_)<;>intro _)<;>try (simp -implicitDefEqProofs only [go_sem]))|simp (disch:=omega) only [AC,AH,AK,AJ,AD,AL,AI,AA]|((with_reducible refine AW ?_);refine⟨_,rfl,?_,?_⟩)
 refine AS (α:=Nat) (l0:=?l2) (m0:=?m2) (fun x=>[(8,.d (.int .i64 (x:Int))),(7,.d (.int .i64 ((Sd a b m x).length:Int)))]) (fun x=>[]) (fun x=>x≤a.length) (fun x=>a.length - x) 0 ?h02 ?he2 ?he22 ?hI2 ?step2
 case h02=>(simp -implicitDefEqProofs only [go_sem];rfl)
 case he2=>rfl
 case he22=>rfl
 case' step2=>(rintro i hI;try dsimp only at hI)
 case' hI2=>try dsimp only
 ·exact Nat.zero_le _
 ·have hap:=ZP a b m i
  by_cases h:i < a.length
  ·have h':(i:Int) < (a.length:Int):=by omega
   have hw:IntKind.i64.wrap ((i:Int)+1)=((i+1:Nat):Int):=by rw [AC _ (by omega)];omega
   have hb:i < b.length:=by omega
   have c1:=LM n3 m i
   by_cases he:a[i]?.getD 0=b[i]?.getD 0
   ·have hs:=@dr a b m i he
    rw [←hs]
    (try (simp -implicitDefEqProofs only [go_sem,h',hw,hb,he]));repeat' first|(with_reducible first|exact True.intro|refine And.intro ?_ ?_|intro _)|(((with_reducible refine AM ?_ ?_)<;>intro _)<;>try (simp -implicitDefEqProofs only [go_sem,h',hw,hb,he]))|simp (disch:=omega) only [AC,AH,AK,AJ,AD,AL,AI,AA]|((with_reducible refine AW ?_);refine⟨_,rfl,?_,?_⟩)
    all_goals first|omega|(simp;done)|(simp;omega)|skip
    all_goals first|rfl|skip
   ·cases hm:Tp m i with
    |true =>
     rw [hm] at c1
     have hs:=@dq a b m i hm
     rw [←hs]
     (try (simp -implicitDefEqProofs only [go_sem,h',hw,hb,he]));repeat' first|(with_reducible first|exact True.intro|refine And.intro ?_ ?_|intro _)|(((with_reducible refine isCall ?_);first|refine AG (c1) rfl ?_ ?_|refine AE (c1) rfl ?_|refine AB (c1) rfl ?_ ?_|refine AF (c1) rfl rfl ?_)<;>try (simp -implicitDefEqProofs only [go_sem,h',hw,hb,he]))|(((with_reducible refine AM ?_ ?_)<;>intro _)<;>try (simp -implicitDefEqProofs only [go_sem,h',hw,hb,he]))|simp (disch:=omega) only [AC,AH,AK,AJ,AD,AL,AI,AA]|((with_reducible refine AW ?_);refine⟨_,rfl,?_,?_⟩)
     all_goals first|omega|(simp;done)|(simp;omega)|skip
     all_goals first|rfl|skip
    |false =>
     rw [hm] at c1
     have hs:=ej he hm
     have hw2:IntKind.i64.wrap (((Sd a b m i).length:Int)+1)=((Sd a b m (i+1)).length:Int):=by rw [AC _ (by omega),hs];omega
     (try (simp -implicitDefEqProofs only [go_sem,h',hw,hb,he,hw2]));repeat' first|(with_reducible first|exact True.intro|refine And.intro ?_ ?_|intro _)|(((with_reducible refine isCall ?_);first|refine AG (c1) rfl ?_ ?_|refine AE (c1) rfl ?_|refine AB (c1) rfl ?_ ?_|refine AF (c1) rfl rfl ?_)<;>try (simp -implicitDefEqProofs only [go_sem,h',hw,hb,he,hw2]))|(((with_reducible refine AM ?_ ?_)<;>intro _)<;>try (simp -implicitDefEqProofs only [go_sem,h',hw,hb,he,hw2]))|simp (disch:=omega) only [AC,AH,AK,AJ,AD,AL,AI,AA]|((with_reducible refine AW ?_);refine⟨_,rfl,?_,?_⟩)
     all_goals first|omega|(simp;done)|(simp;omega)|skip
     all_goals first|rfl|skip
  ·have h':¬(i:Int) < (a.length:Int):=by omega
   have hie:i=a.length:=by omega
   subst hie
   (try (simp -implicitDefEqProofs only [go_sem,h']));repeat' first|(with_reducible first|exact True.intro|refine And.intro ?_ ?_|intro _)|(((with_reducible refine AM ?_ ?_)<;>intro _)<;>try (simp -implicitDefEqProofs only [go_sem,h']))|simp (disch:=omega) only [AC,AH,AK,AJ,AD,AL,AI,AA]|((with_reducible refine AW ?_);refine⟨_,rfl,?_,?_⟩)
   all_goals first|omega|(simp;done)|(simp;omega)|skip
   all_goals first|rfl|skip
end Go.Pw
end
section
open Go Go.Pw Go.Proofs
namespace Go.Pw
set_option linter.unusedSimpArgs false
set_option linter.unusedVariables false
set_option maxRecDepth 100000
set_option maxHeartbeats 3200000
def cZ (l:List Nat):D:=.list l.isEmpty (AY (ni l))
def Zc (ls:List (List Nat)):List D:=ls.map cZ
theorem Z3 (ls:List (List Nat)):(Zc ls).length=ls.length:=by simp [Zc]
theorem XY (ls:List (List Nat)) (j:Nat) (l:List Nat):Zc ls++[.list false (.int .i64 (j:Int) :: AY (ni l))]=Zc (ls++[j :: l]):=by simp [Zc,cZ];rfl
theorem Vp {ls:List (List Nat)} {i:Nat} {A:D→Prop}:Ag (Zc ls)[i]? A=(i < ls.length∧A (.list (ls[i]?.getD []).isEmpty (AY (ni (ls[i]?.getD []))))):=by
 unfold Zc
 rw [List.getElem?_map]
 by_cases h:i < ls.length
 ·simp [h,Ag,cZ]
 ·have:ls[i]?=none:=List.getElem?_eq_none (by omega)
  simp [this,h,Ag]
attribute [go_sem] Z3 XY Vp
theorem U3 {α:Type} (f:Nat→List α) (c:Nat):∀l:List Nat,(∀j,j∈l→(f j).length≤c)→(l.flatMap f).length≤l.length * c
 |[],_=>by simp
 |j :: l,h=>by
  have ih:=U3 f c l fun k hk=>h k (by simp [hk])
  have h0:=h j (by simp)
  rw [List.flatMap_cons,List.length_append,List.length_cons,Nat.add_mul]
  omega
theorem Ri (L:Nat) (mk:List Nat) (hL:L≤15):∀m fr,(A' L mk m fr).length≤16 ^ m
 |0,fr=>by simp [A']
 |m+1,fr=>by
  have h1:=U3 (fun j=>(A' L mk m (j+1)).map (j :: ·)) (16 ^ m) ((List.range' fr (L - fr)).filter fun j=>!mk.contains j) (fun j _=>by rw [List.length_map];exact Ri L mk hL m (j+1))
  have h2:((List.range' fr (L - fr)).filter fun j=>!mk.contains j).length≤16:=by
   have:=List.length_filter_le (fun j=>!mk.contains j) (List.range' fr (L - fr))
   rw [List.length_range'] at this;omega
  show ((((List.range' fr (L - fr)).filter fun j=>!mk.contains j).flatMap fun j=>(A' L mk m (j+1)).map (j :: ·))).length≤16 ^ (m+1)
  rw [Nat.pow_succ]
  have h3:=Nat.mul_le_mul_right (16 ^ m) h2
  omega
theorem LB (L:Nat) (mk:List Nat) (hL:L≤15) {m:Nat} (hm:m≤6) (fr:Nat):(A' L mk m fr).length≤16777216:=by
 have h1:=Ri L mk hL m fr
 have h2:16 ^ m≤16 ^ 6:=Nat.pow_le_pow_right (by omega) hm
 omega
theorem XO (L:Nat) (mk:List Nat) (m j:Nat) (h:j < L):A' L mk (m+1) j=if mk.contains j=true then A' L mk (m+1) (j+1) else (A' L mk m (j+1)).map (j :: ·)++A' L mk (m+1) (j+1):=by
 show ((List.range' j (L - j)).filter fun j=>!mk.contains j).flatMap _=_
 rw [show L - j=(L - (j+1))+1 by omega,List.range'_succ,List.filter_cons]
 cases hc:mk.contains j with
 |true=>simp only [Bool.not_true,Bool.false_eq_true,if_false,if_true];rfl
 |false=>simp only [Bool.not_false,Bool.false_eq_true,if_false,if_true,List.flatMap_cons];rfl
theorem VX (L:Nat) (mk:List Nat) (m j:Nat) (h:L≤j):A' L mk (m+1) j=[]:=by
 simp only [A']
 rw [show L - j=0 by omega];rfl
theorem Oq (j:Nat) (R:List (List Nat)) (i:Nat) (h:i < R.length):(R.take i).map (j :: ·)++[j :: (R[i]?.getD [])]=(R.take (i+1)).map (j :: ·):=by
 rw [←Ak R [] i h,List.map_append];rfl
attribute [local congr] Ch BI BJ A0 Ci A5 A7 A6 Az Ar Am Ai A2 An A3 BR BV BT BU BS BW BO Ap A4 Aq BM Bm Ao BP BQ BN BK BL
attribute [local irreducible] IntKind.wrap A_ Option.getD and or
theorem I4 (L P:Nat) (n:Bool) (mk:List Nat) (hL:L≤15):∀(m fr:Nat),m≤6→fr≤100 →
  B7 E0 Lt [MR L P,.list n (AY (ni mk)),.int .i64 (fr:Int),.int .i64 (m:Int)] (.list (A' L mk m fr).isEmpty (Zc (A' L mk m fr)))
 |0,fr,_,_=>by
  refine AQ JS Af (by simp) fun hwf=>?_
  rw [AR];unfold HE
  rw [Aj,show ((0:Nat):Int)=0 from rfl]
  (try (simp -implicitDefEqProofs only [go_sem]));repeat' first|(with_reducible first|exact True.intro|refine And.intro ?_ ?_|intro _)|(((with_reducible refine AM ?_ ?_)<;>intro _)<;>try (simp -implicitDefEqProofs only [go_sem]))|simp (disch:=omega) only [AC,AH,AK,AJ,AD,AL,AI,AA]|((with_reducible refine AU ?_);refine⟨(_,_,_),rfl,?_,?_⟩)
  all_goals first|rfl|(simp;done)|skip
 |m+1,fr,hm,hfr=>by
  have ih:=I4 L P n mk hL m
  refine AQ JS Af (by simp) fun hwf=>?_
  rw [AR];unfold HE
  rw [Aj] at ih ⊢
  have hm0:¬((m+1:Nat):Int)=0:=by omega
  have hwm:IntKind.i64.wrap (((m+1:Nat):Int) - 1)=(m:Int):=by rw [AC _ (by omega)];omega
  (try (simp -implicitDefEqProofs only [go_sem,hm0]));repeat' first|(with_reducible first|exact True.intro|refine And.intro ?_ ?_|intro _)|(((with_reducible refine AM ?_ ?_)<;>intro _)<;>try (simp -implicitDefEqProofs only [go_sem,hm0]))|simp (disch:=omega) only [AC,AH,AK,AJ,AD,AL,AI,AA]|((with_reducible refine AU ?_);refine⟨(_,_,_),rfl,?_,?_⟩)
  all_goals first|omega|(simp;done)|(simp;omega)|skip
  refine AS (α:=Nat×Bool×(List (List Nat))) (l0:=?l1) (m0:=?m1) (fun x=>[(10,.d (.int .i64 (x.1:Int)))]) (fun x=>[(48,.row 24 1 x.2.1 (Zc x.2.2))]) (fun x=>fr≤x.1∧x.1≤max fr L∧x.2.1=x.2.2.isEmpty∧x.2.2++A' L mk (m+1) x.1=A' L mk (m+1) fr) (fun x=>L - x.1) (fr,true,[]) ?h01 ?he1 ?he21 ?hI1 ?step1
  case h01=>(simp -implicitDefEqProofs only [go_sem];rfl)
  case he1=>rfl
  case he21=>rfl
  case' step1=>(rintro⟨j,b,out⟩ hI;try dsimp only at hI)
  case' hI1=>try dsimp only
  ·exact⟨Nat.le_refl _,by omega,rfl,rfl⟩
  ·obtain⟨j1,j2,j3,j4⟩:=hI
   change b=out.isEmpty at j3
   have hlo:out.length≤16777216:=by
    have h1:=LB L mk hL hm fr
    rw [←j4,List.length_append] at h1;omega
   by_cases hj:j < L
   ·have hj':(j:Int) < (L:Int):=by omega
    have hwj:IntKind.i64.wrap ((j:Int)+1)=((j+1:Nat):Int):=by rw [AC _ (by omega)];omega
    have c1:=LM n (ni mk) j
    rw [To] at c1
    have hrec:=XO L mk m j hj
    cases hc:mk.contains j with
    |true =>
     rw [hc] at c1 hrec
     rw [if_pos rfl] at hrec
     rw [hrec] at j4
     (try (simp -implicitDefEqProofs only [go_sem,hj',hwj]));repeat' first|(with_reducible first|exact True.intro|refine And.intro ?_ ?_|intro _)|(((with_reducible refine isCall ?_);first|refine AG (c1) rfl ?_ ?_|refine AE (c1) rfl ?_|refine AB (c1) rfl ?_ ?_|refine AF (c1) rfl rfl ?_)<;>try (simp -implicitDefEqProofs only [go_sem,hj',hwj]))|(((with_reducible refine AM ?_ ?_)<;>intro _)<;>try (simp -implicitDefEqProofs only [go_sem,hj',hwj]))|simp (disch:=omega) only [AC,AH,AK,AJ,AD,AL,AI,AA]|((with_reducible refine AU ?_);refine⟨(_,_,_),rfl,?_,?_⟩)
     all_goals first|omega|(simp;done)|(simp;omega)|skip
     all_goals first|exact⟨j3,j4⟩|exact j4|exact j3|skip
    |false =>
     rw [hc] at c1 hrec
     rw [if_neg (by decide)] at hrec
     rw [hrec,←List.append_assoc] at j4
     have c2:=ih (j+1) (by omega) (by omega)
     have hR6:=LB L mk hL (show m≤6 by omega) (j+1)
     obtain⟨R,hR⟩:∃R,A' L mk m (j+1)=R:=⟨_,rfl⟩
     rw [hR] at c2 j4 hR6
     (try (simp -implicitDefEqProofs only [go_sem,hj',hwj,hwm]));repeat' first|(with_reducible first|exact True.intro|refine And.intro ?_ ?_|intro _)|(((with_reducible refine isCall ?_);first|refine AG (c1) rfl ?_ ?_|refine AE (c1) rfl ?_|refine AB (c1) rfl ?_ ?_|refine AF (c1) rfl rfl ?_|refine AG (c2) rfl ?_ ?_|refine AE (c2) rfl ?_|refine AB (c2) rfl ?_ ?_|refine AF (c2) rfl rfl ?_)<;>try (simp -implicitDefEqProofs only [go_sem,hj',hwj,hwm]))|(((with_reducible refine AM ?_ ?_)<;>intro _)<;>try (simp -implicitDefEqProofs only [go_sem,hj',hwj,hwm]))|simp (disch:=omega) only [AC,AH,AK,AJ,AD,AL,AI,AA]|((with_reducible refine AU ?_);refine⟨(_,_,_),rfl,?_,?_⟩)
     all_goals first|omega|(simp;done)|(simp;omega)|skip
     refine AS (α:=Nat×Bool×(List (List Nat))) (l0:=?l2) (m0:=?m2) (fun x=>[(12,.d (.int .i64 (x.1:Int)))]) (fun x=>[(48,.row 24 1 x.2.1 (Zc x.2.2))]) (fun x=>x.1≤R.length∧x.2.1=x.2.2.isEmpty∧x.2.2=out++(R.take x.1).map (j :: ·)) (fun x=>R.length - x.1) (0,b,out) ?h02 ?he2 ?he22 ?hI2 ?step2
     case h02=>(simp -implicitDefEqProofs only [go_sem];rfl)
     case he2=>rfl
     case he22=>rfl
     case' step2=>(rintro⟨i,e,o2⟩ hI2;try dsimp only at hI2)
     case' hI2=>try dsimp only
     ·exact⟨Nat.zero_le _,j3,by simp⟩
     ·obtain⟨i1,i2,i3⟩:=hI2
      change e=o2.isEmpty at i2
      have ho2:o2.length≤16777216:=by
       have h1:=LB L mk hL hm fr
       rw [←j4,List.length_append,List.length_append,List.length_map] at h1
       rw [i3,List.length_append,List.length_map,List.length_take];omega
      by_cases h:i < R.length
      ·have hlr:(R[i]?.getD []).length≤100:=by
        have hmem:(R[i]?.getD [])∈A' L mk m (j+1):=by
         rw [hR,List.getElem?_eq_getElem h,Option.getD_some];exact List.getElem_mem h
        rw [Rh L mk m (j+1) _ hmem];omega
       have h':(i:Int) < (R.length:Int):=by omega
       have hwi:IntKind.i64.wrap ((i:Int)+1)=((i+1:Nat):Int):=by rw [AC _ (by omega)];omega
       have hk:o2++[j :: (R[i]?.getD [])]=out++(R.take (i+1)).map (j :: ·):=by
        rw [i3,List.append_assoc,Oq j R i h]
       have hke:(o2++[j :: (R[i]?.getD [])]).isEmpty=false:=Fg _ _
       (try (simp -implicitDefEqProofs only [go_sem,h',hwi]));repeat' first|(with_reducible first|exact True.intro|refine And.intro ?_ ?_|intro _)|(((with_reducible refine AM ?_ ?_)<;>intro _)<;>try (simp -implicitDefEqProofs only [go_sem,h',hwi]))|simp (disch:=omega) only [AC,AH,AK,AJ,AD,AL,AI,AA]|((with_reducible refine AU ?_);refine⟨(_,_,_),rfl,?_,?_⟩)
       all_goals first|omega|(simp;done)|(simp;omega)|skip
       all_goals first|exact⟨hke.symm,hk⟩|exact hk|exact hke.symm|skip
      ·have h':¬(i:Int) < (R.length:Int):=by omega
       have hie:(R.take i)=R:=List.take_of_length_le (by omega)
       rw [hie] at i3
       rw [←i3] at j4
       (try (simp -implicitDefEqProofs only [go_sem,h',hwj]));repeat' first|(with_reducible first|exact True.intro|refine And.intro ?_ ?_|intro _)|(((with_reducible refine AM ?_ ?_)<;>intro _)<;>try (simp -implicitDefEqProofs only [go_sem,h',hwj]))|simp (disch:=omega) only [AC,AH,AK,AJ,AD,AL,AI,AA]|((with_reducible refine AU ?_);refine⟨(_,_,_),rfl,?_,?_⟩)
       all_goals first|omega|(simp;done)|(simp;omega)|skip
       all_goals first|exact⟨i2,j4⟩|exact j4|exact i2|skip
   ·have hj':¬(j:Int) < (L:Int):=by omega
    rw [VX L mk m j (by omega),List.append_nil] at j4
    subst j3
    rw [←j4]
    (try (simp -implicitDefEqProofs only [go_sem,hj']));repeat' first|(with_reducible first|exact True.intro|refine And.intro ?_ ?_|intro _)|(((with_reducible refine AM ?_ ?_)<;>intro _)<;>try (simp -implicitDefEqProofs only [go_sem,hj']))|simp (disch:=omega) only [AC,AH,AK,AJ,AD,AL,AI,AA]|((with_reducible refine AU ?_);refine⟨(_,_,_),rfl,?_,?_⟩)
    all_goals first|omega|(simp;done)|(simp;omega)|skip
    all_goals first|rfl|skip
end Go.Pw
end
section
open Go Go.Pw Go.Proofs
namespace Go.Pw
set_option linter.unusedSimpArgs false
set_option linter.unusedVariables false
set_option maxRecDepth 100000
set_option maxHeartbeats 3200000
theorem Fz:∀(at_:List Nat) (w xs:List F) (i:Nat),at_.Nodup→at_.length=xs.length→(∀j,j∈at_→j < w.length)→i < at_.length→(Bh w at_ xs)[at_[i]?.getD 0]?.getD 0=xs[i]?.getD 0
 |j :: js,w,x :: xs,0,hn,hl,hlt,_=>by
  rw [List.nodup_cons] at hn
  show (Bh (w.set j x) js xs)[j]?.getD 0=x
  rw [FI js _ xs j hn.1,List.getElem?_set_self (hlt j (by simp))];rfl
 |j :: js,w,x :: xs,i+1,hn,hl,hlt,hi=>by
  rw [List.nodup_cons] at hn
  show (Bh (w.set j x) js xs)[js[i]?.getD 0]?.getD 0=xs[i]?.getD 0
  exact Fz js _ xs i hn.2 (by simpa using hl) (fun k hk=>by simpa using hlt k (by simp [hk])) (by simpa using hi)
theorem get_mem {l:List Nat} {i:Nat} (h:i < l.length):l[i]?.getD 0∈l:=by rw [Nu _ _ h];exact List.getElem_mem h
theorem Su {w xs ys:List F} {at_:List Nat} (hn:at_.Nodup) (hx:at_.length=xs.length) (hy:at_.length=ys.length) (hlt:∀j,j∈at_→j < w.length):Bh (Bh w at_ xs) at_ ys=Bh w at_ ys:=by
 apply Kn
 ·rw [D_,D_,D_]
 ·intro j hj
  show (Bh (Bh w at_ xs) at_ ys)[j]?.getD 0=(Bh w at_ ys)[j]?.getD 0
  by_cases h:j∈at_
  ·obtain⟨i,hi,rfl⟩:=List.getElem_of_mem h
   have e:at_[i]=at_[i]?.getD 0:=(Nu _ _ hi).symm
   rw [e,Fz at_ _ ys i hn hy (fun k hk=>by rw [D_];exact hlt k hk) hi,Fz at_ _ ys i hn hy hlt hi]
  ·rw [FI _ _ _ _ h,FI _ _ _ _ h,FI _ _ _ _ h]
theorem MS {w v:List F} {at_:List Nat} (hv:at_.length=v.length) (h:∀i,i < at_.length→w[at_[i]?.getD 0]?.getD 0=0):FA w at_ v=v:=by
 apply Kn
 ·rw [Fh _ _ _ hv,hv]
 ·intro i hi
  rw [Fh _ _ _ hv] at hi
  show (FA w at_ v)[i]?.getD 0=v[i]?.getD 0
  rw [Si _ _ _ i hi hv,h i hi,Gp]
def Wz (w:List F) (at_:List Nat):List F:=Bh w at_ (List.replicate at_.length 0)
theorem Pu (w:List F) (at_:List Nat):(Wz w at_).length=w.length:=D_ ..
theorem Uf {L P:Nat} {w v:List F} {at_:List Nat} (hw:w.length=L) (hp:RD L at_) (hv:at_.length=v.length):ND 1 (Iu L P at_ (Ej L P (Wz w at_))) v↔ND 1 (Iu L P at_ (Ej L P w)) (FA w at_ v):=by
 have hlt:∀j,j∈at_→j < w.length:=fun j hj=>by rw [hw];exact hp.lt j hj
 have hz:∀i,i < at_.length→(Wz w at_)[at_[i]?.getD 0]?.getD 0=0:=fun i hi=>by
  unfold Wz
  rw [Fz at_ w _ i hp.nd (by simp) hlt hi,List.getElem?_replicate,if_pos hi];rfl
 have ho:Bh (Wz w at_) at_ v=Bh w at_ v:=Su hp.nd (by simp) hv hlt
 rw [NK hv.symm,NK (by rw [Fh _ _ _ hv])]
 constructor
 ·intro h i hi
  have:=h i hi
  rw [←FK hw hp hv i hi,←ho,FK (by rw [Pu,hw]) hp hv i hi,MS hv hz]
  exact this
 ·intro h i hi
  have:=h i hi
  rw [←FK hw hp hv i hi,←ho,FK (by rw [Pu,hw]) hp hv i hi,MS hv hz] at this
  exact this
theorem ae {L P:Nat} (hL:L≤15) {w:List F} {mk l:List Nat} (hw:w.length=L) (hp:RD L (mk++l)) (hm:(mk++l).length≤P) :
  hit L P w mk l=(F0 L P (mk++l) (Ej L P (Wz w (mk++l)))).map (Bh w (mk++l)):=by
 unfold hit
 obtain⟨A,hA⟩:∃A,mk++l=A:=⟨_,rfl⟩
 rw [hA] at hp hm ⊢
 cases h:F0 L P A (Ej L P (Wz w A)) with
 |some v =>
  obtain⟨h1,h2⟩:=FL h
  rw [Jk hL hp hm (Fh _ _ _ h1.symm) ((Uf hw hp h1.symm).1 h2),Option.map_some,Option.map_some,Hn _ _ _ h1.symm]
 |none =>
  cases h':F0 L P A (Ej L P w) with
  |none=>rfl
  |some u =>
   exfalso
   obtain⟨h1,h2⟩:=FL h'
   have hl:=Fh w A u h1.symm
   have h3:ND 1 (Iu L P A (Ej L P (Wz w A))) (FA w A u):=(Uf hw hp hl.symm).2 (by rw [Hn _ _ _ h1.symm];exact h2)
   rw [Jk hL hp hm hl h3] at h
   cases h
theorem We {L P:Nat} (hL:L≤15) {d:List F} (hd:d.length+P=L):∃v,F0 L P (List.range' d.length P) (Ej L P (d++List.replicate P 0))=some v∧Bh (d++List.replicate P 0) (List.range' d.length P) v=CU P d:=by
 have hp:RD L (List.range' d.length P):=⟨List.nodup_range',fun j hj=>by simp at hj;omega⟩
 have hwl:(d++List.replicate P (0:F)).length=L:=by simp;omega
 have hcl:(CU P d).length=L:=by rw [CF];exact hd
 have h:=QT (P:=P) (mk:=[]) hL hwl hcl hp (by simp) (by rw [←hd];exact JQ P d) fun j hj=>by
  by_cases h2:j < d.length
  ·rw [Y6 P d j h2,List.getElem?_append_left h2]
  ·have h3:¬j < L:=fun h3=>hj (by simp;omega)
   rw [List.getElem?_eq_none (by omega),List.getElem?_eq_none (by omega)]
 unfold hit at h
 rw [Option.map_eq_some_iff] at h
 obtain⟨u,h1,h2⟩:=h
 refine⟨u,h1,?_⟩
 have hu:=(FL h1).1
 rw [List.nil_append] at h2 hu
 rwa [MS hu.symm] at h2
 intro i hi
 have hr:(List.range' d.length P)[i]?.getD 0=d.length+i:=by
  rw [List.length_range'] at hi
  rw [List.getElem?_range' (by omega)]
  show d.length+1 * i=_
  omega
 rw [hr,List.getElem?_append_right (by omega),List.getElem?_replicate]
 split<;>rfl
end Go.Pw
end
section
namespace Go.Pw
set_option linter.unusedSimpArgs false
set_option linter.unusedVariables false
theorem bG (L:Nat) (a b c:List F):(Em L a c []).length≤(Em L a b []).length+(Em L b c []).length:=by
 rw [←List.length_append]
 refine JH _ _ (Dk (H9 L a c []).asc) fun j hj=>?_
 unfold Em at hj ⊢
 simp only [List.mem_append,List.mem_filter,List.mem_range,ne_eq,List.contains_nil,Bool.not_false,Bool.and_true,decide_eq_true_eq] at hj ⊢
 by_cases h:a[j]?.getD 0=b[j]?.getD 0
 ·exact .inr ⟨hj.1,fun e=>hj.2 (h.trans e)⟩
 ·exact .inl ⟨hj.1,h⟩
theorem Y_ (L:Nat) (a b:List F) (mk:List Nat):Em L a b mk=Em L b a mk:=by
 unfold Em
 congr 1
 funext j
 congr 1
 rw [Bool.eq_iff_iff]
 simp only [ne_eq,decide_eq_true_eq]
 exact⟨fun h e=>h e.symm,fun h e=>h e.symm⟩
theorem Vx {L P:Nat} (hL:L≤15) {a b:List F} (ha:a.length=L) (hb:b.length=L) (h1:UU L P a) (h2:UU L P b) (h:(Em L a b []).length≤P):a=b:=by
 have hp:RD L (Em L a b []):=by simpa using LC (Ey L) (H9 L a b [])
 exact Ph hL ha hb hp h h1 h2 fun j hj=>Ju (mk:=[]) ha hb (by simpa using hj)
theorem Yu {L P:Nat} (hL:L≤15) {w R r:List F} (hw:w.length=L) (hR:R.length=L) (hcod:UU L P w) (hd:Cq L P R []=some r) (h:(Em L w R []).length+P / 2≤P):r=w:=by
 obtain⟨h1,h2,h3⟩:=E3 hR (Ey L) hd
 have h4:([]:List Nat).length=0:=rfl
 have h5:=bG L r R w
 rw [Y_ L R w] at h5
 exact Vx hL h2 hw h1 hcod (by omega)
end Go.Pw
end
section
open Go Go.Pw Go.Proofs
namespace Go.Pw
set_option linter.unusedSimpArgs false
set_option linter.unusedVariables false
set_option maxRecDepth 100000
set_option maxHeartbeats 3200000
theorem eF (mk:List Nat):nt (ni mk)=mk:=by
 unfold nt ni
 rw [List.map_map]
 exact List.map_id'' (fun x=>by simp) mk
theorem Wu {l p:Nat} (n1:Bool) {d:List F} (hc:BG l p=true) (hd:d.length+p=l) :
  B7 E0 FP [.agg [.int .i64 (l:Int),.int .i64 (p:Int)],.list n1 (AY (iv d))] (.tup [.list false (AY (iv (CU p d))),.int .i64 0]):=by
 have c:=GY l p n1 (iv d)
 have hs:Au (iv d) ((l:Int) - (p:Int))=true:=by rw [HQ,decide_eq_true_eq];omega
 have hb:=C3 hc
 unfold Qi Qj at c
 rw [if_pos hc,if_pos hs,if_pos hc,if_pos hs,PT,Int.toNat_natCast,Bs (show 0 < (CU p d).length by rw [CF];omega)] at c
 exact c
theorem Wv {l p:Nat} (n1 n2:Bool) {w:List F} {mk:List Nat} (hc:BG l p=true) (hw:w.length=l) (hm:Ca (ni mk) (l:Int)=true) :
  B7 E0 ED [.agg [.int .i64 (l:Int),.int .i64 (p:Int)],.list n1 (AY (iv w)),.list n2 (AY (ni mk))] (.tup [.list (iv (oL (Cq l p w mk))).isEmpty (AY (iv (oL (Cq l p w mk)))),.int .i64 (oE (Cq l p w mk))]):=by
 have c:=EY l p n1 n2 (iv w) (ni mk)
 have hs:Au (iv w) (l:Int)=true:=by rw [HQ,decide_eq_true_eq];omega
 unfold b8 di fA at c
 rw [if_pos hc,if_pos hs,if_pos hm,if_pos hc,if_pos hs,if_pos hm,PT,eF,Int.toNat_natCast,Int.toNat_natCast] at c
 exact c
theorem Vz (l:Int):Ca [] l=true:=rfl
theorem Ob {l p:Nat} (n1:Bool) {w:List F} (hc:BG l p=true) (hw:w.length=l) :
  B7 E0 ED [.agg [.int .i64 (l:Int),.int .i64 (p:Int)],.list n1 (AY (iv w)),.list true []] (.tup [.list (iv (oL (Cq l p w []))).isEmpty (AY (iv (oL (Cq l p w [])))),.int .i64 (oE (Cq l p w []))]) :=
 Wv n1 true (mk:=[]) hc hw (Vz _)
theorem MV {l:Nat} (n1 n2:Bool) {a b:List F} (ha:a.length=l) (hb:b.length=l) (hl:l≤1000) :
  B7 E0 HO [.list n1 (AY (iv a)),.list n2 (AY (iv b)),.list true []] (.int .i64 ((Em l a b []).length:Int)):=by
 have c:=My n1 n2 true (iv a) (iv b) (ni []) (by rw [DI,DI];omega) (by rw [DI];omega)
 rw [U_,DI,ha] at c
 exact c
theorem bH (l:Nat) (a b:List F):(Em l a b []).length≤l:=by
 have:=ZP (iv a) (iv b) (ni []) l
 rwa [U_] at this
theorem Y' {l p:Nat} {w:List F} {mk:List Nat} (h:p < mk.length):Cq l p w mk=none:=by unfold Cq;rw [if_neg (by omega)]
attribute [local congr] Ch BI BJ A0 Ci A5 A7 A6 Az Ar Am Ai A2 An A3 BR BV BT BU BS BW BO Ap A4 Aq BM Bm Ao BP BQ BN BK BL
attribute [local irreducible] IntKind.wrap A_ Option.getD and or
end Go.Pw
end
