/- A part of the proof. -/
import Derived.Test.YtlmkpaimjpdhiaaDoorCorrectDec
set_option linter.all false
section
open Go Go.Pw Go.Proofs
namespace Go.Pw
set_option linter.unusedSimpArgs false
set_option linter.unusedVariables false
set_option maxRecDepth 100000
set_option maxHeartbeats 3200000
abbrev R4:DN:=[((900004,0),(900004,0)),((901004,0),(901004,0))]
structure ep (G:List Nat→Option (List F)) (A:List Nat→Prop) (f:FuncId) (cs:List AV):Prop where
 body:B0 E0.P f=true
 st:AV.sites.sitesL cs=[900004,901004]
 nr:∀(V:AN) (os:List Nat),AV.nrm.live V os 900004 0=true→AV.nrm.live V os 901004 0=true→AV.nrm.nrmL V os cs=cs
 rn:AV.ren.renL R4 cs=some cs
 ar:Lo R4 cs cs
 call:∀(nl:Bool) (l:List Nat) (b:Bool) (o:List F) (fnd:Bool),A l→(nl=true→l=[])→Hw E0 f (vv b o fnd) (.d (.list nl (AY (ni l))) :: cs) (vh b o fnd (G l)) (.d (.bool (G l).isNone))
theorem OK:B0 E0.P Ba=true:=by kernel_rfl
theorem TR (b:Bool) (o:List F) (fnd:Bool):Nr (vv b o fnd)=true:=by simp [vv,Nr,CD,D5,AX.isHist]
theorem VY (L:Nat) (mk:List Nat) (m j:Nat) (G:List Nat→Option (List F)) (hj:j < L) :
  (A' L mk (m+1) j).findSome? G=if mk.contains j then (A' L mk (m+1) (j+1)).findSome? G else
   ((A' L mk m (j+1)).findSome? fun l=>G (j :: l)).or ((A' L mk (m+1) (j+1)).findSome? G):=by
 have hr:List.range' j (L - j)=j :: List.range' (j+1) (L - (j+1)):=by
  rw [show L - j=(L - (j+1))+1 by omega,List.range'_succ]
 simp only [A']
 rw [hr,List.filter_cons]
 cases h:mk.contains j with
 |true=>simp
 |false =>
  simp only [Bool.not_false,if_true,Bool.false_eq_true,if_false,List.flatMap_cons,List.findSome?_append]
  rw [List.findSome?_map];rfl
theorem XP (L:Nat) (mk:List Nat) (m:Nat):A' L mk (m+1) L=[]:=by simp [A']
theorem Rh (L:Nat) (mk:List Nat) (m fr:Nat) (l:List Nat) (h:l∈A' L mk m fr):l.length=m:=(F3 L mk m fr l h).1
theorem XN (L:Nat) (mk:List Nat) (m fr j:Nat) (l:List Nat) (hf:fr≤j) (hj:j < L) (hm:mk.contains j=false) (h:l∈A' L mk m (j+1)):j :: l∈A' L mk (m+1) fr:=by
 simp only [A',List.mem_flatMap,List.mem_filter,List.mem_range'_1,List.mem_map]
 exact⟨j,⟨⟨hf,by omega⟩,by simpa using hm⟩,l,h,rfl⟩
theorem To (mk:List Nat) (j:Nat):Tp (ni mk) (j:Int)=mk.contains j:=by
 unfold Tp ni
 rw [Bool.eq_iff_iff]
 simp only [List.contains_iff_mem,List.mem_map]
 constructor
 ·rintro⟨k,hk,he⟩
  have:k=j:=by omega
  subst this;exact hk
 ·exact fun h=>⟨j,h,rfl⟩
attribute [local congr] Ch BI BJ A0 Ci A5 A7 A6 Az Ar Am Ai A2 An A3 BR BV BT BU BS BW BO Ap A4 Aq BM Bm Ao BP BQ BN BK BL
attribute [local irreducible] IntKind.wrap A_ Option.getD and or
theorem Oy {G:List Nat→Option (List F)} {A:List Nat→Prop} {f:FuncId} {cs:List AV} (hY:ep G A f cs) (j:Nat) (nl:Bool) (l:List Nat) (b:Bool) (o:List F) (fnd:Bool) (hA:A (j :: l)) (hll:l.length≤100) :
  Hw E0 Ba (vv b o fnd) [.d (.list nl (AY (ni l))),.ablk false [.fn f cs] 0,.d (.ptr [.int .i64 (j:Int)])] (vh b o fnd (G (j :: l))) (.d (.bool (G (j :: l)).isNone)):=by
 have c1:=hY.call false (j :: l) b o fnd hA (by simp)
 have hst:=hY.st
 have hbody:=hY.body
 have hl:D.int .i64 (j:Int) :: AY (ni l)=AY (ni (j :: l)):=rfl
 have h1:((vv b o fnd).all fun q=>Ek (vh b o fnd (G (j :: l))) q.1 q.2.1)=true:=by cases G (j :: l)<;>simp [vv,vh,Ek]
 refine DQ GP Af (by simp) (TR b o fnd) h1 fun hwf hwo=>?_
 rw [Ee];unfold EG
 unfold vv at c1 ⊢
 have har:Lo R4 (.d (.list false (AY (ni (j :: l)))) :: cs) (.d (.list false (AY (ni (j :: l)))) :: cs):=⟨rfl,hY.ar⟩
 cases hg:G (j :: l) with
 |none =>
  rw [hg,H0] at c1
  rw [H0]
  unfold vv at c1 ⊢
  (try (simp -implicitDefEqProofs only [go_sem,hst,hbody,hl,Fo]));repeat' first|(with_reducible first|exact True.intro|refine And.intro ?_ ?_|intro _)|(((with_reducible refine AM ?_ ?_)<;>intro _)<;>try (simp -implicitDefEqProofs only [go_sem,hst,hbody,hl,Fo]))|simp (disch:=omega) only [AC,AH,AK,AJ,AD,AL,AI,AA]
  all_goals first|omega|(simp;done)|(simp;omega)|skip
  refine E4 R4 R4 c1 har (by simp [Handed,DN.get,AX.ren,AV.ren,AV.ren.renL,AN.get,Bg,B3,Dx,AN.reach,AV.sites,AV.sites.sitesL,AN.osites,hst]) (by simp [B9,Ek,CD,DN.get,Dx,D5,B2]) (by rfl) (by simp only [Dv,DN.get,AX.ren,AV.ren,AV.ren.renL,and_self,and_true,true_and,if_true,reduceIte];rfl) ?_
  (try (simp -implicitDefEqProofs only [go_sem,hst,Fo]));repeat' first|(with_reducible first|exact True.intro|refine And.intro ?_ ?_|intro _)|(((with_reducible refine AM ?_ ?_)<;>intro _)<;>try (simp -implicitDefEqProofs only [go_sem,hst,Fo]))|simp (disch:=omega) only [AC,AH,AK,AJ,AD,AL,AI,AA]
  all_goals first|omega|(simp;done)|(simp;omega)|skip
  all_goals first|rfl|skip
 |some z =>
  rw [hg,Hz] at c1
  rw [Hz]
  unfold vv at c1 ⊢
  (try (simp -implicitDefEqProofs only [go_sem,hst,hbody,hl,Fo]));repeat' first|(with_reducible first|exact True.intro|refine And.intro ?_ ?_|intro _)|(((with_reducible refine AM ?_ ?_)<;>intro _)<;>try (simp -implicitDefEqProofs only [go_sem,hst,hbody,hl,Fo]))|simp (disch:=omega) only [AC,AH,AK,AJ,AD,AL,AI,AA]
  all_goals first|omega|(simp;done)|(simp;omega)|skip
  refine E4 R4 R4 c1 har (by simp [Handed,DN.get,AX.ren,AV.ren,AV.ren.renL,AN.get,Bg,B3,Dx,AN.reach,AV.sites,AV.sites.sitesL,AN.osites,hst]) (by simp [B9,Ek,CD,DN.get,Dx,D5,B2]) (by rfl) (by simp only [Dv,DN.get,AX.ren,AV.ren,AV.ren.renL,and_self,and_true,true_and,if_true,reduceIte];rfl) ?_
  (try (simp -implicitDefEqProofs only [go_sem,hst,Fo]));repeat' first|(with_reducible first|exact True.intro|refine And.intro ?_ ?_|intro _)|(((with_reducible refine AM ?_ ?_)<;>intro _)<;>try (simp -implicitDefEqProofs only [go_sem,hst,Fo]))|simp (disch:=omega) only [AC,AH,AK,AJ,AD,AL,AI,AA]
  all_goals first|omega|(simp;done)|(simp;omega)|skip
  all_goals first|rfl|skip
theorem W2 {G:List Nat→Option (List F)} {A:List Nat→Prop} {f:FuncId} {cs:List AV} (hY:ep G A f cs) (j:Nat) :
  ep (fun l=>G (j :: l)) (fun l=>A (j :: l)∧l.length≤100) Ba [.ablk false [.fn f cs] 0,.d (.ptr [.int .i64 (j:Int)])] :=
 ⟨OK,by simp [AV.sites,AV.sites.sitesL,hY.st],fun V os h1 h2=>by simp [AV.nrm,AV.nrm.nrmL,hY.nr V os h1 h2,AV.one],by simp [AV.ren,AV.ren.renL,hY.rn],
  ⟨by simp [bX,AV.ren,AV.ren.renL,hY.rn],rfl,trivial⟩,fun nl l b o fnd hA _=>Oy hY j nl l b o fnd hA.1 hA.2⟩
theorem Mq (L P:Nat) (n:Bool) (mk:List Nat) (hL:L≤15):∀(m fr:Nat) {G:List Nat→Option (List F)} {A:List Nat→Prop} {f:FuncId} {cs:List AV} (hY:ep G A f cs) (hA:∀l,l∈A' L mk m fr→A l) (hfr:fr≤L) (hm:m≤50) (b:Bool) (o:List F) (fnd:Bool),
  Hw E0 E9 (vv b o fnd) [.d (MR L P),.d (.list n (AY (ni mk))),.d (.int .i64 (fr:Int)),.d (.int .i64 (m:Int)),.fn f cs] (vh b o fnd ((A' L mk m fr).findSome? G)) (.d (.bool ((A' L mk m fr).findSome? G).isNone))
 |0,fr,G,A,f,cs,hY,hA,hfr,hm,b,o,fnd=>by
  have e0:(A' L mk 0 fr).findSome? G=G []:=by simp [A']
  rw [e0]
  have c1:=hY.call true [] b o fnd (hA [] (by simp [A'])) (fun _=>rfl)
  rw [show AY (ni [])=[] from rfl] at c1
  have hst:=hY.st
  have hbody:=hY.body
  have h1:((vv b o fnd).all fun q=>Ek (vh b o fnd (G [])) q.1 q.2.1)=true:=by cases G []<;>simp [vv,vh,Ek]
  refine DQ EP Af (by simp) (TR b o fnd) h1 fun hwf hwo=>?_
  rw [Ee];unfold DF
  have har:Lo R4 (.d (.list true []) :: cs) (.d (.list true []) :: cs):=⟨rfl,hY.ar⟩
  have hz0:((0:Nat):Int)=0:=rfl
  cases hg:G [] with
  |none =>
   rw [hg,H0] at c1
   rw [H0]
   unfold vv at c1 ⊢
   (try (simp -implicitDefEqProofs only [go_sem,hst,hbody,Aj,hz0]));repeat' first|(with_reducible first|exact True.intro|refine And.intro ?_ ?_|intro _)|(((with_reducible refine AM ?_ ?_)<;>intro _)<;>try (simp -implicitDefEqProofs only [go_sem,hst,hbody,Aj,hz0]))|simp (disch:=omega) only [AC,AH,AK,AJ,AD,AL,AI,AA]|((with_reducible refine AW ?_);refine⟨_,rfl,?_,?_⟩)
   all_goals first|omega|(simp;done)|(simp;omega)|skip
   refine E4 R4 R4 c1 har (by simp [Handed,DN.get,AX.ren,AV.ren,AV.ren.renL,AN.get,Bg,B3,Dx,AN.reach,AV.sites,AV.sites.sitesL,AN.osites,hst]) (by simp [B9,Ek,CD,DN.get,Dx,D5,B2]) (by rfl) (by simp only [Dv,DN.get,AX.ren,AV.ren,AV.ren.renL,and_self,and_true,true_and,if_true,reduceIte];rfl) ?_
   (try (simp -implicitDefEqProofs only [go_sem,hst]));repeat' first|(with_reducible first|exact True.intro|refine And.intro ?_ ?_|intro _)|(((with_reducible refine AM ?_ ?_)<;>intro _)<;>try (simp -implicitDefEqProofs only [go_sem,hst]))|simp (disch:=omega) only [AC,AH,AK,AJ,AD,AL,AI,AA]|((with_reducible refine AW ?_);refine⟨_,rfl,?_,?_⟩)
   all_goals first|omega|(simp;done)|(simp;omega)|skip
   all_goals first|rfl|skip
  |some z =>
   rw [hg,Hz] at c1
   rw [Hz]
   unfold vv at c1 ⊢
   (try (simp -implicitDefEqProofs only [go_sem,hst,hbody,Aj,hz0]));repeat' first|(with_reducible first|exact True.intro|refine And.intro ?_ ?_|intro _)|(((with_reducible refine AM ?_ ?_)<;>intro _)<;>try (simp -implicitDefEqProofs only [go_sem,hst,hbody,Aj,hz0]))|simp (disch:=omega) only [AC,AH,AK,AJ,AD,AL,AI,AA]|((with_reducible refine AW ?_);refine⟨_,rfl,?_,?_⟩)
   all_goals first|omega|(simp;done)|(simp;omega)|skip
   refine E4 R4 R4 c1 har (by simp [Handed,DN.get,AX.ren,AV.ren,AV.ren.renL,AN.get,Bg,B3,Dx,AN.reach,AV.sites,AV.sites.sitesL,AN.osites,hst]) (by simp [B9,Ek,CD,DN.get,Dx,D5,B2]) (by rfl) (by simp only [Dv,DN.get,AX.ren,AV.ren,AV.ren.renL,and_self,and_true,true_and,if_true,reduceIte];rfl) ?_
   (try (simp -implicitDefEqProofs only [go_sem,hst]));repeat' first|(with_reducible first|exact True.intro|refine And.intro ?_ ?_|intro _)|(((with_reducible refine AM ?_ ?_)<;>intro _)<;>try (simp -implicitDefEqProofs only [go_sem,hst]))|simp (disch:=omega) only [AC,AH,AK,AJ,AD,AL,AI,AA]|((with_reducible refine AW ?_);refine⟨_,rfl,?_,?_⟩)
   all_goals first|omega|(simp;done)|(simp;omega)|skip
   all_goals first|rfl|skip
 |m+1,fr,G,A,f,cs,hY,hA,hfr,hm,b,o,fnd=>by
  have hst:=hY.st
  have hnr:=hY.nr
  have h1:((vv b o fnd).all fun q=>Ek (vh b o fnd ((A' L mk (m+1) fr).findSome? G)) q.1 q.2.1)=true:=by cases (A' L mk (m+1) fr).findSome? G<;>simp [vv,vh,Ek]
  refine DQ EP Af (by simp) (TR b o fnd) h1 fun hwf hwo=>?_
  rw [Ee];unfold DF
  have hz0:¬((m+1:Nat):Int)=0:=by omega
  have hwm:IntKind.i64.wrap (((m+1:Nat):Int) - 1)=(m:Int):=by rw [AC _ (by omega)];omega
  unfold vv
  (try (simp -implicitDefEqProofs only [go_sem,hst,hnr,Aj,hz0]));repeat' first|(with_reducible first|exact True.intro|refine And.intro ?_ ?_|intro _)|(((with_reducible refine AM ?_ ?_)<;>intro _)<;>try (simp -implicitDefEqProofs only [go_sem,hst,hnr,Aj,hz0]))|simp (disch:=omega) only [AC,AH,AK,AJ,AD,AL,AI,AA]|((with_reducible refine AW ?_);refine⟨_,rfl,?_,?_⟩)
  all_goals first|omega|(simp;done)|(simp;omega)|skip
  refine AS (α:=Nat) (l0:=?l1) (m0:=?m1) (fun x=>[]) (fun x=>[(11,.cells [.d (.int .i64 (x:Int))])]) (fun x=>fr≤x∧x≤L∧(A' L mk (m+1) x).findSome? G=(A' L mk (m+1) fr).findSome? G) (fun x=>L - x) fr ?h01 ?he1 ?he21 ?hI1 ?step1
  case h01=>(simp -implicitDefEqProofs only [go_sem,hst,hnr];rfl)
  case he1=>rfl
  case he21=>rfl
  case' step1=>(rintro j hI;try dsimp only at hI)
  case' hI1=>try dsimp only
  ·exact⟨by omega,hfr,rfl⟩
  ·obtain⟨j1,j2,j3⟩:=hI
   by_cases hj:j < L
   ·have hj':(j:Int) < (L:Int):=by omega
    have hwj:IntKind.i64.wrap ((j:Int)+1)=((j+1:Nat):Int):=by rw [AC _ (by omega)];omega
    have c0:=MU n (ni mk) (j:Int)
    rw [To] at c0
    have hnx:=VY L mk m j G hj
    cases hc:mk.contains j with
    |true =>
     rw [hc] at c0 hnx
     rw [if_pos rfl] at hnx
     have hfin:(A' L mk (m+1) (j+1)).findSome? G=(A' L mk (m+1) fr).findSome? G:=by rw [←j3,hnx]
     (try (simp -implicitDefEqProofs only [go_sem,hst,hnr,hj',hwj]));repeat' first|(with_reducible first|exact True.intro|refine And.intro ?_ ?_|intro _)|(((with_reducible refine isCall ?_);first|refine AG (c0) rfl ?_ ?_|refine AE (c0) rfl ?_|refine AB (c0) rfl ?_ ?_|refine AF (c0) rfl rfl ?_)<;>try (simp -implicitDefEqProofs only [go_sem,hst,hnr,hj',hwj]))|(((with_reducible refine AM ?_ ?_)<;>intro _)<;>try (simp -implicitDefEqProofs only [go_sem,hst,hnr,hj',hwj]))|simp (disch:=omega) only [AC,AH,AK,AJ,AD,AL,AI,AA]|((with_reducible refine AW ?_);refine⟨_,rfl,?_,?_⟩)
     all_goals first|omega|(simp;done)|(simp;omega)|skip
     all_goals first|exact hfin|skip
    |false =>
     rw [hc] at c0 hnx
     simp only [Bool.false_eq_true,if_false] at hnx
     have hYn:=W2 hY j
     have hlen:∀l,l∈A' L mk m (j+1)→l.length≤100:=fun l hl=>by rw [Rh L mk m (j+1) l hl];omega
     have ih:=Mq L P n mk hL m (j+1) hYn (fun l hl=>⟨hA _ (XN L mk m fr j l j1 hj hc hl),hlen l hl⟩) (by omega) (by omega) b o fnd
     have har:Lo R4 [.d (MR L P),.d (.list n (AY (ni mk))),.d (.int .i64 ((j+1:Nat):Int)),.d (.int .i64 (m:Int)),.fn Ba [.ablk false [.fn f cs] 0,.d (.ptr [.int .i64 (j:Int)])]] [.d (MR L P),.d (.list n (AY (ni mk))),.d (.int .i64 ((j+1:Nat):Int)),.d (.int .i64 (m:Int)),.fn Ba [.ablk false [.fn f cs] 0,.d (.ptr [.int .i64 (j:Int)])]] :=
      ⟨rfl,rfl,rfl,rfl,by simp [bX,AV.ren,AV.ren.renL,hY.rn],trivial⟩
     cases hr:(A' L mk m (j+1)).findSome? fun l=>G (j :: l) with
     |none =>
      rw [hr] at ih hnx
      have hfin:(A' L mk (m+1) (j+1)).findSome? G=(A' L mk (m+1) fr).findSome? G:=by rw [←j3,hnx];rfl
      rw [H0,Option.isNone_none] at ih
      rw [Aj] at ih har
      unfold vv at ih
      (try (simp -implicitDefEqProofs only [go_sem,hst,hnr,hj',hwj,hwm]));repeat' first|(with_reducible first|exact True.intro|refine And.intro ?_ ?_|intro _)|(((with_reducible refine isCall ?_);first|refine AG (c0) rfl ?_ ?_|refine AE (c0) rfl ?_|refine AB (c0) rfl ?_ ?_|refine AF (c0) rfl rfl ?_)<;>try (simp -implicitDefEqProofs only [go_sem,hst,hnr,hj',hwj,hwm]))|(((with_reducible refine AM ?_ ?_)<;>intro _)<;>try (simp -implicitDefEqProofs only [go_sem,hst,hnr,hj',hwj,hwm]))|simp (disch:=omega) only [AC,AH,AK,AJ,AD,AL,AI,AA]|((with_reducible refine AW ?_);refine⟨_,rfl,?_,?_⟩)
      all_goals first|omega|(simp;done)|(simp;omega)|skip
      refine E4 R4 R4 ih har (by simp [Handed,DN.get,AX.ren,AV.ren,AV.ren.renL,AN.get,Bg,B3,Dx,AN.reach,AV.sites,AV.sites.sitesL,AN.osites,hst]) (by simp [B9,Ek,CD,DN.get,Dx,D5,B2]) (by rfl) (by simp only [Dv,DN.get,AX.ren,AV.ren,AV.ren.renL,and_self,and_true,true_and,if_true,reduceIte];rfl) ?_
      (try (simp -implicitDefEqProofs only [go_sem,hst,hnr,hwj]));repeat' first|(with_reducible first|exact True.intro|refine And.intro ?_ ?_|intro _)|(((with_reducible refine AM ?_ ?_)<;>intro _)<;>try (simp -implicitDefEqProofs only [go_sem,hst,hnr,hwj]))|simp (disch:=omega) only [AC,AH,AK,AJ,AD,AL,AI,AA]|((with_reducible refine AW ?_);refine⟨_,rfl,?_,?_⟩)
      all_goals first|omega|(simp;done)|(simp;omega)|skip
      all_goals first|exact hfin|skip
     |some z =>
      rw [hr] at ih hnx
      have hfin:(A' L mk (m+1) fr).findSome? G=some z:=by rw [←j3,hnx];rfl
      rw [hfin,Hz]
      rw [Hz,Option.isNone_some] at ih
      rw [Aj] at ih har
      unfold vv at ih ⊢
      (try (simp -implicitDefEqProofs only [go_sem,hst,hnr,hj',hwj,hwm]));repeat' first|(with_reducible first|exact True.intro|refine And.intro ?_ ?_|intro _)|(((with_reducible refine isCall ?_);first|refine AG (c0) rfl ?_ ?_|refine AE (c0) rfl ?_|refine AB (c0) rfl ?_ ?_|refine AF (c0) rfl rfl ?_)<;>try (simp -implicitDefEqProofs only [go_sem,hst,hnr,hj',hwj,hwm]))|(((with_reducible refine AM ?_ ?_)<;>intro _)<;>try (simp -implicitDefEqProofs only [go_sem,hst,hnr,hj',hwj,hwm]))|simp (disch:=omega) only [AC,AH,AK,AJ,AD,AL,AI,AA]|((with_reducible refine AW ?_);refine⟨_,rfl,?_,?_⟩)
      all_goals first|omega|(simp;done)|(simp;omega)|skip
      refine E4 R4 R4 ih har (by simp [Handed,DN.get,AX.ren,AV.ren,AV.ren.renL,AN.get,Bg,B3,Dx,AN.reach,AV.sites,AV.sites.sitesL,AN.osites,hst]) (by simp [B9,Ek,CD,DN.get,Dx,D5,B2]) (by rfl) (by simp only [Dv,DN.get,AX.ren,AV.ren,AV.ren.renL,and_self,and_true,true_and,if_true,reduceIte];rfl) ?_
      (try (simp -implicitDefEqProofs only [go_sem,hst,hnr,hwj]));repeat' first|(with_reducible first|exact True.intro|refine And.intro ?_ ?_|intro _)|(((with_reducible refine AM ?_ ?_)<;>intro _)<;>try (simp -implicitDefEqProofs only [go_sem,hst,hnr,hwj]))|simp (disch:=omega) only [AC,AH,AK,AJ,AD,AL,AI,AA]|((with_reducible refine AW ?_);refine⟨_,rfl,?_,?_⟩)
      all_goals first|omega|(simp;done)|(simp;omega)|skip
      all_goals first|rfl|skip
   ·have hj':¬(j:Int) < (L:Int):=by omega
    have hje:j=L:=by omega
    subst hje
    have hfin:(A' j mk (m+1) fr).findSome? G=none:=by rw [←j3,XP];rfl
    rw [hfin,H0]
    unfold vv
    (try (simp -implicitDefEqProofs only [go_sem,hst,hnr,hj']));repeat' first|(with_reducible first|exact True.intro|refine And.intro ?_ ?_|intro _)|(((with_reducible refine AM ?_ ?_)<;>intro _)<;>try (simp -implicitDefEqProofs only [go_sem,hst,hnr,hj']))|simp (disch:=omega) only [AC,AH,AK,AJ,AD,AL,AI,AA]|((with_reducible refine AW ?_);refine⟨_,rfl,?_,?_⟩)
    all_goals first|omega|(simp;done)|(simp;omega)|skip
    all_goals first|rfl|skip
end Go.Pw
end
section
open Go Go.Pw Go.Proofs
namespace Go.Pw
set_option linter.unusedSimpArgs false
set_option linter.unusedVariables false
set_option maxRecDepth 100000
set_option maxHeartbeats 3200000
def bI (o:Option (List F)):D:=match o with
 |some r=>.tup [.list false (us r),.bool true]
 |none=>.tup [.list true [],.bool false]
theorem Jv (v:List F):bI (some v)=.tup [.list false (us v),.bool true]:=rfl
theorem Jw:bI none=.tup [.list true [],.bool false]:=rfl
theorem Oz:B0 E0.P CP=true:=by kernel_rfl
theorem GM {β:Type} {f:Nat→Option β} {e:Nat} {r:β} (h:∀i,i < e→f i=none) (he:f e=some r):∀N,e < N→(List.range N).findSome? f=some r
 |0,hN=>by omega
 |N+1,hN=>by
  rw [List.range_succ,List.findSome?_append]
  by_cases h2:e < N
  ·rw [GM h he N h2];rfl
  ·have:e=N:=by omega
   subst this
   have hn:(List.range e).findSome? f=none:=by
    rw [List.findSome?_eq_none_iff];exact fun i hi=>h i (by simpa using hi)
   rw [hn]
   simp [he]
noncomputable def Qv (L P:Nat) (w:List F) (mk:List Nat) (e:Nat):Option (List F):=(A' L mk e 0).findSome? (hit L P w mk)
theorem U8 {L P:Nat} {w r:List F} {mk:List Nat} {e:Nat} (h:∀i,i < e→Qv L P w mk i=none) (he:Qv L P w mk e=some r) (hb:2 * e+mk.length≤P):Cq L P w mk=some r:=by
 unfold Cq
 rw [if_pos (by omega)]
 exact GM h he _ (by omega)
theorem SN {L P:Nat} {w:List F} {mk:List Nat} {e:Nat} (h:∀i,i < e→Qv L P w mk i=none) (hb:¬2 * e+mk.length≤P):Cq L P w mk=none:=by
 unfold Cq
 split
 ·rw [List.findSome?_eq_none_iff]
  intro i hi
  simp at hi
  exact h i (by omega)
 ·rfl
theorem Zf {L P:Nat} {w:List F} {mk:List Nat} (n2:Bool) (hL:L≤15) (hL1:1≤L) (hP:1≤P) (hP2:P≤15) (hw:w.length=L) (hm:UR L mk) :
  ep (hit L P w mk) (fun l=>Pr L mk 0 l∧2 * l.length+mk.length≤P) CP [.d (.ptr [.list n2 (AY (ni mk))]),.d (.ptr [.int .i64 L,.int .i64 P]),.d (.ptr [.list false (us (Ej L P w))]),.d (.ptr [.list false (us w)]),.ptr 900004 0 0,.ptr 901004 0 0] :=
 ⟨Oz,rfl,fun V os h1 h2=>by simp [AV.nrm,AV.nrm.nrmL,h1,h2],rfl,⟨rfl,rfl,rfl,rfl,rfl,rfl,trivial⟩,fun nl l b o fnd hA _ =>
  Qr L P nl n2 false b fnd o w mk l hL hL1 hP hP2 hw (LC hm hA.1) (by have:=hA.2;simp;omega) rfl⟩
attribute [local congr] Ch BI BJ A0 Ci A5 A7 A6 Az Ar Am Ai A2 An A3 BR BV BT BU BS BW BO Ap A4 Aq BM Bm Ao BP BQ BN BK BL
attribute [local irreducible] IntKind.wrap A_ Option.getD and or
theorem EX (L P:Nat) (n1 n2:Bool) (w:List F) (mk:List Nat) (hL:L≤15) (hL1:1≤L) (hP:1≤P) (hP2:P≤15) (hw:w.length=L) (hm:UR L mk) (hml:mk.length≤100) (hn1:n1=false) :
  B7 E0 Dp [MR L P,.list n1 (us w),.list n2 (AY (ni mk))] (bI (Cq L P w mk)):=by
 subst hn1
 have c1:=MQ L P false w hL hL1 hP hP2 hw
 have hY:=Zf (P:=P) n2 hL hL1 hP hP2 hw hm
 refine AQ Hi Af (by simp) fun hwf=>?_
 rw [AR];unfold Eu
 rw [Aj] at c1 ⊢
 (try (simp -implicitDefEqProofs only [go_sem]));repeat' first|(with_reducible first|exact True.intro|refine And.intro ?_ ?_|intro _)|(((with_reducible refine isCall ?_);first|refine AG (c1) rfl ?_ ?_|refine AE (c1) rfl ?_|refine AB (c1) rfl ?_ ?_|refine AF (c1) rfl rfl ?_)<;>try (simp -implicitDefEqProofs only [go_sem]))|(((with_reducible refine AM ?_ ?_)<;>intro _)<;>try (simp -implicitDefEqProofs only [go_sem]))|simp (disch:=omega) only [AC,AH,AK,AJ,AD,AL,AI,AA]|((with_reducible refine A8 ?_);refine⟨(_,_,_,_),rfl,?_,?_⟩)
 all_goals first|omega|(simp;done)|(simp;omega)|skip
 refine AS (α:=Nat×Bool×(List F)×Bool) (l0:=?l1) (m0:=?m1) (fun x=>[(9,.d (.int .i64 (x.1:Int)))]) (fun x=>[(6,.cells [.d (.list x.2.1 (us x.2.2.1))]),(7,.cells [.d (.bool x.2.2.2)])]) (fun x=>x.1≤100∧((x.2.2.2=false∧x.2.1=true∧x.2.2.1=[]∧∀i,i < x.1→Qv L P w mk i=none)∨(x.2.2.2=true∧x.2.1=false∧Cq L P w mk=some x.2.2.1))) (fun x=>(if x.2.2.2 then 0 else 101 - x.1)) (0,true,[],false) ?h01 ?he1 ?he21 ?hI1 ?step1
 case h01=>(simp -implicitDefEqProofs only [go_sem];rfl)
 case he1=>rfl
 case he21=>rfl
 case' step1=>(rintro⟨e,b,o,fnd⟩ hI;try dsimp only at hI)
 case' hI1=>try dsimp only
 ·exact⟨by omega,.inl ⟨rfl,rfl,rfl,fun i hi=>absurd hi (by omega)⟩⟩
 ·obtain⟨h1,h2⟩:=hI
  have hw2:IntKind.i64.wrap (2 * (e:Int))=2 * (e:Int):=AC _ (by omega)
  have hw3:IntKind.i64.wrap (2 * (e:Int)+(mk.length:Int))=2 * (e:Int)+(mk.length:Int):=AC _ (by omega)
  have hw4:IntKind.i64.wrap ((e:Int)+1)=((e+1:Nat):Int):=by rw [AC _ (by omega)];omega
  rcases h2 with⟨rfl,rfl,rfl,h3⟩|⟨rfl,rfl,h3⟩
  ·by_cases hb:2 * e+mk.length≤P
   ·have hb':2 * (e:Int)+(mk.length:Int)≤(P:Int):=by omega
    have c2:=Mq L P n2 mk hL e 0 hY (fun l hl=>⟨(F3 L mk e 0 l hl).2,by rw [(F3 L mk e 0 l hl).1];exact hb⟩) (by omega) (by omega) true [] false
    rw [show (((0:Nat):Int))=0 from rfl] at c2
    rw [Aj] at c2
    obtain⟨R,hR⟩:∃R,Qv L P w mk e=R:=⟨_,rfl⟩
    rw [show (A' L mk e 0).findSome? (hit L P w mk)=R from hR] at c2
    cases R with
    |none =>
     rw [H0,Option.isNone_none] at c2
     unfold vv at c2
     have hn:∀i,i < e+1→Qv L P w mk i=none:=fun i hi=>by
      rcases Nat.lt_succ_iff_lt_or_eq.1 hi with hi|rfl
      ·exact h3 i hi
      ·exact hR
     (try (simp -implicitDefEqProofs only [go_sem,hw2,hw3,hb',hw4]));repeat' first|(with_reducible first|exact True.intro|refine And.intro ?_ ?_|intro _)|(((with_reducible refine isCall ?_);first|(refine E4 ([((900004,0),(6,0)),((901004,0),(7,0))]) ([((900004,0),(6,0)),((901004,0),(7,0))]) (c2) (by repeat' first|exact True.intro|exact rfl|refine And.intro ?_ ?_) (by simp [Handed,DN.get,AX.ren,AV.ren,AV.ren.renL,AN.get,Bg,B3,Dx,AN.reach,AV.sites,AV.sites.sitesL,AN.osites]) (by simp [B9,Ek,CD,DN.get,Dx,D5,B2]) (by rfl) (by simp only [Dv,DN.get,AX.ren,AV.ren,AV.ren.renL,and_self,and_true,true_and,if_true,reduceIte];rfl) ?_))<;>try (simp -implicitDefEqProofs only [go_sem,hw2,hw3,hb',hw4]))|(((with_reducible refine AM ?_ ?_)<;>intro _)<;>try (simp -implicitDefEqProofs only [go_sem,hw2,hw3,hb',hw4]))|simp (disch:=omega) only [AC,AH,AK,AJ,AD,AL,AI,AA]|((with_reducible refine A8 ?_);refine⟨(_,_,_,_),rfl,?_,?_⟩)
     all_goals first|omega|(simp;done)|(simp;omega)|skip
     all_goals first|exact .inl ⟨trivial,trivial,trivial,hn⟩|skip
    |some r =>
     have hfin:=U8 h3 hR hb
     rw [Hz,Option.isNone_some] at c2
     unfold vv at c2
     (try (simp -implicitDefEqProofs only [go_sem,hw2,hw3,hb',hw4]));repeat' first|(with_reducible first|exact True.intro|refine And.intro ?_ ?_|intro _)|(((with_reducible refine isCall ?_);first|(refine E4 ([((900004,0),(6,0)),((901004,0),(7,0))]) ([((900004,0),(6,0)),((901004,0),(7,0))]) (c2) (by repeat' first|exact True.intro|exact rfl|refine And.intro ?_ ?_) (by simp [Handed,DN.get,AX.ren,AV.ren,AV.ren.renL,AN.get,Bg,B3,Dx,AN.reach,AV.sites,AV.sites.sitesL,AN.osites]) (by simp [B9,Ek,CD,DN.get,Dx,D5,B2]) (by rfl) (by simp only [Dv,DN.get,AX.ren,AV.ren,AV.ren.renL,and_self,and_true,true_and,if_true,reduceIte];rfl) ?_))<;>try (simp -implicitDefEqProofs only [go_sem,hw2,hw3,hb',hw4]))|(((with_reducible refine AM ?_ ?_)<;>intro _)<;>try (simp -implicitDefEqProofs only [go_sem,hw2,hw3,hb',hw4]))|simp (disch:=omega) only [AC,AH,AK,AJ,AD,AL,AI,AA]|((with_reducible refine A8 ?_);refine⟨(_,_,_,_),rfl,?_,?_⟩)
     all_goals first|omega|(simp;done)|(simp;omega)|skip
     all_goals first|exact .inr ⟨trivial,trivial,hfin⟩|skip
   ·have hb':¬2 * (e:Int)+(mk.length:Int)≤(P:Int):=by omega
    rw [SN h3 hb,Jw]
    (try (simp -implicitDefEqProofs only [go_sem,hw2,hw3,hb',hw4]));repeat' first|(with_reducible first|exact True.intro|refine And.intro ?_ ?_|intro _)|(((with_reducible refine AM ?_ ?_)<;>intro _)<;>try (simp -implicitDefEqProofs only [go_sem,hw2,hw3,hb',hw4]))|simp (disch:=omega) only [AC,AH,AK,AJ,AD,AL,AI,AA]|((with_reducible refine A8 ?_);refine⟨(_,_,_,_),rfl,?_,?_⟩)
    all_goals first|omega|(simp;done)|(simp;omega)|skip
    all_goals first|rfl|skip
  ·rw [h3,Jv]
   (try (simp -implicitDefEqProofs only [go_sem,hw2,hw3,hw4]));repeat' first|(with_reducible first|exact True.intro|refine And.intro ?_ ?_|intro _)|(((with_reducible refine AM ?_ ?_)<;>intro _)<;>try (simp -implicitDefEqProofs only [go_sem,hw2,hw3,hw4]))|simp (disch:=omega) only [AC,AH,AK,AJ,AD,AL,AI,AA]|((with_reducible refine A8 ?_);refine⟨(_,_,_,_),rfl,?_,?_⟩)
   all_goals first|omega|(simp;done)|(simp;omega)|skip
   all_goals first|rfl|skip
end Go.Pw
end
